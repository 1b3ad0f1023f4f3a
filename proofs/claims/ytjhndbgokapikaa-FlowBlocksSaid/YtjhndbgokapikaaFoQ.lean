import Derived.Test.YtjhndbgokapikaaFoN
set_option linter.unusedSimpArgs false
set_option linter.unusedVariables false
namespace Go.Cm
open Go.Proofs Go.Fl
def aRB (op:Int):Bool:=!(decide (op<0)||(decide (255<op)||((decide (lY .and .i64 op 7≠4)&&decide (lY .and .i64 op 7≠7))||(decide (192<lY .andNot .i64 op 15)||(decide (lY .andNot .i64 op 15=128)&&decide (lY .and .i64 op 8≠0))))))
theorem aR_nat:∀n:Nat,n<256→(aRB n=aB n∧lY .andNot .i64 n 15=hi n∧lY .and .i64 n 7=cls n∧(rb n=0∨rb n=8)):=by decide +kernel
theorem Qa {op:Int}(h:¬(op<0∨255<op)):aRB op=aB op∧lY .andNot .i64 op 15=hi op∧lY .and .i64 op 7=cls op∧(rb op=0∨rb op=8):=by
 have h3:=aR_nat op.toNat (by omega);rw[show((op.toNat:Nat):Int)=op by omega] at h3;exact h3
theorem Np {op:Int}(h:op<0∨255<op):aB op=false∧jB op=false∧szO op=0:=by
 have h2:cls op = -1:=by rw[cls,if_pos h]
 exact⟨by rw[aB,h2];rfl,by rw[jB,h2];rfl,by rw[szO,h2];rfl⟩
set_option maxHeartbeats 8000000 in
theorem x53 (op:Int):FF 53 [.int .i64 op] []=some (aT op,[]):=by
 have hout:(op<0∨255<op)→aT op=.tuple [.int .i64 0,.bool false,.bool false]:=λh=>by rw[aT,(Np h).1];rfl
 by_cases h1:op<0
 ·rw[hout (.inl h1)]
  refine aL rfl Try.func53 s53 (Nat.le_of_ble_eq_true rfl) (λQ hqr hqn=>?_);rw[bf (show An.pure 53=true from rfl) (by simp only[cans,aG,az,aC,aH])];simp only[aO,Nat.reduceAdd,c53]
  repeat' (first
  |with_reducible (first|refine ai ?_|refine au rfl ?_|refine b6 ?_)
  |(with_reducible (first|(refine ah (λK hK=>?_);(first|refine Is ?_|refine It ?_|refine Kv ?_|refine Kw ?_|refine L4 ?_))|refine hqr _ ?_);(try simp only[true_implies,false_implies,not_true_eq_false,b9,if_true,if_false,Nat.reduceEqDiff,aJ,dg,eN,bq,gT,br,nL,qz,qy,lw,bI,Option.map_some,ic,gf,dU,uR,q9,and_true,if_false,if_true,r53,aQ,ak,aD,Option.bind_some,am,bz,jx,bW,h1,gt_iff_lt,ne_eq]))
  |(revert hK;intro hK;(with_reducible refine hK _ ?_;clear hK K)))
 by_cases h2:255<op
 ·rw[hout (.inr h2)]
  refine aL rfl Try.func53 s53 (Nat.le_of_ble_eq_true rfl) (λQ hqr hqn=>?_);rw[bf (show An.pure 53=true from rfl) (by simp only[cans,aG,az,aC,aH])];simp only[aO,Nat.reduceAdd,c53]
  repeat' (first
  |with_reducible (first|refine ai ?_|refine au rfl ?_|refine b6 ?_)
  |(with_reducible (first|(refine ah (λK hK=>?_);(first|refine Is ?_|refine It ?_|refine Kv ?_|refine Kw ?_|refine L4 ?_))|refine hqr _ ?_);(try simp only[true_implies,false_implies,not_true_eq_false,not_false_eq_true,b9,if_true,if_false,Nat.reduceEqDiff,aJ,dg,eN,bq,gT,br,nL,qz,qy,lw,bI,Option.map_some,ic,gf,dU,uR,q9,and_true,true_and,if_false,if_true,r53,aQ,ak,aD,Option.bind_some,am,bz,jx,bW,h1,h2,gt_iff_lt,ne_eq]))
  |(revert hK;intro hK;(with_reducible refine hK _ ?_;clear hK K)))
 obtain⟨e1,e2,e3,_⟩:=Qa (op:=op) (by omega);obtain⟨c,hc⟩:∃c,c=lY .and .i64 op 7:=⟨_,rfl⟩;obtain⟨o,ho⟩:∃o,o=lY .andNot .i64 op 15:=⟨_,rfl⟩;obtain⟨r,hr⟩:∃r,r=lY .and .i64 op 8:=⟨_,rfl⟩;have hj:aRB op=!(decide (op<0)||(decide (255<op)||((decide (c≠4)&&decide (c≠7))||(decide (192<o)||(decide (o=128)&&decide (r≠0)))))):=by rw[hc,ho,hr];rfl
 have haT:aT op=if aRB op=true then .tuple [.int .i64 o,.bool (decide (c=7)),.bool true] else .tuple [.int .i64 0,.bool false,.bool false]:=by
  rw[ho,hc,e2,e3,e1];rfl
 have hf:((c≠4∧c≠7)∨192<o∨(o=128∧r≠0))→aT op=.tuple [.int .i64 0,.bool false,.bool false]:=λh=>by
  rw[haT,if_neg];rw[hj];simp;omega
 have ht:¬((c≠4∧c≠7)∨192<o∨(o=128∧r≠0))→aT op=.tuple [.int .i64 o,.bool (decide (c=7)),.bool true]:=λh=>by
  rw[haT,if_pos];rw[hj];simp;omega
 clear hj haT hout
 by_cases h4:c=4∨c=7
 ·have hcc:(c=4∧¬c=7)∨(¬c=4∧c=7):=by omega
  by_cases o1:192<o
  ·rw[hf (by omega)]
   rcases hcc with⟨h,h'⟩|⟨h,h'⟩
   ·skip
    refine aL rfl Try.func53 s53 (Nat.le_of_ble_eq_true rfl) (λQ hqr hqn=>?_);rw[bf (show An.pure 53=true from rfl) (by simp only[cans,aG,az,aC,aH])];simp only[aO,Nat.reduceAdd,c53]
    repeat' (first
    |with_reducible (first|refine ai ?_|refine au rfl ?_|refine b6 ?_)
    |(with_reducible (first|(refine ah (λK hK=>?_);(first|refine Is ?_|refine It ?_|refine Kv ?_|refine Kw ?_|refine L4 ?_))|refine hqr _ ?_);(try simp only[true_implies,false_implies,not_true_eq_false,not_false_eq_true,b9,if_true,if_false,Nat.reduceEqDiff,aJ,dg,eN,bq,gT,br,nL,qz,qy,lw,bI,Option.map_some,ic,gf,dU,uR,q9,and_true,true_and,if_false,if_true,r53,aQ,ak,aD,Option.bind_some,am,bz,jx,bW,←hc,←ho,←hr,h1,h2,gt_iff_lt,ne_eq,h,h',o1]))
    |(revert hK;intro hK;(with_reducible refine hK _ ?_;clear hK K)))
    all_goals first|rfl|simp_all
   ·skip
    refine aL rfl Try.func53 s53 (Nat.le_of_ble_eq_true rfl) (λQ hqr hqn=>?_);rw[bf (show An.pure 53=true from rfl) (by simp only[cans,aG,az,aC,aH])];simp only[aO,Nat.reduceAdd,c53]
    repeat' (first
    |with_reducible (first|refine ai ?_|refine au rfl ?_|refine b6 ?_)
    |(with_reducible (first|(refine ah (λK hK=>?_);(first|refine Is ?_|refine It ?_|refine Kv ?_|refine Kw ?_|refine L4 ?_))|refine hqr _ ?_);(try simp only[true_implies,false_implies,not_true_eq_false,not_false_eq_true,b9,if_true,if_false,Nat.reduceEqDiff,aJ,dg,eN,bq,gT,br,nL,qz,qy,lw,bI,Option.map_some,ic,gf,dU,uR,q9,and_true,true_and,if_false,if_true,r53,aQ,ak,aD,Option.bind_some,am,bz,jx,bW,←hc,←ho,←hr,h1,h2,gt_iff_lt,ne_eq,h,h',o1]))
    |(revert hK;intro hK;(first|refine And.intro ?_ ?_|intro _|omega|(with_reducible refine hK _ ?_;clear hK K))))
    all_goals first|rfl|simp_all
  by_cases o2:o=128
  ·by_cases r0:r=0
   ·rw[ht (by omega)]
    rcases hcc with⟨h,h'⟩|⟨h,h'⟩
    ·skip
     refine aL rfl Try.func53 s53 (Nat.le_of_ble_eq_true rfl) (λQ hqr hqn=>?_);rw[bf (show An.pure 53=true from rfl) (by simp only[cans,aG,az,aC,aH])];simp only[aO,Nat.reduceAdd,c53]
     repeat' (first
     |with_reducible (first|refine ai ?_|refine ar ?_|refine ax rfl ?_|refine aF ?_)
     |(with_reducible (first|(refine ah (λK hK=>?_);(first|refine Is ?_|refine It ?_|refine Kv ?_|refine Kw ?_|refine NV ?_))|refine hqr _ ?_);(try simp only[true_implies,false_implies,not_true_eq_false,not_false_eq_true,b9,if_true,if_false,Nat.reduceEqDiff,aJ,dg,eN,bq,gT,br,nL,qz,qy,lw,bI,Option.map_some,ic,gf,dU,uR,q9,and_true,true_and,if_false,if_true,r53,aQ,ak,aD,Option.bind_some,am,bz,jx,bW,Prod.mk.injEq,←hc,←ho,←hr,h1,h2,gt_iff_lt,ne_eq,h,h',o1,o2,r0]))
     |(revert hK;intro hK;(first|refine And.intro ?_ ?_|intro _|omega|(with_reducible refine hK _ ?_;clear hK K))))
     all_goals first|rfl|simp_all
    ·skip
     refine aL rfl Try.func53 s53 (Nat.le_of_ble_eq_true rfl) (λQ hqr hqn=>?_);rw[bf (show An.pure 53=true from rfl) (by simp only[cans,aG,az,aC,aH])];simp only[aO,Nat.reduceAdd,c53]
     repeat' (first
     |with_reducible (first|refine ai ?_|refine ar ?_|refine ax rfl ?_|refine aF ?_)
     |(with_reducible (first|(refine ah (λK hK=>?_);(first|refine Is ?_|refine It ?_|refine Kv ?_|refine Kw ?_|refine NV ?_))|refine hqr _ ?_);(try simp only[true_implies,false_implies,not_true_eq_false,not_false_eq_true,b9,if_true,if_false,Nat.reduceEqDiff,aJ,dg,eN,bq,gT,br,nL,qz,qy,lw,bI,Option.map_some,ic,gf,dU,uR,q9,and_true,true_and,decide_true,if_false,if_true,r53,aQ,ak,aD,Option.bind_some,am,bz,jx,bW,←hc,←ho,←hr,h1,h2,gt_iff_lt,ne_eq,h,h',o1,o2,r0]))
     |(revert hK;intro hK;(first|refine And.intro ?_ ?_|intro _|omega|(with_reducible refine hK _ ?_;clear hK K))))
     all_goals first|rfl|simp_all
   ·rw[hf (by omega)]
    rcases hcc with⟨h,h'⟩|⟨h,h'⟩
    ·skip
     refine aL rfl Try.func53 s53 (Nat.le_of_ble_eq_true rfl) (λQ hqr hqn=>?_);rw[bf (show An.pure 53=true from rfl) (by simp only[cans,aG,az,aC,aH])];simp only[aO,Nat.reduceAdd,c53]
     repeat' (first
     |with_reducible (first|refine ai ?_|refine au rfl ?_|refine b6 ?_)
     |(with_reducible (first|(refine ah (λK hK=>?_);(first|refine Is ?_|refine It ?_|refine Kv ?_|refine Kw ?_|refine L4 ?_))|refine hqr _ ?_);(try simp only[true_implies,false_implies,not_true_eq_false,not_false_eq_true,b9,if_true,if_false,Nat.reduceEqDiff,aJ,dg,eN,bq,gT,br,nL,qz,qy,lw,bI,Option.map_some,ic,gf,dU,uR,q9,and_true,true_and,if_false,if_true,r53,aQ,ak,aD,Option.bind_some,am,bz,jx,bW,←hc,←ho,←hr,h1,h2,gt_iff_lt,ne_eq,h,h',o1,o2,r0]))
     |(revert hK;intro hK;(first|refine And.intro ?_ ?_|intro _|omega|(with_reducible refine hK _ ?_;clear hK K))))
     all_goals first|rfl|simp_all
    ·skip
     refine aL rfl Try.func53 s53 (Nat.le_of_ble_eq_true rfl) (λQ hqr hqn=>?_);rw[bf (show An.pure 53=true from rfl) (by simp only[cans,aG,az,aC,aH])];simp only[aO,Nat.reduceAdd,c53]
     repeat' (first
     |with_reducible (first|refine ai ?_|refine au rfl ?_|refine b6 ?_)
     |(with_reducible (first|(refine ah (λK hK=>?_);(first|refine Is ?_|refine It ?_|refine Kv ?_|refine Kw ?_|refine L4 ?_))|refine hqr _ ?_);(try simp only[true_implies,false_implies,not_true_eq_false,not_false_eq_true,b9,if_true,if_false,Nat.reduceEqDiff,aJ,dg,eN,bq,gT,br,nL,qz,qy,lw,bI,Option.map_some,ic,gf,dU,uR,q9,and_true,true_and,if_false,if_true,r53,aQ,ak,aD,Option.bind_some,am,bz,jx,bW,←hc,←ho,←hr,h1,h2,gt_iff_lt,ne_eq,h,h',o1,o2,r0]))
     |(revert hK;intro hK;(first|refine And.intro ?_ ?_|intro _|omega|(with_reducible refine hK _ ?_;clear hK K))))
     all_goals first|rfl|simp_all
  rw[ht (by omega)];rcases hcc with⟨h,h'⟩|⟨h,h'⟩
  ·skip
   refine aL rfl Try.func53 s53 (Nat.le_of_ble_eq_true rfl) (λQ hqr hqn=>?_);rw[bf (show An.pure 53=true from rfl) (by simp only[cans,aG,az,aC,aH])];simp only[aO,Nat.reduceAdd,c53]
   repeat' (first
   |with_reducible (first|refine ai ?_|refine ar ?_|refine ax rfl ?_|refine aF ?_)
   |(with_reducible (first|(refine ah (λK hK=>?_);(first|refine Is ?_|refine It ?_|refine Kv ?_|refine Kw ?_|refine NV ?_))|refine hqr _ ?_);(try simp only[true_implies,false_implies,not_true_eq_false,not_false_eq_true,b9,if_true,if_false,Nat.reduceEqDiff,aJ,dg,eN,bq,gT,br,nL,qz,qy,lw,bI,Option.map_some,ic,gf,dU,uR,q9,and_true,true_and,if_false,if_true,r53,aQ,ak,aD,Option.bind_some,am,bz,jx,bW,Prod.mk.injEq,←hc,←ho,←hr,h1,h2,gt_iff_lt,ne_eq,h,h',o1,o2]))
   |(revert hK;intro hK;(first|refine And.intro ?_ ?_|intro _|omega|(with_reducible refine hK _ ?_;clear hK K))))
   all_goals first|rfl|simp_all
  ·skip
   refine aL rfl Try.func53 s53 (Nat.le_of_ble_eq_true rfl) (λQ hqr hqn=>?_);rw[bf (show An.pure 53=true from rfl) (by simp only[cans,aG,az,aC,aH])];simp only[aO,Nat.reduceAdd,c53]
   repeat' (first
   |with_reducible (first|refine ai ?_|refine ar ?_|refine ax rfl ?_|refine aF ?_)
   |(with_reducible (first|(refine ah (λK hK=>?_);(first|refine Is ?_|refine It ?_|refine Kv ?_|refine Kw ?_|refine NV ?_))|refine hqr _ ?_);(try simp only[true_implies,false_implies,not_true_eq_false,not_false_eq_true,b9,if_true,if_false,Nat.reduceEqDiff,aJ,dg,eN,bq,gT,br,nL,qz,qy,lw,bI,Option.map_some,ic,gf,dU,uR,q9,and_true,true_and,decide_true,if_false,if_true,r53,aQ,ak,aD,Option.bind_some,am,bz,jx,bW,←hc,←ho,←hr,h1,h2,gt_iff_lt,ne_eq,h,h',o1,o2]))
   |(revert hK;intro hK;(first|refine And.intro ?_ ?_|intro _|omega|(with_reducible refine hK _ ?_;clear hK K))))
   all_goals first|rfl|simp_all
 ·rw[hf (by omega)]
  have h4a:¬c=4:=λe=>h4 (.inl e);have h4b:¬c=7:=λe=>h4 (.inr e);refine aL rfl Try.func53 s53 (Nat.le_of_ble_eq_true rfl) (λQ hqr hqn=>?_);rw[bf (show An.pure 53=true from rfl) (by simp only[cans,aG,az,aC,aH])];simp only[aO,Nat.reduceAdd,c53]
  repeat' (first
  |with_reducible (first|refine ai ?_|refine au rfl ?_|refine b6 ?_)
  |(with_reducible (first|(refine ah (λK hK=>?_);(first|refine Is ?_|refine It ?_|refine Kv ?_|refine Kw ?_|refine L4 ?_))|refine hqr _ ?_);(try simp only[true_implies,false_implies,not_false_eq_true,b9,if_true,if_false,Nat.reduceEqDiff,aJ,dg,eN,bq,gT,br,nL,qz,qy,lw,bI,Option.map_some,ic,gf,dU,uR,q9,true_and,if_false,if_true,r53,aQ,ak,aD,Option.bind_some,am,bz,jx,bW,←hc,←ho,←hr,h1,h2,gt_iff_lt,ne_eq,h4a,h4b]))
  |(revert hK;intro hK;(with_reducible refine hK _ ?_;clear hK K)))
  all_goals first|rfl|simp_all
def szR (op:Int):Int:=if op=97∨op=98∨op=99 then 4 else if op=105∨op=106∨op=107 then 2 else if op=113∨op=114∨op=115 then 1 else if op=121∨op=122∨op=123 then 8 else 0
theorem szR_nat:∀n:Nat,n<256→szR n=szO n:=by decide +kernel
theorem szR_eq (op:Int):szR op=szO op:=by
 by_cases h:op<0∨255<op
 ·rw[(Np h).2.2]
  unfold szR;rw[if_neg (by omega),if_neg (by omega),if_neg (by omega),if_neg (by omega)]
 ·have h3:=szR_nat op.toNat (by omega)
  rw[show((op.toNat:Nat):Int)=op by omega] at h3;exact h3
set_option maxHeartbeats 8000000 in
theorem x58 (op:Int):FF 58 [.int .i64 op] []=some (.int .i64 (szO op),[]):=by
 rw[←szR_eq]
 by_cases h:op=97∨op=98∨op=99∨op=105∨op=106∨op=107∨op=113∨op=114∨op=115∨op=121∨op=122∨op=123
 ·rcases h with rfl|rfl|rfl|rfl|rfl|rfl|rfl|rfl|rfl|rfl|rfl|rfl
  all_goals exact xK.2 ⟨20,by kernel_rfl⟩
 ·have he:szR op=0:=by
   unfold szR;rw[if_neg (by omega),if_neg (by omega),if_neg (by omega),if_neg (by omega)]
  simp only[not_or] at h;rw[he];refine aL rfl Try.func58 s58 (Nat.le_of_ble_eq_true rfl) (λQ hqr hqn=>?_);rw[bf (show An.pure 58=true from rfl) (by simp only[cans,aG,az,aC,aH])];simp only[aO,Nat.reduceAdd,c58]
  repeat' (first
  |with_reducible (first|refine ai ?_|refine ax rfl ?_|refine d7 rfl ?_|refine aF ?_|refine bx ?_|refine aj (id:=0) (λQ0 hn0 hx0 hr0 ho0=>?_)|refine hn0 _ ?_)
  |(with_reducible (first|(refine ah (λK hK=>?_);(first|refine t58r0 ?_|refine t58r1 ?_|refine t58r2 ?_|refine t58r3 ?_|refine t58r4 ?_|refine t58r6 ?_|refine t58r7 ?_|refine t58r8 ?_|refine t58r10 ?_|refine t58r11 ?_|refine t58r12 ?_|refine t58r14 ?_|refine t58r15 ?_|refine t58r16 ?_|refine t58r18 ?_))|refine hqr _ ?_);(try simp only[true_implies,false_implies,not_false_eq_true,b9,if_true,if_false,Nat.reduceEqDiff,aJ,dg,gT,Option.map_some,true_and,if_false,if_true,r58,aQ,ak,aD,Option.bind_some,am,bz,aV,h]))
  |(revert hK;intro hK;(with_reducible refine hK _ ?_;clear hK K)))
theorem k58 {op:Int}{fid:FuncId}{d:Tmp}{m:Mem}:cd An FF fid (some d) 58 [.int .i64 op] m=some (.int .i64 (szO op),m):=
 cr (x58 op) (λ_ _ _=>rfl) rfl rfl rfl rfl rfl
theorem x56 (n a b:Int):FF 56 [.int .i64 n,.int .i64 a,.int .i64 b] []=some (.bool (inB n a b),[]):=by
 unfold inB
 by_cases h0:a≤n
 ·by_cases h1:n≤b
  ·refine aL rfl Try.func56 s56 (Nat.le_of_ble_eq_true rfl) (λQ hqr hqn=>?_)
   rw[bf (show An.pure 56=true from rfl) (by simp only[cans,aG,az,aC,aH])];simp only[aO,Nat.reduceAdd,c56]
   repeat' (first
   |with_reducible refine aF ?_
   |(with_reducible (first|(refine ah (λK hK=>?_);(first|refine Q5 ?_|refine Q6 ?_))|refine hqr _ ?_);(try simp only[true_implies,false_implies,not_true_eq_false,b9,if_true,if_false,Nat.reduceEqDiff,aJ,dg,cB,gU,nL,lw,Option.map_some,ic,gf,dU,and_self,and_true,decide_true,if_false,if_true,r56,aQ,ak,aD,Option.bind_some,am,jx,aV,h0,h1,ge_iff_le]))
   |(revert hK;intro hK;(with_reducible refine hK _ ?_;clear hK K)))
   all_goals simp
  ·refine aL rfl Try.func56 s56 (Nat.le_of_ble_eq_true rfl) (λQ hqr hqn=>?_)
   rw[bf (show An.pure 56=true from rfl) (by simp only[cans,aG,az,aC,aH])];simp only[aO,Nat.reduceAdd,c56]
   repeat' (first
   |with_reducible refine aF ?_
   |(with_reducible (first|(refine ah (λK hK=>?_);(first|refine Q5 ?_|refine Q6 ?_))|refine hqr _ ?_);(try simp only[true_implies,false_implies,not_true_eq_false,not_false_eq_true,b9,if_true,if_false,Nat.reduceEqDiff,aJ,dg,cB,gU,nL,lw,Option.map_some,ic,gf,dU,and_true,true_and,decide_false,if_false,if_true,r56,aQ,ak,aD,Option.bind_some,am,jx,aV,h0,h1,ge_iff_le]))
   |(revert hK;intro hK;(with_reducible refine hK _ ?_;clear hK K)))
   all_goals simp
 ·refine aL rfl Try.func56 s56 (Nat.le_of_ble_eq_true rfl) (λQ hqr hqn=>?_)
  rw[bf (show An.pure 56=true from rfl) (by simp only[cans,aG,az,aC,aH])];simp only[aO,Nat.reduceAdd,c56]
  repeat' (first
  |with_reducible refine aF ?_
  |(with_reducible (first|(refine ah (λK hK=>?_);(first|refine Q5 ?_|refine Q6 ?_))|refine hqr _ ?_);(try simp only[true_implies,false_implies,not_false_eq_true,b9,if_true,if_false,Nat.reduceEqDiff,aJ,dg,cB,gU,nL,lw,Option.map_some,ic,gf,dU,and_true,true_and,if_false,if_true,r56,aQ,ak,aD,Option.bind_some,am,jx,aV,Prod.mk.injEq,CV.bool.injEq,h0,ge_iff_le]))
  |(revert hK;intro hK;(with_reducible refine hK _ ?_;clear hK K)))
  all_goals simp
theorem k56 {n a b:Int}{fid:FuncId}{d:Tmp}{m:Mem}:cd An FF fid (some d) 56 [.int .i64 n,.int .i64 a,.int .i64 b] m=some (.bool (inB n a b),m):=
 cr (x56 n a b) (λ_ _ _=>rfl) rfl rfl rfl rfl rfl
def nE (x:In) (d:Int) (s f i:Bool):Bool:=KB x d&&((s||decide (x.src=0))&&((f||decide (x.off=0))&&((i||decide (x.imm=0))&&decide (x.wide=0))))
set_option maxHeartbeats 8000000 in
theorem x55 (x:In) (d:Int) (s f i:Bool):FF 55 [.agg (inC x),.int .i64 d,.bool s,.bool f,.bool i] []=some (.bool (nE x d s f i),[]):=by
 obtain⟨b1,e1⟩:∃b,b=inB x.dst 0 d:=⟨_,rfl⟩;obtain⟨b2,e2⟩:∃b,b=inB x.src 0 10:=⟨_,rfl⟩;obtain⟨b3,e3⟩:∃b,b=inB x.off (-32768) 32767:=⟨_,rfl⟩;obtain⟨b4,e4⟩:∃b,b=inB x.imm (-2147483648) 2147483647:=⟨_,rfl⟩;have he:nE x d s f i=((b1&&(b2&&(b3&&b4)))&&((s||decide (x.src=0))&&((f||decide (x.off=0))&&((i||decide (x.imm=0))&&decide (x.wide=0))))):=by rw[e1,e2,e3,e4];rfl
 have k1:∀t m,cd An FF 55 (some t) 56 [.int .i64 x.dst,.int .i64 0,.int .i64 d] m=some (.bool b1,m):=λt m=>by rw[e1,k56]
 have k2:∀t m,cd An FF 55 (some t) 56 [.int .i64 x.src,.int .i64 0,.int .i64 10] m=some (.bool b2,m):=λt m=>by rw[e2,k56]
 have k3:∀t m,cd An FF 55 (some t) 56 [.int .i64 x.off,.int .i64 (-32768),.int .i64 32767] m=some (.bool b3,m):=λt m=>by rw[e3,k56]
 have k4:∀t m,cd An FF 55 (some t) 56 [.int .i64 x.imm,.int .i64 (-2147483648),.int .i64 2147483647] m=some (.bool b4,m):=λt m=>by rw[e4,k56]
 rw[he];clear he e1 e2 e3 e4
 cases b1 with
 |false=>
  refine aL rfl Try.func55 s55 (Nat.le_of_ble_eq_true rfl) (λQ hqr hqn=>?_);rw[bf (show An.pure 55=true from rfl) (by simp only[cans,aG,az,aC,aH,aC,inE.can])];simp only[aO,Nat.reduceAdd,c55]
  repeat' (first
  |with_reducible (first|refine ai ?_|refine au rfl ?_|refine b6 ?_)
  |(with_reducible (first|(refine ah (λK hK=>?_);(first|refine pl ?_|refine pm ?_|refine NW ?_))|refine hqr _ ?_);(try simp only[b9,if_true,if_false,Nat.reduceEqDiff,ap,aJ,dg,qO,qP,ba,ik,Nat.zero_add,cb,eX,cw,List.getElem?_cons_zero,List.getElem?_cons_succ,fc,qz,Option.map_some,ic,Bool.not_false,and_true,if_false,if_true,r55,aQ,ak,aD,Option.bind_some,am,jx,aV,Prod.mk.injEq,CV.bool.injEq,inC,k1]))
  |(revert hK;intro hK;(with_reducible refine hK _ ?_;clear hK K)))
  all_goals first|rfl|simp
 |true=>
  cases b2 with
  |false=>
   refine aL rfl Try.func55 s55 (Nat.le_of_ble_eq_true rfl) (λQ hqr hqn=>?_);rw[bf (show An.pure 55=true from rfl) (by simp only[cans,aG,az,aC,aH,aC,inE.can])];simp only[aO,Nat.reduceAdd,c55]
   repeat' (first
   |with_reducible (first|refine ai ?_|refine au rfl ?_|refine b6 ?_)
   |(with_reducible (first|(refine ah (λK hK=>?_);(first|refine pl ?_|refine pm ?_|refine NW ?_))|refine hqr _ ?_);(try simp only[b9,if_true,if_false,Nat.reduceEqDiff,ap,aJ,dg,qO,qP,ba,ik,Nat.zero_add,cb,eX,cw,List.getElem?_cons_zero,List.getElem?_cons_succ,fc,qz,qy,Option.map_some,ic,gf,Bool.not_true,Bool.not_false,dU,and_true,Bool.true_and,if_false,if_true,r55,aQ,ak,aD,Option.bind_some,am,jx,aV,Prod.mk.injEq,CV.bool.injEq,inC,k1,k2]))
   |(revert hK;intro hK;(with_reducible refine hK _ ?_;clear hK K)))
   all_goals first|rfl|simp
  |true=>
   cases b3 with
   |false=>
    refine aL rfl Try.func55 s55 (Nat.le_of_ble_eq_true rfl) (λQ hqr hqn=>?_);rw[bf (show An.pure 55=true from rfl) (by simp only[cans,aG,az,aC,aH,aC,inE.can])];simp only[aO,Nat.reduceAdd,c55]
    repeat' (first
    |with_reducible (first|refine ai ?_|refine au rfl ?_|refine b6 ?_)
    |(with_reducible (first|(refine ah (λK hK=>?_);(first|refine pl ?_|refine pm ?_|refine NW ?_))|refine hqr _ ?_);(try simp only[b9,if_true,if_false,Nat.reduceEqDiff,ap,aJ,dg,qO,qP,ba,ik,Nat.zero_add,cb,eX,cw,List.getElem?_cons_zero,List.getElem?_cons_succ,fc,qz,qy,Option.map_some,ic,gf,Bool.not_true,Bool.not_false,dU,and_true,Bool.true_and,if_false,if_true,r55,aQ,ak,aD,Option.bind_some,am,jx,aV,Prod.mk.injEq,CV.bool.injEq,inC,k1,k2,k3]))
    |(revert hK;intro hK;(with_reducible refine hK _ ?_;clear hK K)))
    all_goals first|rfl|simp
   |true=>
    cases b4 with
    |false=>
     refine aL rfl Try.func55 s55 (Nat.le_of_ble_eq_true rfl) (λQ hqr hqn=>?_);rw[bf (show An.pure 55=true from rfl) (by simp only[cans,aG,az,aC,aH,aC,inE.can])];simp only[aO,Nat.reduceAdd,c55]
     repeat' (first
     |with_reducible (first|refine ai ?_|refine au rfl ?_|refine b6 ?_)
     |(with_reducible (first|(refine ah (λK hK=>?_);(first|refine pl ?_|refine pm ?_|refine NW ?_))|refine hqr _ ?_);(try simp only[b9,if_true,if_false,Nat.reduceEqDiff,ap,aJ,dg,qO,qP,ba,ik,Nat.zero_add,cb,eX,cw,List.getElem?_cons_zero,List.getElem?_cons_succ,fc,qy,Option.map_some,gf,Bool.not_true,Bool.not_false,dU,and_true,Bool.true_and,if_false,if_true,r55,aQ,ak,aD,Option.bind_some,am,jx,aV,Prod.mk.injEq,CV.bool.injEq,inC,k1,k2,k3,k4]))
     |(revert hK;intro hK;(with_reducible refine hK _ ?_;clear hK K)))
     all_goals first|rfl|simp
    |true=>
     simp only[Bool.and_self,Bool.true_and]
     cases s with
     |true=>
      cases f with
      |true=>
       cases i with
       |true=>
        refine aL rfl Try.func55 s55 (Nat.le_of_ble_eq_true rfl) (λQ hqr hqn=>?_);rw[bf (show An.pure 55=true from rfl) (by simp only[cans,aG,az,aC,aH,aC,inE.can])];simp only[aO,Nat.reduceAdd,c55]
        repeat' (first
        |with_reducible (first|refine ai ?_|refine ar ?_|refine ax rfl ?_|refine aF ?_)
        |(with_reducible (first|(refine ah (λK hK=>?_);(first|refine pl ?_|refine pm ?_|refine uW ?_))|refine hqr _ ?_);(try simp only[b9,if_true,if_false,Nat.reduceEqDiff,ap,aJ,dg,qO,qP,ba,ik,Nat.zero_add,cb,eX,cw,List.getElem?_cons_zero,List.getElem?_cons_succ,gT,fc,nL,qz,qy,Option.map_some,ic,gf,Bool.not_true,dU,and_true,Bool.true_and,Bool.true_or,if_false,if_true,r55,aQ,ak,aD,Option.bind_some,am,jx,aV,Prod.mk.injEq,CV.bool.injEq,inC,k1,k2,k3,k4]))
        |(revert hK;intro hK;(first|refine And.intro ?_ ?_|intro _|(with_reducible refine hK _ ?_;clear hK K))))
        all_goals first|rfl|simp_all
       |false=>
        by_cases hi:x.imm=0
        ·skip
         refine aL rfl Try.func55 s55 (Nat.le_of_ble_eq_true rfl) (λQ hqr hqn=>?_);rw[bf (show An.pure 55=true from rfl) (by simp only[cans,aG,az,aC,aH,aC,inE.can])];simp only[aO,Nat.reduceAdd,c55]
         repeat' (first
         |with_reducible (first|refine ai ?_|refine ar ?_|refine ax rfl ?_|refine aF ?_)
         |(with_reducible (first|(refine ah (λK hK=>?_);(first|refine pl ?_|refine pm ?_|refine uW ?_))|refine hqr _ ?_);(try simp only[true_implies,false_implies,not_true_eq_false,b9,if_true,if_false,Nat.reduceEqDiff,ap,aJ,dg,qO,qP,ba,ik,Nat.zero_add,cb,eX,cw,List.getElem?_cons_zero,List.getElem?_cons_succ,gT,fc,nL,qz,qy,lw,Option.map_some,ic,gf,Bool.not_true,dU,and_true,Bool.true_and,decide_true,Bool.true_or,Bool.or_true,if_false,if_true,r55,aQ,ak,aD,Option.bind_some,am,jx,aV,Prod.mk.injEq,CV.bool.injEq,inC,k1,k2,k3,k4,eq_true hi]))
         |(revert hK;intro hK;(first|refine And.intro ?_ ?_|intro _|(with_reducible refine hK _ ?_;clear hK K))))
         all_goals first|rfl|simp_all
        ·skip
         refine aL rfl Try.func55 s55 (Nat.le_of_ble_eq_true rfl) (λQ hqr hqn=>?_);rw[bf (show An.pure 55=true from rfl) (by simp only[cans,aG,az,aC,aH,aC,inE.can])];simp only[aO,Nat.reduceAdd,c55]
         repeat' (first
         |with_reducible (first|refine ai ?_|refine ar ?_|refine ax rfl ?_|refine aF ?_)
         |(with_reducible (first|(refine ah (λK hK=>?_);(first|refine pl ?_|refine pm ?_|refine uW ?_))|refine hqr _ ?_);(try simp only[true_implies,false_implies,not_false_eq_true,b9,if_true,if_false,Nat.reduceEqDiff,ap,aJ,dg,qO,qP,ba,ik,Nat.zero_add,cb,eX,cw,List.getElem?_cons_zero,List.getElem?_cons_succ,gT,fc,nL,qz,qy,lw,Option.map_some,ic,gf,Bool.not_true,dU,and_true,true_and,Bool.true_and,decide_false,Bool.true_or,Bool.or_false,if_false,if_true,r55,aQ,ak,aD,Option.bind_some,am,jx,aV,Prod.mk.injEq,CV.bool.injEq,inC,k1,k2,k3,k4,hi]))
         |(revert hK;intro hK;(with_reducible refine hK _ ?_;clear hK K)))
         all_goals first|rfl|simp_all
      |false=>
       by_cases ho:x.off=0
       ·skip
        cases i with
        |true=>
         refine aL rfl Try.func55 s55 (Nat.le_of_ble_eq_true rfl) (λQ hqr hqn=>?_);rw[bf (show An.pure 55=true from rfl) (by simp only[cans,aG,az,aC,aH,aC,inE.can])];simp only[aO,Nat.reduceAdd,c55]
         repeat' (first
         |with_reducible (first|refine ai ?_|refine ar ?_|refine ax rfl ?_|refine aF ?_)
         |(with_reducible (first|(refine ah (λK hK=>?_);(first|refine pl ?_|refine pm ?_|refine uW ?_))|refine hqr _ ?_);(try simp only[true_implies,false_implies,not_true_eq_false,b9,if_true,if_false,Nat.reduceEqDiff,ap,aJ,dg,qO,qP,ba,ik,Nat.zero_add,cb,eX,cw,List.getElem?_cons_zero,List.getElem?_cons_succ,gT,fc,nL,qz,qy,lw,bI,Option.map_some,ic,gf,Bool.not_true,dU,and_true,Bool.true_and,decide_true,Bool.true_or,Bool.or_true,if_false,if_true,r55,aQ,ak,aD,Option.bind_some,am,jx,aV,Prod.mk.injEq,CV.bool.injEq,inC,k1,k2,k3,k4,eq_true ho]))
         |(revert hK;intro hK;(first|refine And.intro ?_ ?_|intro _|(with_reducible refine hK _ ?_;clear hK K))))
         all_goals first|rfl|simp_all
        |false=>
         by_cases hi:x.imm=0
         ·skip
          refine aL rfl Try.func55 s55 (Nat.le_of_ble_eq_true rfl) (λQ hqr hqn=>?_);rw[bf (show An.pure 55=true from rfl) (by simp only[cans,aG,az,aC,aH,aC,inE.can])];simp only[aO,Nat.reduceAdd,c55]
          repeat' (first
          |with_reducible (first|refine ai ?_|refine ar ?_|refine ax rfl ?_|refine aF ?_)
          |(with_reducible (first|(refine ah (λK hK=>?_);(first|refine pl ?_|refine pm ?_|refine uW ?_))|refine hqr _ ?_);(try simp only[true_implies,false_implies,not_true_eq_false,b9,if_true,if_false,Nat.reduceEqDiff,ap,aJ,dg,qO,qP,ba,ik,Nat.zero_add,cb,eX,cw,List.getElem?_cons_zero,List.getElem?_cons_succ,gT,fc,nL,qz,qy,lw,bI,Option.map_some,ic,gf,Bool.not_true,dU,and_true,Bool.true_and,decide_true,Bool.true_or,Bool.or_true,if_false,if_true,r55,aQ,ak,aD,Option.bind_some,am,jx,aV,Prod.mk.injEq,CV.bool.injEq,inC,k1,k2,k3,k4,eq_true ho,eq_true hi]))
          |(revert hK;intro hK;(first|refine And.intro ?_ ?_|intro _|(with_reducible refine hK _ ?_;clear hK K))))
          all_goals first|rfl|simp_all
         ·skip
          refine aL rfl Try.func55 s55 (Nat.le_of_ble_eq_true rfl) (λQ hqr hqn=>?_);rw[bf (show An.pure 55=true from rfl) (by simp only[cans,aG,az,aC,aH,aC,inE.can])];simp only[aO,Nat.reduceAdd,c55]
          repeat' (first
          |with_reducible (first|refine ai ?_|refine ar ?_|refine ax rfl ?_|refine aF ?_)
          |(with_reducible (first|(refine ah (λK hK=>?_);(first|refine pl ?_|refine pm ?_|refine uW ?_))|refine hqr _ ?_);(try simp only[true_implies,false_implies,not_true_eq_false,not_false_eq_true,b9,if_true,if_false,Nat.reduceEqDiff,ap,aJ,dg,qO,qP,ba,ik,Nat.zero_add,cb,eX,cw,List.getElem?_cons_zero,List.getElem?_cons_succ,gT,fc,nL,qz,qy,lw,bI,Option.map_some,ic,gf,Bool.not_true,dU,and_true,true_and,Bool.true_and,decide_false,decide_true,Bool.true_or,Bool.or_false,Bool.or_true,if_false,if_true,r55,aQ,ak,aD,Option.bind_some,am,jx,aV,Prod.mk.injEq,CV.bool.injEq,inC,k1,k2,k3,k4,eq_true ho,hi]))
          |(revert hK;intro hK;(with_reducible refine hK _ ?_;clear hK K)))
          all_goals first|rfl|simp_all
       ·skip
        refine aL rfl Try.func55 s55 (Nat.le_of_ble_eq_true rfl) (λQ hqr hqn=>?_);rw[bf (show An.pure 55=true from rfl) (by simp only[cans,aG,az,aC,aH,aC,inE.can])];simp only[aO,Nat.reduceAdd,c55]
        repeat' (first
        |with_reducible (first|refine ai ?_|refine ar ?_|refine ax rfl ?_|refine aF ?_)
        |(with_reducible (first|(refine ah (λK hK=>?_);(first|refine pl ?_|refine pm ?_|refine uW ?_))|refine hqr _ ?_);(try simp only[true_implies,false_implies,not_false_eq_true,b9,if_true,if_false,Nat.reduceEqDiff,ap,aJ,dg,qO,qP,ba,ik,Nat.zero_add,cb,eX,cw,List.getElem?_cons_zero,List.getElem?_cons_succ,gT,fc,nL,qz,qy,lw,bI,Option.map_some,ic,gf,fE,Lv,Bool.not_true,dU,and_true,true_and,Bool.true_and,decide_false,Bool.true_or,Bool.or_false,if_false,if_true,r55,aQ,ak,aD,Option.bind_some,am,jx,aV,Prod.mk.injEq,CV.bool.injEq,inC,k1,k2,k3,k4,ho]))
        |(revert hK;intro hK;(with_reducible refine hK _ ?_;clear hK K)))
        all_goals first|rfl|simp_all
     |false=>
      by_cases hs:x.src=0
      ·skip
       cases f with
       |true=>
        cases i with
        |true=>
         refine aL rfl Try.func55 s55 (Nat.le_of_ble_eq_true rfl) (λQ hqr hqn=>?_);rw[bf (show An.pure 55=true from rfl) (by simp only[cans,aG,az,aC,aH,aC,inE.can])];simp only[aO,Nat.reduceAdd,c55]
         repeat' (first
         |with_reducible (first|refine ai ?_|refine ar ?_|refine ax rfl ?_|refine aF ?_)
         |(with_reducible (first|(refine ah (λK hK=>?_);(first|refine pl ?_|refine pm ?_|refine uW ?_))|refine hqr _ ?_);(try simp only[true_implies,false_implies,not_true_eq_false,b9,if_true,if_false,Nat.reduceEqDiff,ap,aJ,dg,qO,qP,ba,ik,Nat.zero_add,cb,eX,cw,List.getElem?_cons_zero,List.getElem?_cons_succ,gT,fc,nL,qz,qy,lw,bI,Option.map_some,ic,gf,Bool.not_true,dU,and_true,Bool.true_and,decide_true,Bool.true_or,Bool.or_true,if_false,if_true,r55,aQ,ak,aD,Option.bind_some,am,jx,aV,Prod.mk.injEq,CV.bool.injEq,inC,k1,k2,k3,k4,eq_true hs]))
         |(revert hK;intro hK;(first|refine And.intro ?_ ?_|intro _|(with_reducible refine hK _ ?_;clear hK K))))
         all_goals first|rfl|simp_all
        |false=>
         by_cases hi:x.imm=0
         ·skip
          refine aL rfl Try.func55 s55 (Nat.le_of_ble_eq_true rfl) (λQ hqr hqn=>?_);rw[bf (show An.pure 55=true from rfl) (by simp only[cans,aG,az,aC,aH,aC,inE.can])];simp only[aO,Nat.reduceAdd,c55]
          repeat' (first
          |with_reducible (first|refine ai ?_|refine ar ?_|refine ax rfl ?_|refine aF ?_)
          |(with_reducible (first|(refine ah (λK hK=>?_);(first|refine pl ?_|refine pm ?_|refine uW ?_))|refine hqr _ ?_);(try simp only[true_implies,false_implies,not_true_eq_false,b9,if_true,if_false,Nat.reduceEqDiff,ap,aJ,dg,qO,qP,ba,ik,Nat.zero_add,cb,eX,cw,List.getElem?_cons_zero,List.getElem?_cons_succ,gT,fc,nL,qz,qy,lw,bI,Option.map_some,ic,gf,Bool.not_true,dU,and_true,Bool.true_and,decide_true,Bool.true_or,Bool.or_true,if_false,if_true,r55,aQ,ak,aD,Option.bind_some,am,jx,aV,Prod.mk.injEq,CV.bool.injEq,inC,k1,k2,k3,k4,eq_true hs,eq_true hi]))
          |(revert hK;intro hK;(first|refine And.intro ?_ ?_|intro _|(with_reducible refine hK _ ?_;clear hK K))))
          all_goals first|rfl|simp_all
         ·skip
          refine aL rfl Try.func55 s55 (Nat.le_of_ble_eq_true rfl) (λQ hqr hqn=>?_);rw[bf (show An.pure 55=true from rfl) (by simp only[cans,aG,az,aC,aH,aC,inE.can])];simp only[aO,Nat.reduceAdd,c55]
          repeat' (first
          |with_reducible (first|refine ai ?_|refine ar ?_|refine ax rfl ?_|refine aF ?_)
          |(with_reducible (first|(refine ah (λK hK=>?_);(first|refine pl ?_|refine pm ?_|refine uW ?_))|refine hqr _ ?_);(try simp only[true_implies,false_implies,not_true_eq_false,not_false_eq_true,b9,if_true,if_false,Nat.reduceEqDiff,ap,aJ,dg,qO,qP,ba,ik,Nat.zero_add,cb,eX,cw,List.getElem?_cons_zero,List.getElem?_cons_succ,gT,fc,nL,qz,qy,lw,bI,Option.map_some,ic,gf,Bool.not_true,dU,and_true,true_and,Bool.true_and,decide_false,decide_true,Bool.true_or,Bool.or_false,Bool.or_true,if_false,if_true,r55,aQ,ak,aD,Option.bind_some,am,jx,aV,Prod.mk.injEq,CV.bool.injEq,inC,k1,k2,k3,k4,eq_true hs,hi]))
          |(revert hK;intro hK;(with_reducible refine hK _ ?_;clear hK K)))
          all_goals first|rfl|simp_all
       |false=>
        by_cases ho:x.off=0
        ·skip
         cases i with
         |true=>
          refine aL rfl Try.func55 s55 (Nat.le_of_ble_eq_true rfl) (λQ hqr hqn=>?_);rw[bf (show An.pure 55=true from rfl) (by simp only[cans,aG,az,aC,aH,aC,inE.can])];simp only[aO,Nat.reduceAdd,c55]
          repeat' (first
          |with_reducible (first|refine ai ?_|refine ar ?_|refine ax rfl ?_|refine aF ?_)
          |(with_reducible (first|(refine ah (λK hK=>?_);(first|refine pl ?_|refine pm ?_|refine uW ?_))|refine hqr _ ?_);(try simp only[true_implies,false_implies,not_true_eq_false,b9,if_true,if_false,Nat.reduceEqDiff,ap,aJ,dg,qO,qP,ba,ik,Nat.zero_add,cb,eX,cw,List.getElem?_cons_zero,List.getElem?_cons_succ,gT,fc,nL,qz,qy,lw,bI,Option.map_some,ic,gf,Bool.not_true,dU,and_true,Bool.true_and,decide_true,Bool.true_or,Bool.or_true,if_false,if_true,r55,aQ,ak,aD,Option.bind_some,am,jx,aV,Prod.mk.injEq,CV.bool.injEq,inC,k1,k2,k3,k4,eq_true hs,eq_true ho]))
          |(revert hK;intro hK;(first|refine And.intro ?_ ?_|intro _|(with_reducible refine hK _ ?_;clear hK K))))
          all_goals first|rfl|simp_all
         |false=>
          by_cases hi:x.imm=0
          ·skip
           refine aL rfl Try.func55 s55 (Nat.le_of_ble_eq_true rfl) (λQ hqr hqn=>?_);rw[bf (show An.pure 55=true from rfl) (by simp only[cans,aG,az,aC,aH,aC,inE.can])];simp only[aO,Nat.reduceAdd,c55]
           repeat' (first
           |with_reducible (first|refine ai ?_|refine ar ?_|refine ax rfl ?_|refine aF ?_)
           |(with_reducible (first|(refine ah (λK hK=>?_);(first|refine pl ?_|refine pm ?_|refine uW ?_))|refine hqr _ ?_);(try simp only[true_implies,false_implies,not_true_eq_false,b9,if_true,if_false,Nat.reduceEqDiff,ap,aJ,dg,qO,qP,ba,ik,Nat.zero_add,cb,eX,cw,List.getElem?_cons_zero,List.getElem?_cons_succ,gT,fc,nL,qy,lw,bI,Option.map_some,ic,gf,Bool.not_true,dU,and_true,Bool.true_and,decide_true,Bool.or_true,if_false,if_true,r55,aQ,ak,aD,Option.bind_some,am,jx,aV,Prod.mk.injEq,CV.bool.injEq,inC,k1,k2,k3,k4,eq_true hs,eq_true ho,eq_true hi]))
           |(revert hK;intro hK;(first|refine And.intro ?_ ?_|intro _|(with_reducible refine hK _ ?_;clear hK K))))
           all_goals first|rfl|simp_all
          ·skip
           refine aL rfl Try.func55 s55 (Nat.le_of_ble_eq_true rfl) (λQ hqr hqn=>?_);rw[bf (show An.pure 55=true from rfl) (by simp only[cans,aG,az,aC,aH,aC,inE.can])];simp only[aO,Nat.reduceAdd,c55]
           repeat' (first
           |with_reducible (first|refine ai ?_|refine ar ?_|refine ax rfl ?_|refine aF ?_)
           |(with_reducible (first|(refine ah (λK hK=>?_);(first|refine pl ?_|refine pm ?_|refine uW ?_))|refine hqr _ ?_);(try simp only[true_implies,false_implies,not_true_eq_false,not_false_eq_true,b9,if_true,if_false,Nat.reduceEqDiff,ap,aJ,dg,qO,qP,ba,ik,Nat.zero_add,cb,eX,cw,List.getElem?_cons_zero,List.getElem?_cons_succ,gT,fc,nL,qy,lw,bI,Option.map_some,ic,gf,Bool.not_true,dU,and_true,true_and,Bool.true_and,decide_false,decide_true,Bool.or_false,Bool.or_true,if_false,if_true,r55,aQ,ak,aD,Option.bind_some,am,jx,aV,Prod.mk.injEq,CV.bool.injEq,inC,k1,k2,k3,k4,eq_true hs,eq_true ho,hi]))
           |(revert hK;intro hK;(with_reducible refine hK _ ?_;clear hK K)))
           all_goals first|rfl|simp_all
        ·skip
         refine aL rfl Try.func55 s55 (Nat.le_of_ble_eq_true rfl) (λQ hqr hqn=>?_);rw[bf (show An.pure 55=true from rfl) (by simp only[cans,aG,az,aC,aH,aC,inE.can])];simp only[aO,Nat.reduceAdd,c55]
         repeat' (first
         |with_reducible (first|refine ai ?_|refine ar ?_|refine ax rfl ?_|refine aF ?_)
         |(with_reducible (first|(refine ah (λK hK=>?_);(first|refine pl ?_|refine pm ?_|refine uW ?_))|refine hqr _ ?_);(try simp only[true_implies,false_implies,not_true_eq_false,not_false_eq_true,b9,if_true,if_false,Nat.reduceEqDiff,ap,aJ,dg,qO,qP,ba,ik,Nat.zero_add,cb,eX,cw,List.getElem?_cons_zero,List.getElem?_cons_succ,gT,fc,nL,qy,lw,bI,Option.map_some,ic,gf,fE,Lv,Bool.not_true,dU,and_true,true_and,Bool.true_and,decide_false,decide_true,Bool.or_false,Bool.or_true,if_false,if_true,r55,aQ,ak,aD,Option.bind_some,am,jx,aV,Prod.mk.injEq,CV.bool.injEq,inC,k1,k2,k3,k4,eq_true hs,ho]))
         |(revert hK;intro hK;(with_reducible refine hK _ ?_;clear hK K)))
         all_goals first|rfl|simp_all
      ·skip
       refine aL rfl Try.func55 s55 (Nat.le_of_ble_eq_true rfl) (λQ hqr hqn=>?_);rw[bf (show An.pure 55=true from rfl) (by simp only[cans,aG,az,aC,aH,aC,inE.can])];simp only[aO,Nat.reduceAdd,c55]
       repeat' (first
       |with_reducible (first|refine ai ?_|refine ar ?_|refine ax rfl ?_|refine aF ?_)
       |(with_reducible (first|(refine ah (λK hK=>?_);(first|refine pl ?_|refine pm ?_|refine uW ?_))|refine hqr _ ?_);(try simp only[true_implies,false_implies,not_false_eq_true,b9,if_true,if_false,Nat.reduceEqDiff,ap,aJ,dg,qO,qP,ba,ik,Nat.zero_add,cb,eX,cw,List.getElem?_cons_zero,List.getElem?_cons_succ,gT,fc,nL,qy,lw,bI,Option.map_some,ic,gf,fE,Lv,Bool.not_true,dU,and_true,true_and,decide_false,Bool.or_false,if_false,if_true,r55,aQ,ak,aD,Option.bind_some,am,jx,aV,Prod.mk.injEq,CV.bool.injEq,inC,k1,k2,k3,k4,hs]))
       |(revert hK;intro hK;(with_reducible refine hK _ ?_;clear hK K)))
       all_goals first|rfl|simp_all
theorem k55 {x:In}{dd:Int}{s f i:Bool}{fid:FuncId}{d:Tmp}{m:Mem}:cd An FF fid (some d) 55 [.agg (inC x),.int .i64 dd,.bool s,.bool f,.bool i] m=some (.bool (nE x dd s f i),m):=
 cr (x55 x dd s f i) (λ_ _ _=>rfl) rfl (by simp only[cans,aC,aG,az,inE.can]) rfl rfl rfl
end Go.Cm
