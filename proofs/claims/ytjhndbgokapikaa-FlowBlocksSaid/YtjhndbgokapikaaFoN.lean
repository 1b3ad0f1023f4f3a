import Derived.Test.YtjhndbgokapikaaFoK
import Derived.Test.YtjhndbgokapikaaFyC
set_option linter.unusedSimpArgs false
set_option linter.unusedVariables false
namespace Go.Cm
open Go.Proofs Go.Fl
def jRB (op:Int):Bool:=!(decide (op<0)||(decide (255<op)||((decide (lY .and .i64 op 7≠5)&&decide (lY .and .i64 op 7≠6))||(decide (lY .andNot .i64 op 15=0)||(decide (lY .andNot .i64 op 15=128)||(decide (lY .andNot .i64 op 15=144)||decide (208<lY .andNot .i64 op 15)))))))
theorem jR_nat:∀n:Nat,n<256→jRB n=jB n:=by decide +kernel
theorem jRB_eq (op:Int):jRB op=jB op:=by
 by_cases h:op<0∨255<op
 ·have h1:jRB op=false:=by
   unfold jRB;rcases h with h|h
   ·rw[decide_eq_true h];rfl
   ·rw[decide_eq_true h,Bool.true_or,Bool.or_true];rfl
  have h2:cls op = -1:=by rw[cls,if_pos h]
  rw[h1,jB,h2];rfl
 ·have h3:=jR_nat op.toNat (by omega)
  rw[show((op.toNat:Nat):Int)=op by omega] at h3;exact h3
set_option maxHeartbeats 4000000 in
theorem x33 (op:Int):∃r,(∃a b,r=(CV.tuple [.int .i64 a,.bool b,.bool (jB op)],[]))∧FF 33 [.int .i64 op] []=some r:=by
 rw[←jRB_eq];obtain⟨c,hc⟩:∃c,c=lY .and .i64 op 7:=⟨_,rfl⟩;obtain⟨o,ho⟩:∃o,o=lY .andNot .i64 op 15:=⟨_,rfl⟩;have hj:jRB op=!(decide (op<0)||(decide (255<op)||((decide (c≠5)&&decide (c≠6))||(decide (o=0)||(decide (o=128)||(decide (o=144)||decide (208<o))))))):=by rw[hc,ho];rfl
 have hf:(op<0∨255<op∨(c≠5∧c≠6)∨o=0∨o=128∨o=144∨208<o)→jRB op=false:=λh=>by
  rw[hj];simp;omega
 have ht:¬(op<0∨255<op∨(c≠5∧c≠6)∨o=0∨o=128∨o=144∨208<o)→jRB op=true:=λh=>by
  rw[hj];simp;omega
 clear hj
 by_cases h1:op<0
 ·rw[hf (by omega)]
  refine bA rfl Try.func33 s33 (Nat.le_of_ble_eq_true rfl) (λQ hqr hqn=>?_);rw[bf (show An.pure 33=true from rfl) (by simp only[cans,aG,az,aC,aH])];simp only[aO,Nat.reduceAdd,c33]
  repeat' (first
  |with_reducible (first|refine ai ?_|refine au rfl ?_|refine b6 ?_)
  |(with_reducible (first|(refine ah (λK hK=>?_);(first|refine wv ?_|refine w4 ?_|refine w5 ?_|refine w6 ?_|refine Kr ?_))|refine hqr _ ?_);(try simp only[true_implies,false_implies,not_true_eq_false,b9,if_true,if_false,Nat.reduceEqDiff,aJ,dg,eN,bq,gT,br,nL,qz,qy,lw,bI,Option.map_some,ic,gf,dU,uR,q9,and_true,if_false,if_true,r33,aQ,ak,aD,Option.bind_some,am,bz,jx,bW,Prod.mk.injEq,←hc,←ho,h1,gt_iff_lt,ne_eq]))
  |(revert hK;intro hK;(with_reducible refine hK _ ?_;clear hK K)))
  all_goals first|exact⟨_,_,rfl,rfl⟩|exact⟨_,_,rfl⟩
 by_cases h2:255<op
 ·rw[hf (by omega)]
  refine bA rfl Try.func33 s33 (Nat.le_of_ble_eq_true rfl) (λQ hqr hqn=>?_);rw[bf (show An.pure 33=true from rfl) (by simp only[cans,aG,az,aC,aH])];simp only[aO,Nat.reduceAdd,c33]
  repeat' (first
  |with_reducible (first|refine ai ?_|refine au rfl ?_|refine b6 ?_)
  |(with_reducible (first|(refine ah (λK hK=>?_);(first|refine wv ?_|refine w4 ?_|refine w5 ?_|refine w6 ?_|refine Kr ?_))|refine hqr _ ?_);(try simp only[true_implies,false_implies,not_true_eq_false,not_false_eq_true,b9,if_true,if_false,Nat.reduceEqDiff,aJ,dg,eN,bq,gT,br,nL,qz,qy,lw,bI,Option.map_some,ic,gf,dU,uR,q9,and_true,true_and,if_false,if_true,r33,aQ,ak,aD,Option.bind_some,am,bz,jx,bW,Prod.mk.injEq,←hc,←ho,h1,h2,gt_iff_lt,ne_eq]))
  |(revert hK;intro hK;(with_reducible refine hK _ ?_;clear hK K)))
  all_goals first|exact⟨_,_,rfl,rfl⟩|exact⟨_,_,rfl⟩
 by_cases h5:c=5∨c=6
 ·have hcc:(c=5)∨(¬c=5∧c=6):=by omega
  by_cases o1:o=0
  ·rw[hf (by omega)]
   rcases hcc with h|⟨h,h'⟩
   ·refine bA rfl Try.func33 s33 (Nat.le_of_ble_eq_true rfl) (λQ hqr hqn=>?_)
    rw[bf (show An.pure 33=true from rfl) (by simp only[cans,aG,az,aC,aH])];simp only[aO,Nat.reduceAdd,c33]
    repeat' (first
    |with_reducible (first|refine ai ?_|refine au rfl ?_|refine b6 ?_)
    |(with_reducible (first|(refine ah (λK hK=>?_);(first|refine wv ?_|refine w4 ?_|refine w5 ?_|refine w6 ?_|refine Kr ?_))|refine hqr _ ?_);(try simp only[true_implies,false_implies,not_true_eq_false,not_false_eq_true,b9,if_true,if_false,Nat.reduceEqDiff,aJ,dg,eN,bq,gT,br,nL,qz,qy,lw,bI,Option.map_some,ic,gf,dU,uR,q9,and_true,true_and,if_false,if_true,r33,aQ,ak,aD,Option.bind_some,am,bz,jx,bW,Prod.mk.injEq,←hc,←ho,h1,h2,h,o1,gt_iff_lt,ne_eq]))
    |(revert hK;intro hK;(with_reducible refine hK _ ?_;clear hK K)))
    all_goals first|exact⟨_,_,rfl,rfl⟩|exact⟨_,_,rfl⟩
   ·refine bA rfl Try.func33 s33 (Nat.le_of_ble_eq_true rfl) (λQ hqr hqn=>?_)
    rw[bf (show An.pure 33=true from rfl) (by simp only[cans,aG,az,aC,aH])];simp only[aO,Nat.reduceAdd,c33]
    repeat' (first
    |with_reducible (first|refine ai ?_|refine au rfl ?_|refine b6 ?_)
    |(with_reducible (first|(refine ah (λK hK=>?_);(first|refine wv ?_|refine w4 ?_|refine w5 ?_|refine w6 ?_|refine Kr ?_))|refine hqr _ ?_);(try simp only[true_implies,false_implies,not_true_eq_false,not_false_eq_true,b9,if_true,if_false,Nat.reduceEqDiff,aJ,dg,eN,bq,gT,br,nL,qz,qy,lw,bI,Option.map_some,ic,gf,dU,uR,q9,and_true,true_and,if_false,if_true,r33,aQ,ak,aD,Option.bind_some,am,bz,jx,bW,Prod.mk.injEq,←hc,←ho,h1,h2,h,h',o1,gt_iff_lt,ne_eq]))
    |(revert hK;intro hK;(first|refine And.intro ?_ ?_|intro _|omega|(with_reducible refine hK _ ?_;clear hK K))))
    all_goals first|exact⟨_,_,rfl,rfl⟩|exact⟨_,_,rfl⟩
  by_cases o2:o=128
  ·rw[hf (by omega)]
   rcases hcc with h|⟨h,h'⟩
   ·refine bA rfl Try.func33 s33 (Nat.le_of_ble_eq_true rfl) (λQ hqr hqn=>?_)
    rw[bf (show An.pure 33=true from rfl) (by simp only[cans,aG,az,aC,aH])];simp only[aO,Nat.reduceAdd,c33]
    repeat' (first
    |with_reducible (first|refine ai ?_|refine au rfl ?_|refine b6 ?_)
    |(with_reducible (first|(refine ah (λK hK=>?_);(first|refine wv ?_|refine w4 ?_|refine w5 ?_|refine w6 ?_|refine Kr ?_))|refine hqr _ ?_);(try simp only[true_implies,false_implies,not_true_eq_false,not_false_eq_true,b9,if_true,if_false,Nat.reduceEqDiff,aJ,dg,eN,bq,gT,br,nL,qz,qy,lw,bI,Option.map_some,ic,gf,dU,uR,q9,and_true,true_and,if_false,if_true,r33,aQ,ak,aD,Option.bind_some,am,bz,jx,bW,Prod.mk.injEq,←hc,←ho,h1,h2,h,o1,o2,gt_iff_lt,ne_eq]))
    |(revert hK;intro hK;(first|refine And.intro ?_ ?_|intro _|omega|(with_reducible refine hK _ ?_;clear hK K))))
    all_goals first|exact⟨_,_,rfl,rfl⟩|exact⟨_,_,rfl⟩
   ·refine bA rfl Try.func33 s33 (Nat.le_of_ble_eq_true rfl) (λQ hqr hqn=>?_)
    rw[bf (show An.pure 33=true from rfl) (by simp only[cans,aG,az,aC,aH])];simp only[aO,Nat.reduceAdd,c33]
    repeat' (first
    |with_reducible (first|refine ai ?_|refine au rfl ?_|refine b6 ?_)
    |(with_reducible (first|(refine ah (λK hK=>?_);(first|refine wv ?_|refine w4 ?_|refine w5 ?_|refine w6 ?_|refine Kr ?_))|refine hqr _ ?_);(try simp only[true_implies,false_implies,not_true_eq_false,not_false_eq_true,b9,if_true,if_false,Nat.reduceEqDiff,aJ,dg,eN,bq,gT,br,nL,qz,qy,lw,bI,Option.map_some,ic,gf,dU,uR,q9,and_true,true_and,if_false,if_true,r33,aQ,ak,aD,Option.bind_some,am,bz,jx,bW,Prod.mk.injEq,←hc,←ho,h1,h2,h,h',o1,o2,gt_iff_lt,ne_eq]))
    |(revert hK;intro hK;(first|refine And.intro ?_ ?_|intro _|omega|(with_reducible refine hK _ ?_;clear hK K))))
    all_goals first|exact⟨_,_,rfl,rfl⟩|exact⟨_,_,rfl⟩
  by_cases o3:o=144
  ·rw[hf (by omega)]
   rcases hcc with h|⟨h,h'⟩
   ·refine bA rfl Try.func33 s33 (Nat.le_of_ble_eq_true rfl) (λQ hqr hqn=>?_)
    rw[bf (show An.pure 33=true from rfl) (by simp only[cans,aG,az,aC,aH])];simp only[aO,Nat.reduceAdd,c33]
    repeat' (first
    |with_reducible (first|refine ai ?_|refine au rfl ?_|refine b6 ?_)
    |(with_reducible (first|(refine ah (λK hK=>?_);(first|refine wv ?_|refine w4 ?_|refine w5 ?_|refine w6 ?_|refine Kr ?_))|refine hqr _ ?_);(try simp only[true_implies,false_implies,not_true_eq_false,not_false_eq_true,b9,if_true,if_false,Nat.reduceEqDiff,aJ,dg,eN,bq,gT,br,nL,qz,qy,lw,bI,Option.map_some,ic,gf,dU,uR,q9,and_true,true_and,if_false,if_true,r33,aQ,ak,aD,Option.bind_some,am,bz,jx,bW,Prod.mk.injEq,←hc,←ho,h1,h2,h,o1,o2,o3,gt_iff_lt,ne_eq]))
    |(revert hK;intro hK;(first|refine And.intro ?_ ?_|intro _|omega|(with_reducible refine hK _ ?_;clear hK K))))
    all_goals first|exact⟨_,_,rfl,rfl⟩|exact⟨_,_,rfl⟩
   ·refine bA rfl Try.func33 s33 (Nat.le_of_ble_eq_true rfl) (λQ hqr hqn=>?_)
    rw[bf (show An.pure 33=true from rfl) (by simp only[cans,aG,az,aC,aH])];simp only[aO,Nat.reduceAdd,c33]
    repeat' (first
    |with_reducible (first|refine ai ?_|refine au rfl ?_|refine b6 ?_)
    |(with_reducible (first|(refine ah (λK hK=>?_);(first|refine wv ?_|refine w4 ?_|refine w5 ?_|refine w6 ?_|refine Kr ?_))|refine hqr _ ?_);(try simp only[true_implies,false_implies,not_true_eq_false,not_false_eq_true,b9,if_true,if_false,Nat.reduceEqDiff,aJ,dg,eN,bq,gT,br,nL,qz,qy,lw,bI,Option.map_some,ic,gf,dU,uR,q9,and_true,true_and,if_false,if_true,r33,aQ,ak,aD,Option.bind_some,am,bz,jx,bW,Prod.mk.injEq,←hc,←ho,h1,h2,h,h',o1,o2,o3,gt_iff_lt,ne_eq]))
    |(revert hK;intro hK;(first|refine And.intro ?_ ?_|intro _|omega|(with_reducible refine hK _ ?_;clear hK K))))
    all_goals first|exact⟨_,_,rfl,rfl⟩|exact⟨_,_,rfl⟩
  by_cases o4:208<o
  ·rw[hf (by omega)]
   rcases hcc with h|⟨h,h'⟩
   ·refine bA rfl Try.func33 s33 (Nat.le_of_ble_eq_true rfl) (λQ hqr hqn=>?_)
    rw[bf (show An.pure 33=true from rfl) (by simp only[cans,aG,az,aC,aH])];simp only[aO,Nat.reduceAdd,c33]
    repeat' (first
    |with_reducible (first|refine ai ?_|refine au rfl ?_|refine b6 ?_)
    |(with_reducible (first|(refine ah (λK hK=>?_);(first|refine wv ?_|refine w4 ?_|refine w5 ?_|refine w6 ?_|refine Kr ?_))|refine hqr _ ?_);(try simp only[true_implies,false_implies,not_true_eq_false,not_false_eq_true,b9,if_true,if_false,Nat.reduceEqDiff,aJ,dg,eN,bq,gT,br,nL,qz,qy,lw,bI,Option.map_some,ic,gf,dU,uR,q9,and_true,true_and,if_false,if_true,r33,aQ,ak,aD,Option.bind_some,am,bz,jx,bW,Prod.mk.injEq,←hc,←ho,h1,h2,h,o1,o2,o3,o4,gt_iff_lt,ne_eq]))
    |(revert hK;intro hK;(with_reducible refine hK _ ?_;clear hK K)))
    all_goals first|exact⟨_,_,rfl,rfl⟩|exact⟨_,_,rfl⟩
   ·refine bA rfl Try.func33 s33 (Nat.le_of_ble_eq_true rfl) (λQ hqr hqn=>?_)
    rw[bf (show An.pure 33=true from rfl) (by simp only[cans,aG,az,aC,aH])];simp only[aO,Nat.reduceAdd,c33]
    repeat' (first
    |with_reducible (first|refine ai ?_|refine au rfl ?_|refine b6 ?_)
    |(with_reducible (first|(refine ah (λK hK=>?_);(first|refine wv ?_|refine w4 ?_|refine w5 ?_|refine w6 ?_|refine Kr ?_))|refine hqr _ ?_);(try simp only[true_implies,false_implies,not_true_eq_false,not_false_eq_true,b9,if_true,if_false,Nat.reduceEqDiff,aJ,dg,eN,bq,gT,br,nL,qz,qy,lw,bI,Option.map_some,ic,gf,dU,uR,q9,and_true,true_and,if_false,if_true,r33,aQ,ak,aD,Option.bind_some,am,bz,jx,bW,Prod.mk.injEq,←hc,←ho,h1,h2,h,h',o1,o2,o3,o4,gt_iff_lt,ne_eq]))
    |(revert hK;intro hK;(first|refine And.intro ?_ ?_|intro _|omega|(with_reducible refine hK _ ?_;clear hK K))))
    all_goals first|exact⟨_,_,rfl,rfl⟩|exact⟨_,_,rfl⟩
  rw[ht (by omega)];rcases hcc with h|⟨h,h'⟩
  ·refine bA rfl Try.func33 s33 (Nat.le_of_ble_eq_true rfl) (λQ hqr hqn=>?_)
   rw[bf (show An.pure 33=true from rfl) (by simp only[cans,aG,az,aC,aH])];simp only[aO,Nat.reduceAdd,c33]
   repeat' (first
   |with_reducible (first|refine ai ?_|refine ar ?_|refine ax rfl ?_|refine aF ?_)
   |(with_reducible (first|(refine ah (λK hK=>?_);(first|refine wv ?_|refine w4 ?_|refine w5 ?_|refine w6 ?_|refine t33r5 ?_))|refine hqr _ ?_);(try simp only[true_implies,false_implies,not_true_eq_false,not_false_eq_true,b9,if_true,if_false,Nat.reduceEqDiff,aJ,dg,eN,bq,gT,br,nL,qz,qy,lw,bI,Option.map_some,ic,gf,dU,uR,q9,and_true,true_and,if_false,if_true,r33,aQ,ak,aD,Option.bind_some,am,bz,jx,bW,Prod.mk.injEq,←hc,←ho,h1,h2,h,o1,o2,o3,o4,gt_iff_lt,ne_eq]))
   |(revert hK;intro hK;(with_reducible refine hK _ ?_;clear hK K)))
   all_goals first|exact⟨_,_,rfl,rfl⟩|exact⟨_,_,rfl⟩
  ·refine bA rfl Try.func33 s33 (Nat.le_of_ble_eq_true rfl) (λQ hqr hqn=>?_)
   rw[bf (show An.pure 33=true from rfl) (by simp only[cans,aG,az,aC,aH])];simp only[aO,Nat.reduceAdd,c33]
   repeat' (first
   |with_reducible (first|refine ai ?_|refine ar ?_|refine ax rfl ?_|refine aF ?_)
   |(with_reducible (first|(refine ah (λK hK=>?_);(first|refine wv ?_|refine w4 ?_|refine w5 ?_|refine w6 ?_|refine t33r5 ?_))|refine hqr _ ?_);(try simp only[true_implies,false_implies,not_true_eq_false,not_false_eq_true,b9,if_true,if_false,Nat.reduceEqDiff,aJ,dg,eN,bq,gT,br,nL,qz,qy,lw,bI,Option.map_some,ic,gf,dU,uR,q9,and_true,true_and,if_false,if_true,r33,aQ,ak,aD,Option.bind_some,am,bz,jx,bW,Prod.mk.injEq,←hc,←ho,h1,h2,h,h',o1,o2,o3,o4,gt_iff_lt,ne_eq]))
   |(revert hK;intro hK;(first|refine And.intro ?_ ?_|intro _|omega|(with_reducible refine hK _ ?_;clear hK K))))
   all_goals first|exact⟨_,_,rfl,rfl⟩|exact⟨_,_,rfl⟩
 ·rw[hf (by omega)]
  have h5':¬c=5:=λh=>h5 (.inl h);have h6':¬c=6:=λh=>h5 (.inr h);refine bA rfl Try.func33 s33 (Nat.le_of_ble_eq_true rfl) (λQ hqr hqn=>?_);rw[bf (show An.pure 33=true from rfl) (by simp only[cans,aG,az,aC,aH])];simp only[aO,Nat.reduceAdd,c33]
  repeat' (first
  |with_reducible (first|refine ai ?_|refine au rfl ?_|refine b6 ?_)
  |(with_reducible (first|(refine ah (λK hK=>?_);(first|refine wv ?_|refine w4 ?_|refine w5 ?_|refine w6 ?_|refine Kr ?_))|refine hqr _ ?_);(try simp only[true_implies,false_implies,not_false_eq_true,b9,if_true,if_false,Nat.reduceEqDiff,aJ,dg,eN,bq,gT,br,nL,qz,qy,lw,bI,Option.map_some,ic,gf,dU,uR,q9,and_true,true_and,if_false,if_true,r33,aQ,ak,aD,Option.bind_some,am,bz,jx,bW,Prod.mk.injEq,←hc,←ho,h1,h2,h5',h6',gt_iff_lt,ne_eq]))
  |(revert hK;intro hK;(with_reducible refine hK _ ?_;clear hK K)))
  all_goals first|exact⟨_,_,rfl,rfl⟩|exact⟨_,_,rfl⟩
set_option maxHeartbeats 2000000 in
theorem x32 (p:List In) (i:Int) (hp:p.length≤9223372036854775807):FF 32 [sl inC p,.int .i64 i] []=some (.bool (gv p i),[]):=by
 by_cases h1:i<1
 ·have he:gv p i=false:=by unfold gv;rw[decide_eq_false (by omega)];rfl
  refine aL rfl Try.func32 s32 (Nat.le_of_ble_eq_true rfl) (λQ hqr hqn=>?_);rw[bf (show An.pure 32=true from rfl) (by simp only[cans,aG,az,aC,aH,inE.can_sl])];simp only[aO,Nat.reduceAdd,c32]
  repeat' (first
  |with_reducible (first|refine ai ?_|refine au rfl ?_|refine b6 ?_)
  |(with_reducible (first|(refine ah (λK hK=>?_);(first|refine NQ ?_|refine NR ?_|refine QC ?_))|refine hqr _ ?_);(try simp only[true_implies,false_implies,not_true_eq_false,b9,if_true,if_false,Nat.reduceEqDiff,aJ,dg,eN,gU,qz,qy,Option.map_some,ic,gf,lenS,dU,fe,and_true,if_false,if_true,r32,aQ,ak,aD,Option.bind_some,am,jx,aV,aP,h1,he]))
  |(revert hK;intro hK;(with_reducible refine hK _ ?_;clear hK K)))
 by_cases h2:(p.length:Int)≤i
 ·have he:gv p i=false:=by unfold gv;rw[decide_eq_false (by omega)];rfl
  refine aL rfl Try.func32 s32 (Nat.le_of_ble_eq_true rfl) (λQ hqr hqn=>?_);rw[bf (show An.pure 32=true from rfl) (by simp only[cans,aG,az,aC,aH,inE.can_sl])];simp only[aO,Nat.reduceAdd,c32]
  repeat' (first
  |with_reducible (first|refine ai ?_|refine au rfl ?_|refine b6 ?_)
  |(with_reducible (first|(refine ah (λK hK=>?_);(first|refine NQ ?_|refine NR ?_|refine QC ?_))|refine hqr _ ?_);(try simp only[true_implies,false_implies,not_true_eq_false,not_false_eq_true,b9,if_true,if_false,Nat.reduceEqDiff,aJ,dg,eN,gU,qz,qy,Option.map_some,ic,gf,lenS,dU,fe,and_true,true_and,if_false,if_true,r32,aQ,ak,aD,Option.bind_some,am,jx,aV,aP,h1,h2,he,ge_iff_le]))
  |(revert hK;intro hK;(with_reducible refine hK _ ?_;clear hK K)))
 obtain⟨k,rfl⟩:∃k:Nat,i=k:=⟨i.toNat,by omega⟩;have hr:gv p k=decide (mR p k % 2=1):=by
  unfold gv;rw[decide_eq_true ⟨by omega,by omega⟩,Bool.true_and];rfl
 have w1:IntKind.i64.wrap ((k:Int) - 1)=k - 1:=wI (by omega) (by omega);obtain⟨x0,hx0⟩:∃x,p[k - 1]?=some x:=⟨_,List.getElem?_eq_getElem (by omega)⟩;have hix0:=hY (k:=.i64) (i:=(k:Int) - 1) inE.len (by omega:0<6) (by omega) (by rw[show((k:Int) - 1).toNat=k - 1 by omega];exact hx0);rw[hr]
 by_cases h24:x0.op=24
 ·refine aL rfl Try.func32 s32 (Nat.le_of_ble_eq_true rfl) (λQ hqr hqn=>?_)
  rw[bf (show An.pure 32=true from rfl) (by simp only[cans,aG,az,aC,aH,inE.can_sl])];simp only[aO,Nat.reduceAdd,c32]
  repeat' (first
  |with_reducible (first|refine ai ?_|refine ar ?_|refine ax rfl ?_|refine aj (id:=0) (λQ0 hn0 hx0 hr0 ho0=>?_))
  |(with_reducible (refine ah (λK hK=>?_);(first|refine NQ ?_|refine NR ?_|refine t32r3 ?_|refine t32r4 ?_));(try simp only[true_implies,false_implies,not_true_eq_false,not_false_eq_true,b9,if_true,if_false,Nat.reduceEqDiff,aJ,dg,bL,List.drop_zero,dw,eN,gU,br,qz,qy,ic,gf,lenS,dU,fe,List.nil_append,List.cons_append,and_true,true_and,if_false,if_true,aP,h1,h2,ge_iff_le,w1,hix0,inC,h24,ne_eq,eq_self]))
  |(revert hK;intro hK;(with_reducible refine hK _ ?_;clear hK K)))
  refine aU (λm s=>∃(n:Nat) (L:List (Nat×HO)),n≤k∧m=k - n∧mR p k=n+mR p (k - n)∧s=⟨[(0,sl inC p),(5,.int .i64 n),(6,.int .i64 ((k:Int) - 1 - n))],⟨L,[]⟩⟩) _ ⟨0,_,Nat.zero_le _,rfl,by simp,by simp;rfl⟩ ?_;rintro m s ⟨n,L,hn,rfl,hw,rfl⟩ QL0 hnL0 hxL0 hrL0;simp only[c32l0];have hend:mR p (k - n)=0→decide ((n:Int).tmod 2=1)=decide (mR p k % 2=1):=λh=>by
   rw[hw,h,Nat.add_zero,Int.tmod_eq_emod_of_nonneg (by omega)];exact decide_eq_decide.2 (by omega)
  have h20:¬((2:Int)=0):=by decide
  by_cases hlt:n<k
  ·have hge:(0:Int)≤(k:Int) - 1 - n:=by omega
   have hkn:k - n=(k - n - 1)+1:=by omega
   obtain⟨x,hx⟩:∃x,p[k - n - 1]?=some x:=⟨_,List.getElem?_eq_getElem (by omega)⟩;have w2:IntKind.i64.wrap ((k:Int) - 1 - n - 1)=(k:Int) - 1 - ((n+1:Nat):Int):=by rw[wI (by omega) (by omega)];omega
   have w3:IntKind.i64.wrap ((n:Int)+1)=((n+1:Nat):Int):=by rw[wI (by omega) (by omega)];omega
   have hix:=hY (k:=.i64) (i:=(k:Int) - 1 - n) inE.len (by omega:0<6) (by omega) (by rw[show((k:Int) - 1 - n).toNat=k - n - 1 by omega];exact hx)
   by_cases h24':x.op=24
   ·have hws:mR p (k - n)=mR p (k - (n+1))+1:=by
     rw[hkn,L9 hx h24'];rfl
    repeat' (first
    |with_reducible (first|refine ai ?_|refine ar ?_|refine au rfl ?_|refine aj (id:=1) (λQ1 hn1 hx1 hr1 ho1=>?_)|refine hn1 _ ?_)
    |(with_reducible ((first|refine ah (λK hK=>?_)|refine aI (λK hK=>?_));(first|refine QD ?_|refine t32r7 ?_|refine t32r6 ?_));(try simp only[true_implies,false_implies,not_true_eq_false,b9,if_true,if_false,Nat.reduceEqDiff,aJ,dg,bL,List.drop_zero,dw,gU,gT,nL,lw,ic,gf,dU,cK,fe,List.nil_append,List.cons_append,and_true,if_false,if_true,hge,ge_iff_le,w2,w3,hix,inC,h24']))
    |(revert hK;intro hK;(with_reducible refine hK _ ?_;clear hK K)))
    exact hnL0 (k - (n+1)) _ (by omega) ⟨n+1,L,by omega,rfl,by omega,rfl⟩
   ·have hws:mR p (k - n)=0:=by rw[hkn,vf hx,if_neg h24']
    have he:=hend hws
    repeat' (first
    |with_reducible (first|refine ai ?_|refine ax rfl ?_|refine aN ?_|refine aF ?_|refine hx0 _ ?_|refine hxL0 _ _ ?_)
    |(with_reducible (first|(refine ah (λK hK=>?_);(first|refine QD ?_|refine t32r8 ?_))|refine hqr _ ?_);(try simp only[true_implies,false_implies,not_true_eq_false,not_false_eq_true,b9,if_true,if_false,Nat.reduceEqDiff,aJ,dg,bL,List.drop_zero,dw,gU,gT,nL,lw,Option.map_some,ic,gf,dU,Gb,List.nil_append,List.cons_append,and_true,true_and,if_false,if_true,r32,aQ,ak,aD,Option.bind_some,am,jx,aV,Prod.mk.injEq,CV.bool.injEq,hge,ge_iff_le,hix,inC,h24',h20]))
    |(revert hK;intro hK;(first|refine And.intro ?_ ?_|intro _|(with_reducible refine hK _ ?_;clear hK K))))
    all_goals (rw[←he];first|exact(decide_eq_true (by assumption)).symm|exact(decide_eq_false (by assumption)).symm)
  ·have hnk:n=k:=by omega
   have hge:¬((0:Int)≤(k:Int) - 1 - n):=by omega
   have hws:mR p (k - n)=0:=by rw[hnk,Nat.sub_self];rfl
   have he:=hend hws
   repeat' (first
   |with_reducible (first|refine ai ?_|refine ax rfl ?_|refine aN ?_|refine aF ?_|refine hx0 _ ?_|refine hxL0 _ _ ?_)
   |(with_reducible (first|(refine ah (λK hK=>?_);(first|refine QD ?_|refine t32r8 ?_))|refine hqr _ ?_);(try simp only[true_implies,false_implies,not_false_eq_true,b9,if_true,if_false,Nat.reduceEqDiff,aJ,dg,gU,gT,nL,lw,Option.map_some,ic,gf,dU,Gb,and_true,true_and,if_false,if_true,r32,aQ,ak,aD,Option.bind_some,am,jx,aV,Prod.mk.injEq,CV.bool.injEq,hge,ge_iff_le,h20]))
   |(revert hK;intro hK;(first|refine And.intro ?_ ?_|intro _|(with_reducible refine hK _ ?_;clear hK K))))
   all_goals (rw[←he];first|exact(decide_eq_true (by assumption)).symm|exact(decide_eq_false (by assumption)).symm)
 ·have hws:mR p k=0:=by rw[show k=(k - 1)+1 by omega,vf hx0,if_neg h24]
  rw[hws];refine aL rfl Try.func32 s32 (Nat.le_of_ble_eq_true rfl) (λQ hqr hqn=>?_);rw[bf (show An.pure 32=true from rfl) (by simp only[cans,aG,az,aC,aH,inE.can_sl])];simp only[aO,Nat.reduceAdd,c32]
  repeat' (first
  |with_reducible (first|refine ai ?_|refine au rfl ?_|refine b6 ?_)
  |(with_reducible (first|(refine ah (λK hK=>?_);(first|refine NQ ?_|refine NR ?_|refine QC ?_))|refine hqr _ ?_);(try simp only[true_implies,false_implies,not_false_eq_true,b9,if_true,if_false,Nat.reduceEqDiff,aJ,dg,bL,List.drop_zero,dw,eN,gU,br,qz,qy,Option.map_some,ic,gf,lenS,dU,fe,List.nil_append,List.cons_append,and_true,true_and,if_false,if_true,r32,aQ,ak,aD,Option.bind_some,am,jx,aV,Prod.mk.injEq,CV.bool.injEq,aP,h1,h2,ge_iff_le,w1,hix0,inC,h24,ne_eq]))
  |(revert hK;intro hK;(with_reducible refine hK _ ?_;clear hK K)))
  all_goals rfl
theorem k32 {p:List In}{i:Int}(hp:p.length≤9223372036854775807) {fid:FuncId}{d:Tmp}{m:Mem}:cd An FF fid (some d) 32 [sl inC p,.int .i64 i] m=some (.bool (gv p i),m):=
 cr (x32 p i hp) (λ_ _ _=>rfl) rfl (by simp only[cans,aG,inE.can_sl]) rfl (by simp only[noGs,eo,inE.noG_sl,Bool.and_self]) rfl
set_option maxHeartbeats 2000000 in
theorem x16 (p:List In) (i:Int) (hp:p.length≤4611686018427387904):FF 16 [sl inC p,.int .i64 i] []=some (eA aX 1 (np p i),[]):=by
 have kH:∀t m,cd An FF 16 (some t) 32 [sl inC p,.int .i64 i] m=some (.bool (gv p i),m):=λt m=>k32 (by omega)
 by_cases h1:i<0
 ·have he:np p i=[]:=by show it jB wrI p i=_;unfold it;rw[if_pos (.inl h1)]
  rw[he];refine aL rfl Try.func16 s16 (Nat.le_of_ble_eq_true rfl) (λQ hqr hqn=>?_);rw[bf (show An.pure 16=true from rfl) (by simp only[cans,aG,az,aC,aH,inE.can_sl])];simp only[aO,Nat.reduceAdd,c16]
  repeat' (first
  |with_reducible (first|refine ai ?_|refine au rfl ?_|refine b6 ?_)
  |(with_reducible (first|(refine ah (λK hK=>?_);(first|refine sN ?_|refine sO ?_|refine wo ?_))|refine hqr _ ?_);(try simp only[true_implies,false_implies,not_true_eq_false,b9,if_true,if_false,Nat.reduceEqDiff,aJ,dg,eN,gU,qz,qy,Option.map_some,ic,gf,lenS,dU,and_true,if_false,if_true,r16,aQ,ak,aD,Option.bind_some,am,eh,aV,Prod.mk.injEq,aP,h1]))
  |(revert hK;intro hK;(with_reducible refine hK _ ?_;clear hK K)))
  all_goals rfl
 by_cases h2:(p.length:Int)≤i
 ·have he:np p i=[]:=by show it jB wrI p i=_;unfold it;rw[if_pos (.inr (.inl h2))]
  rw[he];refine aL rfl Try.func16 s16 (Nat.le_of_ble_eq_true rfl) (λQ hqr hqn=>?_);rw[bf (show An.pure 16=true from rfl) (by simp only[cans,aG,az,aC,aH,inE.can_sl])];simp only[aO,Nat.reduceAdd,c16]
  repeat' (first
  |with_reducible (first|refine ai ?_|refine au rfl ?_|refine b6 ?_)
  |(with_reducible (first|(refine ah (λK hK=>?_);(first|refine sN ?_|refine sO ?_|refine wo ?_))|refine hqr _ ?_);(try simp only[true_implies,false_implies,not_true_eq_false,not_false_eq_true,b9,if_true,if_false,Nat.reduceEqDiff,aJ,dg,eN,gU,qz,qy,Option.map_some,ic,gf,lenS,dU,and_true,true_and,if_false,if_true,r16,aQ,ak,aD,Option.bind_some,am,eh,aV,Prod.mk.injEq,aP,h1,h2,ge_iff_le]))
  |(revert hK;intro hK;(with_reducible refine hK _ ?_;clear hK K)))
  all_goals rfl
 cases hh:gv p i with
 |true=>
  rw[hh] at kH;have he:np p i=[]:=by show it jB wrI p i=_;unfold it;rw[if_pos (.inr (.inr hh))]
  rw[he];refine aL rfl Try.func16 s16 (Nat.le_of_ble_eq_true rfl) (λQ hqr hqn=>?_);rw[bf (show An.pure 16=true from rfl) (by simp only[cans,aG,az,aC,aH,inE.can_sl])];simp only[aO,Nat.reduceAdd,c16]
  repeat' (first
  |with_reducible (first|refine ai ?_|refine au rfl ?_|refine b6 ?_)
  |(with_reducible (first|(refine ah (λK hK=>?_);(first|refine sN ?_|refine sO ?_|refine wo ?_))|refine hqr _ ?_);(try simp only[true_implies,false_implies,not_false_eq_true,b9,if_true,if_false,Nat.reduceEqDiff,aJ,dg,eN,gU,qz,qy,Option.map_some,ic,gf,lenS,dU,and_true,true_and,if_false,if_true,r16,aQ,ak,aD,Option.bind_some,am,eh,aV,Prod.mk.injEq,aP,h1,h2,ge_iff_le,kH]))
  |(revert hK;intro hK;(with_reducible refine hK _ ?_;clear hK K)))
  all_goals rfl
 |false=>
  rw[hh] at kH;obtain⟨x,hx⟩:∃x,p[i.toNat]?=some x:=⟨_,List.getElem?_eq_getElem (by omega)⟩;have he:np p i=if x.op=149 then [] else if x.op=5 then [IntKind.i64.wrap (i+1+x.off)] else if jB x.op=true then [i+1,IntKind.i64.wrap (i+1+x.off)] else if x.op=24 then [i+2] else [i+1]:=by
   show it jB wrI p i=_;unfold it;rw[if_neg (by rw[hh];rintro(h|h|h);exact h1 h;exact h2 h;cases h)];simp only[hx]
  have hix:=hY (k:=.i64) (i:=i) inE.len (by omega:0<6) (by omega) hx;have w1:IntKind.i64.wrap (i+1)=i+1:=wI (by omega) (by omega);have w2:IntKind.i64.wrap (i+2)=i+2:=wI (by omega) (by omega);obtain⟨_,⟨ja,jb,rfl⟩,h⟩:=x33 x.op;obtain⟨J,hJ⟩:∃J,J=jB x.op:=⟨_,rfl⟩;have kJ:∀t m,cd An FF 16 (some t) 33 [.int .i64 x.op] m=some (.tuple [.int .i64 ja,.bool jb,.bool J],m):=λt m=>by rw[hJ];exact cr h (λ_ _ _=>rfl) rfl rfl rfl rfl rfl
  rw[←hJ] at he;have o1:∀a:Int,eA aX 1 [a]=.own 1 1 [.int .i64 a] 0:=λa=>rfl;have o2:∀a b:Int,eA aX 1 [a,b]=.own 2 1 [.int .i64 a,.int .i64 b] 0:=λa b=>rfl
  by_cases e1:x.op=149
  ·rw[he,if_pos e1]
   refine aL rfl Try.func16 s16 (Nat.le_of_ble_eq_true rfl) (λQ hqr hqn=>?_);rw[bf (show An.pure 16=true from rfl) (by simp only[cans,aG,az,aC,aH,inE.can_sl])];simp only[aO,Nat.reduceAdd,c16]
   repeat' (first
   |with_reducible (first|refine ai ?_|refine ar ?_|refine ax rfl ?_|refine bc rfl ?_|refine aF ?_|refine aj (id:=0) (λQ0 hn0 hx0 hr0 ho0=>?_)|refine hr0 _ ?_)
   |(with_reducible (first|(refine ah (λK hK=>?_);(first|refine sN ?_|refine sO ?_|refine MZ ?_|refine ER ?_|refine M0 ?_|refine t16r6 ?_))|refine hqr _ ?_);(try simp only[true_implies,false_implies,not_true_eq_false,not_false_eq_true,b9,if_true,if_false,Nat.reduceEqDiff,ap,aJ,dg,qO,qP,ba,aS,ik,Nat.reduceAdd,Nat.zero_add,cb,eX,cw,List.getElem?_cons_zero,List.getElem?_cons_succ,eN,gU,gT,qz,qy,Option.map_some,ic,gf,lenS,dU,dT,p6,lj,ay,List.take_zero,List.drop_succ_cons,List.drop_nil,List.nil_append,List.cons_append,List.append_nil,List.length_cons,List.length_nil,and_self,and_true,true_and,Nat.le_refl,if_false,if_true,r16,aQ,ak,aD,Option.bind_some,am,eh,aV,Prod.mk.injEq,aP,h1,h2,ge_iff_le,kH,hix,inC,d9,kJ,eq_true e1]))
   |(revert hK;intro hK;(with_reducible refine hK _ ?_;clear hK K)))
   all_goals first|rfl|simp_all
  by_cases e2:x.op=5
  ·rw[he,if_neg e1,if_pos e2,o1]
   refine aL rfl Try.func16 s16 (Nat.le_of_ble_eq_true rfl) (λQ hqr hqn=>?_);rw[bf (show An.pure 16=true from rfl) (by simp only[cans,aG,az,aC,aH,inE.can_sl])];simp only[aO,Nat.reduceAdd,c16]
   repeat' (first
   |with_reducible (first|refine ai ?_|refine ar ?_|refine ax rfl ?_|refine bc rfl ?_|refine d7 rfl ?_|refine aF ?_|refine aj (id:=0) (λQ0 hn0 hx0 hr0 ho0=>?_)|refine hr0 _ ?_)
   |(with_reducible (first|(refine ah (λK hK=>?_);(first|refine sN ?_|refine sO ?_|refine MZ ?_|refine ER ?_|refine M0 ?_|refine NN ?_|refine t16r8 ?_))|refine hqr _ ?_);(try simp only[true_implies,false_implies,not_true_eq_false,not_false_eq_true,b9,if_true,if_false,Nat.reduceEqDiff,ap,aJ,dg,qO,qP,dj,ef,bv,aR,ba,aS,ik,Nat.reduceMul,Nat.reduceAdd,Nat.zero_add,cb,List.drop_zero,eX,cw,List.getElem?_cons_zero,List.getElem?_cons_succ,eN,gU,gT,qz,qy,Option.map_some,ic,gf,lenS,dU,cK,dT,cD,bg,be,bF,p6,lj,ay,List.take_zero,List.take_succ_cons,List.drop_succ_cons,List.drop_nil,List.nil_append,List.cons_append,List.append_nil,List.length_cons,List.length_nil,and_self,and_true,true_and,Nat.le_refl,cz,List.all_cons,List.all_nil,Bool.and_self,if_false,if_true,r16,aQ,ak,aD,Option.bind_some,am,dq,bV,Nat.sub_self,aV,aP,h1,h2,ge_iff_le,kH,hix,inC,d9,kJ,e1,eq_true e2,w1]))
   |(revert hK;intro hK;(with_reducible refine hK _ ?_;clear hK K)))
   all_goals first|rfl|simp_all
  cases J with
  |true=>
   rw[he,if_neg e1,if_neg e2,if_pos rfl,o2];refine aL rfl Try.func16 s16 (Nat.le_of_ble_eq_true rfl) (λQ hqr hqn=>?_);rw[bf (show An.pure 16=true from rfl) (by simp only[cans,aG,az,aC,aH,inE.can_sl])];simp only[aO,Nat.reduceAdd,c16]
   repeat' (first
   |with_reducible (first|refine ai ?_|refine ar ?_|refine ax rfl ?_|refine bc rfl ?_|refine d7 rfl ?_|refine aF ?_|refine aj (id:=0) (λQ0 hn0 hx0 hr0 ho0=>?_)|refine hr0 _ ?_)
   |(with_reducible (first|(refine ah (λK hK=>?_);(first|refine sN ?_|refine sO ?_|refine MZ ?_|refine ER ?_|refine M0 ?_|refine NN ?_|refine Qm ?_|refine t16r10 ?_))|refine hqr _ ?_);(try simp only[true_implies,false_implies,not_false_eq_true,b9,if_true,if_false,Nat.reduceEqDiff,ap,aJ,dg,qO,qP,dj,ef,bv,aR,ba,aS,ik,Nat.reduceMul,Nat.reduceAdd,Nat.zero_add,cb,List.drop_zero,eX,cw,List.getElem?_cons_zero,List.getElem?_cons_succ,eN,gU,gT,qz,qy,Option.map_some,ic,gf,lenS,dU,cK,dT,cD,bg,be,bF,p6,lj,ay,List.take_zero,List.take_succ_cons,List.drop_succ_cons,List.drop_nil,List.nil_append,List.cons_append,List.append_nil,List.length_cons,List.length_nil,Nat.reduceLeDiff,and_self,and_true,true_and,Nat.le_refl,cz,List.all_cons,List.all_nil,Bool.and_self,if_false,if_true,r16,aQ,ak,aD,Option.bind_some,am,dq,bV,Nat.sub_self,aV,aP,h1,h2,ge_iff_le,kH,hix,inC,d9,kJ,e1,e2,w1]))
   |(revert hK;intro hK;(with_reducible refine hK _ ?_;clear hK K)))
   all_goals first|rfl|simp_all
  |false=>
   rw[he,if_neg e1,if_neg e2,if_neg (by decide)]
   by_cases e3:x.op=24
   ·rw[if_pos e3,o1]
    refine aL rfl Try.func16 s16 (Nat.le_of_ble_eq_true rfl) (λQ hqr hqn=>?_);rw[bf (show An.pure 16=true from rfl) (by simp only[cans,aG,az,aC,aH,inE.can_sl])];simp only[aO,Nat.reduceAdd,c16]
    repeat' (first
    |with_reducible (first|refine ai ?_|refine ar ?_|refine ax rfl ?_|refine bc rfl ?_|refine d7 rfl ?_|refine aF ?_|refine aj (id:=0) (λQ0 hn0 hx0 hr0 ho0=>?_)|refine hr0 _ ?_)
    |(with_reducible (first|(refine ah (λK hK=>?_);(first|refine sN ?_|refine sO ?_|refine MZ ?_|refine ER ?_|refine M0 ?_|refine NN ?_|refine Qm ?_|refine ur ?_|refine t16r12 ?_))|refine hqr _ ?_);(try simp only[true_implies,false_implies,not_true_eq_false,not_false_eq_true,b9,if_true,if_false,Nat.reduceEqDiff,ap,aJ,dg,qO,qP,dj,ef,bv,aR,ba,aS,ik,Nat.reduceMul,Nat.reduceAdd,Nat.zero_add,cb,List.drop_zero,eX,cw,List.getElem?_cons_zero,List.getElem?_cons_succ,eN,gU,gT,qz,qy,Option.map_some,ic,gf,lenS,dU,cK,dT,cD,bg,be,bF,p6,lj,ay,List.take_zero,List.take_succ_cons,List.drop_succ_cons,List.drop_nil,List.nil_append,List.cons_append,List.append_nil,List.length_cons,List.length_nil,and_self,and_true,true_and,Nat.le_refl,cz,List.all_cons,List.all_nil,Bool.and_self,if_false,if_true,r16,aQ,ak,aD,Option.bind_some,am,dq,bV,Nat.sub_self,aV,aP,h1,h2,ge_iff_le,kH,hix,inC,d9,kJ,e1,e2,eq_true e3,w2]))
    |(revert hK;intro hK;(with_reducible refine hK _ ?_;clear hK K)))
    all_goals first|rfl|simp_all
   ·rw[if_neg e3,o1]
    refine aL rfl Try.func16 s16 (Nat.le_of_ble_eq_true rfl) (λQ hqr hqn=>?_);rw[bf (show An.pure 16=true from rfl) (by simp only[cans,aG,az,aC,aH,inE.can_sl])];simp only[aO,Nat.reduceAdd,c16]
    repeat' (first
    |with_reducible (first|refine ai ?_|refine ar ?_|refine ax rfl ?_|refine d7 rfl ?_|refine aF ?_|refine bx ?_|refine aj (id:=0) (λQ0 hn0 hx0 hr0 ho0=>?_)|refine hn0 _ ?_)
    |(with_reducible (first|(refine ah (λK hK=>?_);(first|refine sN ?_|refine sO ?_|refine MZ ?_|refine ER ?_|refine M0 ?_|refine NN ?_|refine Qm ?_|refine ur ?_|refine EQ ?_))|refine hqr _ ?_);(try simp only[true_implies,false_implies,not_false_eq_true,b9,if_true,if_false,Nat.reduceEqDiff,ap,aJ,dg,qO,qP,dj,ef,bv,aR,ba,aS,ik,Nat.reduceMul,Nat.reduceAdd,Nat.zero_add,cb,List.drop_zero,eX,cw,List.getElem?_cons_zero,List.getElem?_cons_succ,eN,gU,gT,qz,qy,Option.map_some,ic,gf,lenS,dU,cK,dT,cD,bg,be,bF,p6,lj,ay,List.take_zero,List.take_succ_cons,List.drop_succ_cons,List.drop_nil,List.nil_append,List.cons_append,List.append_nil,List.length_cons,List.length_nil,and_self,and_true,true_and,Nat.le_refl,cz,List.all_cons,List.all_nil,Bool.and_self,if_false,if_true,r16,aQ,ak,aD,Option.bind_some,am,dq,bV,Nat.sub_self,aV,aP,h1,h2,ge_iff_le,kH,hix,inC,d9,kJ,e1,e2,e3,w1]))
    |(revert hK;intro hK;(with_reducible refine hK _ ?_;clear hK K)))
    all_goals first|rfl|simp_all
theorem k16 {p:List In}{i:Int}(hp:p.length≤4611686018427387904) {fid:FuncId}{t:Tmp}{m:Mem}{K:CV×Mem→Prop}(hgl:(An.glob fid).contains t=false)
  (hK:∀v m',OwnE aX 1 m' (16*t) v (np p i)→m'.H=m.H→(∀i,i≠16*t→aK m'.L i=aK m.L i)→K (v,m')):Obt (cd An FF fid (some t) 16 [sl inC p,.int .i64 i] m) K:=
 gX (x16 p i hp) rfl (by simp only[cans,aG,inE.can_sl]) rfl (by simp only[noGs,eo,inE.noG_sl,Bool.and_self]) intE.noG hgl hK
def Nl (l:List Int) (x:Int):Int:=(l.count x:Nat)
theorem x17 (H:List HO) (v:CV) (l:List Int) (x:Int) (hv:RdI H v l) (hl:l.length≤4294967296):FF 17 [v,.int .i64 x] H=some (.int .i64 (Nl l x),H):=by
 refine aL rfl Try.func17 s17 (Nat.le_of_ble_eq_true rfl) (λQ hqr hqn=>?_);rw[show ∀a,cin (An.pure 17) a=a from λ_=>rfl];simp only[aO,Nat.reduceAdd,c17]
 repeat' (first
 |with_reducible (first|refine ai ?_|refine aj (id:=0) (λQ0 hn0 hx0 hr0 ho0=>?_))
 |(with_reducible (refine ah (λK hK=>?_);(first|refine t17r0 ?_|refine t17r1 ?_|refine t17r2 ?_));(try simp only[b9,if_true,if_false,Nat.reduceEqDiff,dg,if_false,if_true,hv.len]))
 |(revert hK;intro hK;(with_reducible refine hK _ ?_;clear hK K)))
 refine aU (λk s=>∃(d t:List Int),l=d++t∧k=t.length∧s=⟨[(0,v),(1,.int .i64 x),(5,.int .i64 (d.count x:Nat)),(6,.int .i64 d.length)],⟨[],H⟩⟩) _ ⟨[],l,rfl,rfl,rfl⟩ ?_;rintro k s ⟨d,t,h3,rfl,rfl⟩ QL0 hnL0 hxL0 hrL0;have hlen:=congrArg List.length h3;simp only[List.length_append] at hlen;simp only[c17l0]
 cases t with
 |nil=>
  simp only[List.length_nil] at hlen;rw[List.append_nil] at h3;have hge:¬((d.length:Int)<l.length):=by omega
  have he:((d.count x:Nat):Int)=Nl l x:=by rw[h3];rfl
  repeat' (first
  |with_reducible (first|refine ai ?_|refine ax rfl ?_|refine aN ?_|refine aF ?_|refine hx0 _ ?_|refine hxL0 _ _ ?_)
  |(with_reducible (first|(refine ah (λK hK=>?_);(first|refine Qn ?_|refine t17r7 ?_))|refine hqr _ ?_);(try simp only[true_implies,false_implies,not_false_eq_true,b9,if_true,if_false,Nat.reduceEqDiff,aJ,dg,eN,Option.map_some,lenS,true_and,if_false,if_true,r17,aQ,ak,aD,Option.bind_some,am,bz,aV,hv.len,hge,he]))
  |(revert hK;intro hK;(with_reducible refine hK _ ?_;clear hK K)))
 |cons a t=>
  simp only[List.length_cons] at hlen;have hlt:(d.length:Int)<l.length:=by omega
  have hal:l[d.length]?=some a:=by rw[h3];simp
  obtain⟨p,hp1,hp2⟩:=hv.at hal (k:=.i64);have hw:IntKind.i64.wrap ((d.length:Int)+1)=d.length+1:=wI (by omega) (by omega);have hcl:=List.count_le_length (a:=x) (l:=d);have hw2:IntKind.i64.wrap (((d.count x:Nat):Int)+1)=(d.count x:Nat)+1:=wI (by omega) (by omega);have e:((d.length:Int)+1)=((d++[a]).length:Int):=by simp
  by_cases hax:a=x
  ·repeat' (first
   |with_reducible (first|refine ai ?_|refine ar ?_|refine au rfl ?_|refine bc rfl ?_|refine aj (id:=1) (λQ1 hn1 hx1 hr1 ho1=>?_)|refine hn1 _ ?_)
   |(with_reducible ((first|refine ah (λK hK=>?_)|refine aI (λK hK=>?_));(first|refine Qn ?_|refine t17r5 ?_|refine t17r6 ?_|refine t17r4 ?_));(try simp only[true_implies,false_implies,not_true_eq_false,b9,if_true,if_false,Nat.reduceEqDiff,aJ,dg,eN,gT,Option.map_some,lenS,cK,and_true,if_false,if_true,hv.len,hlt,hp1,hp2,hax,eq_self,hw,hw2]))
   |(revert hK;intro hK;(with_reducible refine hK _ ?_;clear hK K)))
   rw[e];exact hnL0 t.length _ (by simp) ⟨d++[a],t,by simp[h3],rfl,by simp[List.count_append,hax]⟩
  ·repeat' (first
   |with_reducible (first|refine ai ?_|refine ar ?_|refine au rfl ?_|refine d7 rfl ?_|refine bx ?_|refine aj (id:=1) (λQ1 hn1 hx1 hr1 ho1=>?_)|refine hn1 _ ?_)
   |(with_reducible ((first|refine ah (λK hK=>?_)|refine aI (λK hK=>?_));(first|refine Qn ?_|refine t17r5 ?_|refine t17r4 ?_));(try simp only[true_implies,false_implies,not_true_eq_false,not_false_eq_true,b9,if_true,if_false,Nat.reduceEqDiff,aJ,dg,eN,gT,Option.map_some,lenS,cK,and_true,true_and,if_false,if_true,hv.len,hlt,hp1,hp2,hax,hw]))
   |(revert hK;intro hK;(with_reducible refine hK _ ?_;clear hK K)))
   rw[e];exact hnL0 t.length _ (by simp) ⟨d++[a],t,by simp[h3],rfl,by simp[List.count_append,List.count_singleton,hax]⟩
theorem k17 {H:List HO}{v:CV}{l:List Int}(hv:RdI H v l) (hl:l.length≤4294967296) {x:Int}{fid:FuncId}{t:Tmp}{L:List (Nat×HO)}:cd An FF fid (some t) 17 [v,.int .i64 x] ⟨L,H⟩=some (.int .i64 (Nl l x),⟨L,H⟩):=by
 rw[cf (A:=An) (F:=FF) (fid:=fid) (d:=t) (m:=⟨L,H⟩) rfl (by simp only[List.all_cons,hv.esc];rfl) (x17 H v l x hv hl),pk]
end Go.Cm
