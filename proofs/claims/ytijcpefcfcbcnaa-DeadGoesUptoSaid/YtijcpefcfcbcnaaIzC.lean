import Derived.Test.YtijcpefcfcbcnaaIzB
import Derived.Test.YtijcpefcfcbcnaaIyE
set_option linter.unusedSimpArgs false
set_option linter.unusedVariables false
namespace Go.Cm
open Go.Proofs Go.Ir
theorem x102 (n:Int):FF 102 [.int .i64 n] []=some (.bool (dN n),[]):=by
 by_cases h:n=1∨n=2∨n=4∨n=8
 ·rcases h with rfl|rfl|rfl|rfl
  all_goals exact xK.2 ⟨20,by kernel_rfl⟩
 ·have h1:¬n=1:=λe=>h (.inl e)
  have h2:¬n=2:=λe=>h (.inr (.inl e));have h4:¬n=4:=λe=>h (.inr (.inr (.inl e)));have h8:¬n=8:=λe=>h (.inr (.inr (.inr e)));have hs:dN n=false:=by simp[dN,h1,h2,h4,h8]
  rw[hs];refine aL rfl Try.func102 s102 (Nat.le_of_ble_eq_true rfl) (λQ hqr hqn=>?_);rw[bf (show An.pure 102=true from rfl) (by simp only[cans,aG,az,aC,aH])];simp only[aO,Nat.reduceAdd,c102]
  repeat' (first
  |with_reducible refine aF ?_
  |(with_reducible (first|(refine ah (λK hK=>?_);(first|refine t102r0 ?_|refine t102r1 ?_))|refine hqr _ ?_);(try simp only[SS,r102,aQ,ak,aD,am,h1,h2,h4,h8]))
  |(with_reducible refine hK _ ?_;clear hK K))
  all_goals first|rfl|trivial|simp[h1,h2,h4,h8]
theorem x71 (op:Int):∃r,(∃b H',r=(CV.tuple [.bool b,.bool (cL op)],H'))∧FF 71 [.int .i64 op,.int .u64 0,.int .u64 0,.bool true] []=some r:=by
 rcases nz (op:=op) with rfl|rfl|rfl|rfl|rfl|rfl|rfl|rfl|rfl|rfl|rfl|⟨hf,h⟩
 iterate 11 exact ss (n:=20) (by kernel_rfl)
 rw[hf];refine bA rfl Try.func71 s71 (Nat.le_of_ble_eq_true rfl) (λQ hqr hqn=>?_);rw[bf (show An.pure 71=true from rfl) (by simp only[cans,aG,az,aC,aH])];simp only[aO,Nat.reduceAdd,c71]
 repeat' (first
 |with_reducible (first|refine ai ?_|refine ar ?_|refine ax rfl ?_|refine bn rfl ?_|refine aF ?_|refine bx ?_|refine aj (id:=0) (λQ0 hn0 hx0 hr0 ho0=>?_)|refine hn0 _ ?_)
 |(with_reducible (first|(refine ah (λK hK=>?_);(first|refine t71r0 ?_|refine t71r1 ?_|refine t71r4 ?_|refine t71r5 ?_|refine t71r7 ?_|refine t71r9 ?_|refine t71r11 ?_|refine t71r13 ?_|refine t71r15 ?_|refine t71r17 ?_|refine t71r19 ?_|refine t71r21 ?_|refine t71r23 ?_|refine t71r25 ?_|refine t71r27 ?_))|refine hqr _ ?_);(try simp only[SS,Nat.reduceEqDiff,Bool.not_true,r71,aQ,ak,aD,am,bW,h]))
 |(with_reducible refine hK _ ?_;clear hK K))
 all_goals first|exact⟨_,_,rfl,rfl⟩|exact⟨_,_,rfl⟩|simp
theorem x101 (op:Int):∃r,(∃b H',r=(CV.tuple [.int .u64 b,.bool (ku op)],H'))∧FF 101 [.int .i64 op,.int .u64 0,.int .u64 0,.bool true] []=some r:=by
 rcases pp (op:=op) with rfl|rfl|rfl|rfl|rfl|rfl|rfl|rfl|rfl|rfl|rfl|rfl|rfl|⟨hf,h⟩
 iterate 13 exact su (n:=20) (by kernel_rfl)
 rw[hf];refine bA rfl Try.func101 s101 (Nat.le_of_ble_eq_true rfl) (λQ hqr hqn=>?_);rw[bf (show An.pure 101=true from rfl) (by simp only[cans,aG,az,aC,aH])];simp only[aO,Nat.reduceAdd,c101]
 repeat' (first
 |with_reducible (first|refine ai ?_|refine ar ?_|refine ax rfl ?_|refine bn rfl ?_|refine aF ?_|refine aj (id:=0) (λQ0 hn0 hx0 hr0 ho0=>?_)|refine hr0 _ ?_)
 |(with_reducible (first|(refine ah (λK hK=>?_);(first|refine t101r0 ?_|refine t101r1 ?_|refine t101r2 ?_|refine t101r6 ?_|refine t101r7 ?_|refine t101r9 ?_|refine t101r11 ?_|refine t101r13 ?_|refine t101r15 ?_|refine t101r18 ?_|refine t101r22 ?_|refine t101r24 ?_|refine t101r26 ?_|refine t101r28 ?_|refine t101r29 ?_|refine t101r30 ?_|refine t101r32 ?_|refine t101r34 ?_|refine t101r8 ?_))|refine hqr _ ?_);(try simp only[SS,Nat.reduceEqDiff,Bool.not_true,r101,aQ,ak,aD,am,bz,bW,h]))
 |(with_reducible refine hK _ ?_;clear hK K))
 all_goals first|exact⟨_,_,rfl,rfl⟩|exact⟨_,_,rfl⟩|simp
theorem x103 (n:Int):∃r,(∃s x k H',r=(CV.tuple [.agg [.str s,x,.int .i64 k],.bool (bZ n).isSome],H')∧cK x=some ((bZ n).getD 0)∧noG x=true∧cz x=true)∧FF 103 [.int .i64 n] []=some r:=by
 by_cases h:1≤n∧n≤5
 ·have:n=1∨n=2∨n=3∨n=4∨n=5:=by omega
  rcases this with rfl|rfl|rfl|rfl|rfl
  all_goals exact wJ (n:=20) (by kernel_rfl)
 ·have h1:¬n=1:=by omega
  have h2:¬n=2:=by omega
  have h3:¬n=3:=by omega
  have h4:¬n=4:=by omega
  have h5:¬n=5:=by omega
  have hn:bZ n=none:=by
   unfold bZ;rw[if_neg h1,if_neg h2,if_neg h3,if_neg h4,if_neg h5]
  rw[hn];refine bA rfl Try.func103 s103 (Nat.le_of_ble_eq_true rfl) (λQ hqr hqn=>?_);rw[bf (show An.pure 103=true from rfl) (by simp only[cans,aG,az,aC,aH])];simp only[aO,Nat.reduceAdd,c103]
  repeat' (first
  |with_reducible (first|refine ai ?_|refine bn rfl ?_|refine aF ?_|refine bx ?_|refine aj (id:=0) (λQ0 hn0 hx0 hr0 ho0=>?_)|refine hn0 _ ?_)
  |(with_reducible (first|(refine ah (λK hK=>?_);(first|refine t103r0 ?_|refine t103r1 ?_|refine t103r2 ?_|refine t103r4 ?_|refine t103r6 ?_|refine t103r8 ?_|refine t103r10 ?_|refine t103r12 ?_))|refine hqr _ ?_);(try simp only[SS,Nat.reduceEqDiff,ap,aS,Nat.reduceAdd,bg,ay,cz,r103,cl174,aQ,ak,aD,am,dD,gI,vV,Gy,bW,h1,h2,h3,h4,h5]))
  |(with_reducible refine hK _ ?_;clear hK K))
  all_goals exact⟨_,.nil,_,_,⟨rfl,rfl⟩,rfl,rfl,rfl⟩
set_option maxHeartbeats 4000000 in
theorem x74 (n:Nd) (h0:0≤n.imm) (ha:n.args.length≤17592186044416):FF 74 [.agg (ndC n)] []=some (.bool (bX n),[]):=by
 obtain⟨_,⟨x,H',rfl⟩,hA⟩:=x101 n.alu;have hA:∀m,aB An FF 74 (some 27) 101 [.int .i64 n.alu,.int .u64 0,.int .u64 0,.bool true] m=some (.tuple [.int .u64 x,.bool (ku n.alu)],m):=λm=>
  cr hA (λ_ _ _=>rfl) rfl rfl rfl rfl rfl
 have hS:∀m,aB An FF 74 (some 35) 102 [.int .i64 n.size] m=some (.bool (dN n.size),m):=λm=>cr (x102 n.size) (λ_ _ _=>rfl) rfl rfl rfl rfl rfl;have hS2:∀m,aB An FF 74 (some 43) 102 [.int .i64 n.size] m=some (.bool (dN n.size),m):=λm=>cr (x102 n.size) (λ_ _ _=>rfl) rfl rfl rfl rfl rfl;obtain⟨o,ho⟩:∃o,o=decide (-32768≤n.off∧n.off≤32767):=⟨_,rfl⟩;have key:(∀Q:Prop,(-32768≤n.off→n.off≤32767→o=true→Q)→(-32768≤n.off→¬n.off≤32767→o=false→Q)→(¬-32768≤n.off→¬-32768≤n.off→o=false→Q)→Q):=by
  intro Q q1 q2 q3
  by_cases o1:-32768≤n.off
  ·by_cases o2:n.off≤32767
   ·exact q1 o1 o2 (by rw[ho];simp[o1,o2])
   ·exact q2 o1 o2 (by rw[ho];simp[o2])
  ·exact q3 o1 o1 (by rw[ho];simp[o1])
 have hn5:n.op=5→bX n=(dN n.size&&o):=λh=>by simp[bX,h,ho]
 have hn6:n.op=6→bX n=(dN n.size&&o&&decide (n.id = -1)):=λh=>by simp[bX,h,ho]
 generalize dN n.size=sb at hS hS2 hn5 hn6;refine key _ (λo1 o2 o3=>?_) (λo1 o2 o3=>?_) (λo1 o2 o3=>?_)
 all_goals
  clear key;rw[o3] at hn5 hn6
  by_cases h1:n.op=1
  ·refine aL rfl Try.func74 s74 (Nat.le_of_ble_eq_true rfl) (λQ hqr hqn=>?_)
   rw[bf (show An.pure 74=true from rfl) (by simp only[cans,aG,az,aC,aH,ndE.can])];simp only[aO,Nat.reduceAdd,c74]
   repeat' (first
   |with_reducible (first|refine ai ?_|refine ar ?_|refine au rfl ?_|refine bc rfl ?_|refine aF ?_|refine aj (id:=0) (λQ0 hn0 hx0 hr0 ho0=>?_)|refine hr0 _ ?_)
   |(with_reducible (first|(refine ah (λK hK=>?_);(first|refine iZ ?_|refine ja ?_|refine jb ?_|refine jc ?_|refine Ft ?_))|refine hqr _ ?_);(try simp only[SS,Nat.reduceEqDiff,ap,cB,r74,aQ,ak,aD,am,ndC,h1,o1,o2]))
   |(with_reducible refine hK _ ?_;clear hK K))
   all_goals simp[bX,h1]
  by_cases h2:n.op=2
  ·refine aL rfl Try.func74 s74 (Nat.le_of_ble_eq_true rfl) (λQ hqr hqn=>?_)
   rw[bf (show An.pure 74=true from rfl) (by simp only[cans,aG,az,aC,aH,ndE.can])];simp only[aO,Nat.reduceAdd,c74]
   repeat' (first
   |with_reducible (first|refine ai ?_|refine ar ?_|refine au rfl ?_|refine ax rfl ?_|refine bc rfl ?_|refine aF ?_|refine aj (id:=0) (λQ0 hn0 hx0 hr0 ho0=>?_)|refine hr0 _ ?_)
   |(with_reducible (first|(refine ah (λK hK=>?_);(first|refine iZ ?_|refine ja ?_|refine jb ?_|refine jc ?_|refine jO ?_|refine Ft ?_))|refine hqr _ ?_);(try simp only[SS,Nat.reduceEqDiff,ap,cB,r74,aQ,ak,aD,am,ndC,h2,o1,o2]))
   |(revert hK;intro hK;(first|refine And.intro ?_ ?_|intro _|omega|(with_reducible refine hK _ ?_;clear hK K))))
   all_goals simp[bX,h2]
  by_cases h3:n.op=3
  ·refine aL rfl Try.func74 s74 (Nat.le_of_ble_eq_true rfl) (λQ hqr hqn=>?_)
   rw[bf (show An.pure 74=true from rfl) (by simp only[cans,aG,az,aC,aH,ndE.can])];simp only[aO,Nat.reduceAdd,c74]
   repeat' (first
   |with_reducible (first|refine ai ?_|refine ax rfl ?_|refine bc rfl ?_|refine aF ?_|refine aj (id:=0) (λQ0 hn0 hx0 hr0 ho0=>?_)|refine hr0 _ ?_)
   |(with_reducible (first|(refine ah (λK hK=>?_);(first|refine iZ ?_|refine ja ?_|refine jb ?_|refine jc ?_|refine jO ?_|refine lk ?_|refine Ft ?_))|refine hqr _ ?_);(try simp only[SS,Nat.reduceEqDiff,ap,cB,r74,aQ,ak,aD,am,ndC,h3,o1,o2]))
   |(revert hK;intro hK;(first|refine And.intro ?_ ?_|intro _|omega|(with_reducible refine hK _ ?_;clear hK K))))
   all_goals simp[bX,h3]
  by_cases h4:n.op=4
  ·refine aL rfl Try.func74 s74 (Nat.le_of_ble_eq_true rfl) (λQ hqr hqn=>?_)
   rw[bf (show An.pure 74=true from rfl) (by simp only[cans,aG,az,aC,aH,ndE.can])];simp only[aO,Nat.reduceAdd,c74]
   repeat' (first
   |with_reducible (first|refine ai ?_|refine ax rfl ?_|refine bc rfl ?_|refine bn rfl ?_|refine aF ?_|refine aj (id:=0) (λQ0 hn0 hx0 hr0 ho0=>?_)|refine hr0 _ ?_)
   |(with_reducible (first|(refine ah (λK hK=>?_);(first|refine iZ ?_|refine ja ?_|refine jb ?_|refine jc ?_|refine jO ?_|refine lk ?_|refine mq ?_|refine t74r8 ?_|refine t74r9 ?_))|refine hqr _ ?_);(try simp only[SS,Nat.reduceEqDiff,ap,cB,dT,r74,aQ,ak,aD,am,ndC,h4,hA,o1,o2]))
   |(revert hK;intro hK;(first|refine And.intro ?_ ?_|intro _|omega|(with_reducible refine hK _ ?_;clear hK K))))
   all_goals simp[bX,h4]
  by_cases h5:n.op=5
  ·rw[hn5 h5]
   cases sb
   all_goals
    refine aL rfl Try.func74 s74 (Nat.le_of_ble_eq_true rfl) (λQ hqr hqn=>?_);rw[bf (show An.pure 74=true from rfl) (by simp only[cans,aG,az,aC,aH,ndE.can])];simp only[aO,Nat.reduceAdd,c74]
    repeat' (first
    |with_reducible (first|refine ai ?_|refine ax rfl ?_|refine bc rfl ?_|refine bn rfl ?_|refine aF ?_|refine aj (id:=0) (λQ0 hn0 hx0 hr0 ho0=>?_)|refine hr0 _ ?_)
    |(with_reducible (first|(refine ah (λK hK=>?_);(first|refine iZ ?_|refine ja ?_|refine jb ?_|refine jc ?_|refine jO ?_|refine lk ?_|refine mq ?_|refine ki ?_|refine t74r11 ?_))|refine hqr _ ?_);(try simp only[SS,Nat.reduceEqDiff,ap,cB,Bool.and_self,Bool.true_and,Bool.and_true,r74,aQ,ak,aD,am,ndC,h5,hS,o1,o2]))
    |(revert hK;intro hK;(first|refine And.intro ?_ ?_|intro _|omega|(with_reducible refine hK _ ?_;clear hK K))))
  by_cases h6:n.op=6
  ·rw[hn6 h6]
   by_cases hid:n.id = -1
   all_goals
    cases sb
    all_goals
     refine aL rfl Try.func74 s74 (Nat.le_of_ble_eq_true rfl) (λQ hqr hqn=>?_);rw[bf (show An.pure 74=true from rfl) (by simp only[cans,aG,az,aC,aH,ndE.can])];simp only[aO,Nat.reduceAdd,c74]
     repeat' (first
     |with_reducible (first|refine ai ?_|refine ax rfl ?_|refine bc rfl ?_|refine bn rfl ?_|refine aF ?_|refine aj (id:=0) (λQ0 hn0 hx0 hr0 ho0=>?_)|refine hr0 _ ?_)
     |(with_reducible (first|(refine ah (λK hK=>?_);(first|refine iZ ?_|refine ja ?_|refine jb ?_|refine jc ?_|refine jO ?_|refine lk ?_|refine mq ?_|refine ki ?_|refine lR ?_|refine t74r13 ?_))|refine hqr _ ?_);(try simp only[SS,Nat.reduceEqDiff,ap,cB,Bool.and_self,Bool.true_and,Bool.and_true,decide_false,decide_true,r74,aQ,ak,aD,am,ndC,h6,hS2,o1,o2,hid]))
     |(revert hK;intro hK;(first|refine And.intro ?_ ?_|intro _|omega|(with_reducible refine hK _ ?_;clear hK K))))
     all_goals simp[hid]
  by_cases h7:n.op=7
  ·have hn:bX n=decide (bZ n.imm=some n.args.length):=by simp[bX,h7]
   rw[hn]
   by_cases hi:(5:Int)<n.imm
   ·have hh:bZ n.imm=none:=by
     unfold bZ;rw[if_neg (by omega),if_neg (by omega),if_neg (by omega),if_neg (by omega),if_neg (by omega)]
    rw[hh];refine aL rfl Try.func74 s74 (Nat.le_of_ble_eq_true rfl) (λQ hqr hqn=>?_);rw[bf (show An.pure 74=true from rfl) (by simp only[cans,aG,az,aC,aH,ndE.can])];simp only[aO,Nat.reduceAdd,c74]
    repeat' (first
    |with_reducible (first|refine ai ?_|refine au rfl ?_|refine ax rfl ?_|refine bc rfl ?_|refine bn rfl ?_|refine b6 ?_|refine aj (id:=0) (λQ0 hn0 hx0 hr0 ho0=>?_)|refine hr0 _ ?_)
    |(with_reducible (first|(refine ah (λK hK=>?_);(first|refine iZ ?_|refine ja ?_|refine jb ?_|refine jc ?_|refine jO ?_|refine lk ?_|refine mq ?_|refine ki ?_|refine lR ?_|refine oN ?_|refine rj ?_|refine t74r16 ?_))|refine hqr _ ?_);(try simp only[SS,Nat.reduceEqDiff,ap,cB,bq,r74,aQ,ak,aD,am,ndC,h7,o1,o2,hi]))
    |(revert hK;intro hK;(first|refine And.intro ?_ ?_|intro _|omega|(with_reducible refine hK _ ?_;clear hK K))))
    all_goals simp
   ·have hw:IntKind.i64.wrap n.imm=n.imm:=wI (by omega) (by omega)
    obtain⟨_,⟨s,x2,k2,H2,rfl,hl,hg,hp⟩,hT⟩:=x103 n.imm;have hc2:ap x2=some [x2]:=by cases x2<;>first|rfl|simp[cK] at hl
    have hT:∀m,aB An FF 74 (some 61) 103 [.int .i64 n.imm] m=some (.tuple [.agg [.str s,x2,.int .i64 k2],.bool (bZ n.imm).isSome],m):=λm=>
     cr hT (λ_ _ _=>rfl) rfl rfl rfl rfl (by simp only[noG,noGs,hg,Bool.and_self])
    generalize bZ n.imm=oh at hT hl
    cases oh with
    |none=>
     refine aL rfl Try.func74 s74 (Nat.le_of_ble_eq_true rfl) (λQ hqr hqn=>?_);rw[bf (show An.pure 74=true from rfl) (by simp only[cans,aG,az,aC,aH,ndE.can])];simp only[aO,Nat.reduceAdd,c74]
     repeat' (first
     |with_reducible (first|refine ai ?_|refine ar ?_|refine ax rfl ?_|refine bc rfl ?_|refine bn rfl ?_|refine aF ?_|refine aj (id:=0) (λQ0 hn0 hx0 hr0 ho0=>?_)|refine hr0 _ ?_)
     |(with_reducible (first|(refine ah (λK hK=>?_);(first|refine iZ ?_|refine ja ?_|refine jb ?_|refine jc ?_|refine jO ?_|refine lk ?_|refine mq ?_|refine ki ?_|refine lR ?_|refine oN ?_|refine rj ?_|refine uB ?_|refine uC ?_))|refine hqr _ ?_);(try simp only[SS,Nat.reduceEqDiff,ap,bv,aR,aS,Nat.reduceAdd,cB,bq,lenS,gE,dT,ay,r74,aQ,ak,aD,am,ndC,h7,o1,o2,hi,hw,hT,hp,Option.isSome_none]))
     |(revert hK;intro hK;(first|refine And.intro ?_ ?_|intro _|omega|(with_reducible refine hK _ ?_;clear hK K))))
     all_goals simp
    |some c=>
     simp only[Option.getD_some] at hl
     by_cases hcl:n.args.length=c
     ·refine aL rfl Try.func74 s74 (Nat.le_of_ble_eq_true rfl) (λQ hqr hqn=>?_)
      rw[bf (show An.pure 74=true from rfl) (by simp only[cans,aG,az,aC,aH,ndE.can])];simp only[aO,Nat.reduceAdd,c74]
      repeat' (first
      |with_reducible (first|refine ai ?_|refine ar ?_|refine ax rfl ?_|refine bc rfl ?_|refine bn rfl ?_|refine aF ?_|refine aj (id:=0) (λQ0 hn0 hx0 hr0 ho0=>?_)|refine hr0 _ ?_)
      |(with_reducible (first|(refine ah (λK hK=>?_);(first|refine iZ ?_|refine ja ?_|refine jb ?_|refine jc ?_|refine jO ?_|refine lk ?_|refine mq ?_|refine ki ?_|refine lR ?_|refine oN ?_|refine rj ?_|refine uB ?_|refine uC ?_))|refine hqr _ ?_);(try simp only[SS,Nat.reduceEqDiff,ap,bv,aR,aS,Nat.reduceAdd,cB,bq,lenS,gE,dT,ay,decide_true,r74,aQ,ak,aD,am,ndC,h7,o1,o2,hi,hw,hT,hp,hl,hcl,aP,Option.isSome_some]))
      |(revert hK;intro hK;(first|refine And.intro ?_ ?_|intro _|omega|(with_reducible refine hK _ ?_;clear hK K))))
      all_goals simp[hcl]
     ·have hcl2:¬(n.args.length:Int)=c:=by omega
      refine aL rfl Try.func74 s74 (Nat.le_of_ble_eq_true rfl) (λQ hqr hqn=>?_);rw[bf (show An.pure 74=true from rfl) (by simp only[cans,aG,az,aC,aH,ndE.can])];simp only[aO,Nat.reduceAdd,c74]
      repeat' (first
      |with_reducible (first|refine ai ?_|refine ar ?_|refine ax rfl ?_|refine bc rfl ?_|refine bn rfl ?_|refine aF ?_|refine aj (id:=0) (λQ0 hn0 hx0 hr0 ho0=>?_)|refine hr0 _ ?_)
      |(with_reducible (first|(refine ah (λK hK=>?_);(first|refine iZ ?_|refine ja ?_|refine jb ?_|refine jc ?_|refine jO ?_|refine lk ?_|refine mq ?_|refine ki ?_|refine lR ?_|refine oN ?_|refine rj ?_|refine uB ?_|refine uC ?_))|refine hqr _ ?_);(try simp only[SS,Nat.reduceEqDiff,ap,bv,aR,aS,Nat.reduceAdd,cB,bq,lenS,gE,dT,ay,r74,aQ,ak,aD,am,ndC,h7,o1,o2,hi,hw,hT,hp,hl,hcl2,aP,Option.isSome_some]))
      |(revert hK;intro hK;(first|refine And.intro ?_ ?_|intro _|omega|(with_reducible refine hK _ ?_;clear hK K))))
      all_goals simp;omega
  ·refine aL rfl Try.func74 s74 (Nat.le_of_ble_eq_true rfl) (λQ hqr hqn=>?_)
   rw[bf (show An.pure 74=true from rfl) (by simp only[cans,aG,az,aC,aH,ndE.can])];simp only[aO,Nat.reduceAdd,c74]
   repeat' (first
   |with_reducible (first|refine ai ?_|refine ax rfl ?_|refine bn rfl ?_|refine aF ?_|refine bx ?_|refine aj (id:=0) (λQ0 hn0 hx0 hr0 ho0=>?_)|refine hn0 _ ?_)
   |(with_reducible (first|(refine ah (λK hK=>?_);(first|refine iZ ?_|refine ja ?_|refine jb ?_|refine jc ?_|refine jO ?_|refine lk ?_|refine mq ?_|refine ki ?_|refine lR ?_|refine oN ?_|refine t74r19 ?_))|refine hqr _ ?_);(try simp only[SS,Nat.reduceEqDiff,ap,cB,r74,aQ,ak,aD,am,ndC,h1,h2,h3,h4,h5,h6,h7,o1,o2]))
   |(with_reducible refine hK _ ?_;clear hK K))
   all_goals simp[bX,h1,h2,h3,h4,h5,h6,h7]
end Go.Cm
