import Derived.Test.YtjhndbgokapikaaFoQ
set_option linter.unusedSimpArgs false
set_option linter.unusedVariables false
namespace Go.Cm
open Go.Proofs Go.Fl
def rgB (x:In):Bool:=decide (lY .and .i64 x.op 8≠0)
def La (x:In) (o:Int) (w:Bool):Bool:=
 nE x 9 (rgB x) false (!(rgB x)&&decide (o≠128))&&(rgB x||((decide (o≠96)&&(decide (o≠112)&&decide (o≠192)))||inB x.imm 0 (if w then 63 else 31)))
set_option maxHeartbeats 8000000 in
theorem x54 (x:In) (o:Int) (w:Bool):FF 54 [.agg (inC x),.int .i64 o,.bool w] []=some (.bool (La x o w),[]):=by
 have kF:∀d s f i t m,cd An FF 54 (some t) 55 [.agg [.int .i64 x.op,.int .i64 x.dst,.int .i64 x.src,.int .i64 x.off,.int .i64 x.imm,.int .u64 x.wide],.int .i64 d,.bool s,.bool f,.bool i] m=some (.bool (nE x d s f i),m):=λd s f i t m=>k55;have kW:∀b t m,cd An FF 54 (some t) 56 [.int .i64 x.imm,.int .i64 0,.int .i64 b] m=some (.bool (inB x.imm 0 b),m):=λb t m=>k56
 by_cases r0:lY .and .i64 x.op 8=0
 ·have hr:rgB x=false:=by rw[rgB,decide_eq_false (λh=>h r0)]
  have he:La x o w=(nE x 9 false false (decide (o≠128))&&((decide (o≠96)&&(decide (o≠112)&&decide (o≠192)))||inB x.imm 0 (if w then 63 else 31))):=by rw[La,hr];rfl
  rw[he];clear he hr
  by_cases h1:o=128
  ·rw[show decide (o≠128)=false from decide_eq_false (λh=>h h1)]
   cases hF:nE x 9 false false false with
   |false=>
    refine aL rfl Try.func54 s54 (Nat.le_of_ble_eq_true rfl) (λQ hqr hqn=>?_);rw[bf (show An.pure 54=true from rfl) (by simp only[cans,aG,az,aC,aH,aC,inE.can])];simp only[aO,Nat.reduceAdd,c54]
    repeat' (first
    |with_reducible (first|refine ai ?_|refine au rfl ?_|refine b6 ?_)
    |(with_reducible (first|(refine ah (λK hK=>?_);(first|refine J9 ?_|refine Ka ?_|refine uE ?_|refine QZ ?_))|refine hqr _ ?_);(try simp only[true_implies,false_implies,not_true_eq_false,b9,if_true,if_false,Nat.reduceEqDiff,ap,aJ,dg,qO,qP,ba,ik,Nat.reduceAdd,Nat.zero_add,cb,List.drop_zero,eX,kM,cw,List.getElem?_cons_zero,br,fc,nL,Option.map_some,ic,Bool.not_false,dU,uR,List.take_zero,List.take_succ_cons,List.length_cons,List.length_nil,and_true,Nat.le_refl,gi,if_false,if_true,r54,aQ,ak,aD,Option.bind_some,am,jx,aV,Prod.mk.injEq,CV.bool.injEq,inC,kF,kW,ne_eq,r0,hF,h1]))
    |(revert hK;intro hK;(with_reducible refine hK _ ?_;clear hK K)))
    all_goals first|rfl|simp_all
   |true=>
    subst h1
    cases w with
    |true=>
     refine aL rfl Try.func54 s54 (Nat.le_of_ble_eq_true rfl) (λQ hqr hqn=>?_);rw[bf (show An.pure 54=true from rfl) (by simp only[cans,aG,az,aC,aH,aC,inE.can])];simp only[aO,Nat.reduceAdd,c54]
     repeat' (first
     |with_reducible (first|refine ai ?_|refine ar ?_|refine au rfl ?_|refine ax rfl ?_|refine aF ?_)
     |(with_reducible (first|(refine ah (λK hK=>?_);(first|refine J9 ?_|refine Ka ?_|refine uE ?_|refine Cl ?_|refine D5 ?_|refine Mm ?_|refine Hc ?_))|refine hqr _ ?_);(try simp only[true_implies,false_implies,not_true_eq_false,b9,if_true,if_false,Nat.reduceEqDiff,ap,aJ,dg,qO,qP,ba,ik,Nat.reduceAdd,Nat.zero_add,cb,List.drop_zero,eX,kM,cw,List.getElem?_cons_zero,List.getElem?_cons_succ,br,fc,nL,qz,qy,lw,Option.map_some,ic,gf,Bool.not_true,Bool.not_false,dU,uR,List.take_zero,List.take_succ_cons,List.length_cons,List.length_nil,and_true,Nat.le_refl,gi,Bool.true_and,if_false,if_true,r54,aQ,ak,aD,Option.bind_some,am,jx,aV,Prod.mk.injEq,CV.bool.injEq,inC,kF,kW,ne_eq,r0,hF]))
     |(revert hK;intro hK;(first|refine And.intro ?_ ?_|intro _|omega|(with_reducible refine hK _ ?_;clear hK K))))
     all_goals first|rfl|simp_all
    |false=>
     refine aL rfl Try.func54 s54 (Nat.le_of_ble_eq_true rfl) (λQ hqr hqn=>?_);rw[bf (show An.pure 54=true from rfl) (by simp only[cans,aG,az,aC,aH,aC,inE.can])];simp only[aO,Nat.reduceAdd,c54]
     repeat' (first
     |with_reducible (first|refine ai ?_|refine ar ?_|refine ax rfl ?_|refine aF ?_)
     |(with_reducible (first|(refine ah (λK hK=>?_);(first|refine J9 ?_|refine Ka ?_|refine uE ?_|refine Cl ?_|refine D5 ?_|refine Hc ?_))|refine hqr _ ?_);(try simp only[true_implies,false_implies,not_true_eq_false,b9,if_true,if_false,Nat.reduceEqDiff,ap,aJ,dg,qO,qP,ba,ik,Nat.reduceAdd,Nat.zero_add,cb,List.drop_zero,eX,kM,cw,List.getElem?_cons_zero,List.getElem?_cons_succ,br,fc,nL,qz,qy,lw,Option.map_some,ic,gf,Bool.not_true,Bool.not_false,dU,uR,List.take_zero,List.take_succ_cons,List.length_cons,List.length_nil,and_true,Nat.le_refl,gi,Bool.true_and,Bool.false_eq_true,if_false,if_true,r54,aQ,ak,aD,Option.bind_some,am,jx,aV,Prod.mk.injEq,CV.bool.injEq,inC,kF,kW,ne_eq,r0,hF]))
     |(revert hK;intro hK;(first|refine And.intro ?_ ?_|intro _|omega|(with_reducible refine hK _ ?_;clear hK K))))
     all_goals first|rfl|simp_all
  rw[show decide (o≠128)=true from decide_eq_true h1]
  cases hF:nE x 9 false false true with
  |false=>
   refine aL rfl Try.func54 s54 (Nat.le_of_ble_eq_true rfl) (λQ hqr hqn=>?_);rw[bf (show An.pure 54=true from rfl) (by simp only[cans,aG,az,aC,aH,aC,inE.can])];simp only[aO,Nat.reduceAdd,c54]
   repeat' (first
   |with_reducible (first|refine ai ?_|refine au rfl ?_|refine b6 ?_)
   |(with_reducible (first|(refine ah (λK hK=>?_);(first|refine J9 ?_|refine Ka ?_|refine uE ?_|refine QZ ?_))|refine hqr _ ?_);(try simp only[true_implies,false_implies,not_true_eq_false,not_false_eq_true,b9,if_true,if_false,Nat.reduceEqDiff,ap,aJ,dg,qO,qP,ba,ik,Nat.reduceAdd,Nat.zero_add,cb,List.drop_zero,eX,kM,cw,List.getElem?_cons_zero,br,fc,nL,Option.map_some,ic,Bool.not_false,dU,uR,List.take_zero,List.take_succ_cons,List.length_cons,List.length_nil,and_true,true_and,Nat.le_refl,gi,if_false,if_true,r54,aQ,ak,aD,Option.bind_some,am,jx,aV,Prod.mk.injEq,CV.bool.injEq,inC,kF,kW,ne_eq,r0,hF,h1]))
   |(revert hK;intro hK;(with_reducible refine hK _ ?_;clear hK K)))
   all_goals first|rfl|simp_all
  |true=>
   by_cases h2:o=96∨o=112∨o=192
   ·have hh:o=96∨(¬o=96∧o=112)∨(¬o=96∧¬o=112∧o=192):=by omega
    rw[show(decide (o≠96)&&(decide (o≠112)&&decide (o≠192)))=false by simp;omega,Bool.false_or,Bool.true_and]
    cases w with
    |true=>
     rcases hh with g1|⟨g1,g2⟩|⟨g1,g2,g3⟩
     ·skip
      refine aL rfl Try.func54 s54 (Nat.le_of_ble_eq_true rfl) (λQ hqr hqn=>?_);rw[bf (show An.pure 54=true from rfl) (by simp only[cans,aG,az,aC,aH,aC,inE.can])];simp only[aO,Nat.reduceAdd,c54]
      repeat' (first
      |with_reducible (first|refine ai ?_|refine ar ?_|refine au rfl ?_|refine ax rfl ?_|refine aF ?_)
      |(with_reducible (first|(refine ah (λK hK=>?_);(first|refine J9 ?_|refine Ka ?_|refine uE ?_|refine Cl ?_|refine D5 ?_|refine Mm ?_|refine Hc ?_))|refine hqr _ ?_);(try simp only[true_implies,false_implies,not_true_eq_false,b9,if_true,if_false,Nat.reduceEqDiff,ap,aJ,dg,qO,qP,ba,ik,Nat.reduceAdd,Nat.zero_add,cb,List.drop_zero,eX,kM,cw,List.getElem?_cons_zero,List.getElem?_cons_succ,br,fc,nL,qz,qy,lw,Option.map_some,ic,gf,Bool.not_true,Bool.not_false,dU,uR,List.take_zero,List.take_succ_cons,List.length_cons,List.length_nil,and_true,Nat.le_refl,gi,if_false,if_true,r54,aQ,ak,aD,Option.bind_some,am,jx,aV,inC,kF,kW,ne_eq,r0,hF,h1,g1]))
      |(revert hK;intro hK;(first|refine And.intro ?_ ?_|intro _|omega|(with_reducible refine hK _ ?_;clear hK K))))
      all_goals first|rfl|simp_all
     ·skip
      refine aL rfl Try.func54 s54 (Nat.le_of_ble_eq_true rfl) (λQ hqr hqn=>?_);rw[bf (show An.pure 54=true from rfl) (by simp only[cans,aG,az,aC,aH,aC,inE.can])];simp only[aO,Nat.reduceAdd,c54]
      repeat' (first
      |with_reducible (first|refine ai ?_|refine ar ?_|refine au rfl ?_|refine ax rfl ?_|refine aF ?_)
      |(with_reducible (first|(refine ah (λK hK=>?_);(first|refine J9 ?_|refine Ka ?_|refine uE ?_|refine Cl ?_|refine D5 ?_|refine Mm ?_|refine Hc ?_))|refine hqr _ ?_);(try simp only[true_implies,false_implies,not_true_eq_false,b9,if_true,if_false,Nat.reduceEqDiff,ap,aJ,dg,qO,qP,ba,ik,Nat.reduceAdd,Nat.zero_add,cb,List.drop_zero,eX,kM,cw,List.getElem?_cons_zero,List.getElem?_cons_succ,br,fc,nL,qz,qy,lw,Option.map_some,ic,gf,Bool.not_true,Bool.not_false,dU,uR,List.take_zero,List.take_succ_cons,List.length_cons,List.length_nil,and_true,Nat.le_refl,gi,if_false,if_true,r54,aQ,ak,aD,Option.bind_some,am,jx,aV,inC,kF,kW,ne_eq,r0,hF,h1,g1,g2]))
      |(revert hK;intro hK;(first|refine And.intro ?_ ?_|intro _|omega|(with_reducible refine hK _ ?_;clear hK K))))
      all_goals first|rfl|simp_all
     ·skip
      refine aL rfl Try.func54 s54 (Nat.le_of_ble_eq_true rfl) (λQ hqr hqn=>?_);rw[bf (show An.pure 54=true from rfl) (by simp only[cans,aG,az,aC,aH,aC,inE.can])];simp only[aO,Nat.reduceAdd,c54]
      repeat' (first
      |with_reducible (first|refine ai ?_|refine ar ?_|refine au rfl ?_|refine ax rfl ?_|refine aF ?_)
      |(with_reducible (first|(refine ah (λK hK=>?_);(first|refine J9 ?_|refine Ka ?_|refine uE ?_|refine Cl ?_|refine D5 ?_|refine Mm ?_|refine Hc ?_))|refine hqr _ ?_);(try simp only[true_implies,false_implies,not_true_eq_false,b9,if_true,if_false,Nat.reduceEqDiff,ap,aJ,dg,qO,qP,ba,ik,Nat.reduceAdd,Nat.zero_add,cb,List.drop_zero,eX,kM,cw,List.getElem?_cons_zero,List.getElem?_cons_succ,br,fc,nL,qz,qy,lw,Option.map_some,ic,gf,Bool.not_true,Bool.not_false,dU,uR,List.take_zero,List.take_succ_cons,List.length_cons,List.length_nil,and_true,Nat.le_refl,gi,if_false,if_true,r54,aQ,ak,aD,Option.bind_some,am,jx,aV,inC,kF,kW,ne_eq,r0,hF,h1,g1,g2,g3]))
      |(revert hK;intro hK;(first|refine And.intro ?_ ?_|intro _|omega|(with_reducible refine hK _ ?_;clear hK K))))
      all_goals first|rfl|simp_all
    |false=>
     rcases hh with g1|⟨g1,g2⟩|⟨g1,g2,g3⟩
     ·skip
      refine aL rfl Try.func54 s54 (Nat.le_of_ble_eq_true rfl) (λQ hqr hqn=>?_);rw[bf (show An.pure 54=true from rfl) (by simp only[cans,aG,az,aC,aH,aC,inE.can])];simp only[aO,Nat.reduceAdd,c54]
      repeat' (first
      |with_reducible (first|refine ai ?_|refine ar ?_|refine ax rfl ?_|refine aF ?_)
      |(with_reducible (first|(refine ah (λK hK=>?_);(first|refine J9 ?_|refine Ka ?_|refine uE ?_|refine Cl ?_|refine D5 ?_|refine Hc ?_))|refine hqr _ ?_);(try simp only[true_implies,false_implies,not_true_eq_false,b9,if_true,if_false,Nat.reduceEqDiff,ap,aJ,dg,qO,qP,ba,ik,Nat.reduceAdd,Nat.zero_add,cb,List.drop_zero,eX,kM,cw,List.getElem?_cons_zero,List.getElem?_cons_succ,br,fc,nL,qz,qy,lw,Option.map_some,ic,gf,Bool.not_true,Bool.not_false,dU,uR,List.take_zero,List.take_succ_cons,List.length_cons,List.length_nil,and_true,Nat.le_refl,gi,Bool.false_eq_true,if_false,if_true,r54,aQ,ak,aD,Option.bind_some,am,jx,aV,inC,kF,kW,ne_eq,r0,hF,h1,g1]))
      |(revert hK;intro hK;(first|refine And.intro ?_ ?_|intro _|omega|(with_reducible refine hK _ ?_;clear hK K))))
      all_goals first|rfl|simp_all
     ·skip
      refine aL rfl Try.func54 s54 (Nat.le_of_ble_eq_true rfl) (λQ hqr hqn=>?_);rw[bf (show An.pure 54=true from rfl) (by simp only[cans,aG,az,aC,aH,aC,inE.can])];simp only[aO,Nat.reduceAdd,c54]
      repeat' (first
      |with_reducible (first|refine ai ?_|refine ar ?_|refine ax rfl ?_|refine aF ?_)
      |(with_reducible (first|(refine ah (λK hK=>?_);(first|refine J9 ?_|refine Ka ?_|refine uE ?_|refine Cl ?_|refine D5 ?_|refine Hc ?_))|refine hqr _ ?_);(try simp only[true_implies,false_implies,not_true_eq_false,b9,if_true,if_false,Nat.reduceEqDiff,ap,aJ,dg,qO,qP,ba,ik,Nat.reduceAdd,Nat.zero_add,cb,List.drop_zero,eX,kM,cw,List.getElem?_cons_zero,List.getElem?_cons_succ,br,fc,nL,qz,qy,lw,Option.map_some,ic,gf,Bool.not_true,Bool.not_false,dU,uR,List.take_zero,List.take_succ_cons,List.length_cons,List.length_nil,and_true,Nat.le_refl,gi,Bool.false_eq_true,if_false,if_true,r54,aQ,ak,aD,Option.bind_some,am,jx,aV,inC,kF,kW,ne_eq,r0,hF,h1,g1,g2]))
      |(revert hK;intro hK;(first|refine And.intro ?_ ?_|intro _|omega|(with_reducible refine hK _ ?_;clear hK K))))
      all_goals first|rfl|simp_all
     ·skip
      refine aL rfl Try.func54 s54 (Nat.le_of_ble_eq_true rfl) (λQ hqr hqn=>?_);rw[bf (show An.pure 54=true from rfl) (by simp only[cans,aG,az,aC,aH,aC,inE.can])];simp only[aO,Nat.reduceAdd,c54]
      repeat' (first
      |with_reducible (first|refine ai ?_|refine ar ?_|refine ax rfl ?_|refine aF ?_)
      |(with_reducible (first|(refine ah (λK hK=>?_);(first|refine J9 ?_|refine Ka ?_|refine uE ?_|refine Cl ?_|refine D5 ?_|refine Hc ?_))|refine hqr _ ?_);(try simp only[true_implies,false_implies,not_true_eq_false,b9,if_true,if_false,Nat.reduceEqDiff,ap,aJ,dg,qO,qP,ba,ik,Nat.reduceAdd,Nat.zero_add,cb,List.drop_zero,eX,kM,cw,List.getElem?_cons_zero,List.getElem?_cons_succ,br,fc,nL,qz,qy,lw,Option.map_some,ic,gf,Bool.not_true,Bool.not_false,dU,uR,List.take_zero,List.take_succ_cons,List.length_cons,List.length_nil,and_true,Nat.le_refl,gi,Bool.false_eq_true,if_false,if_true,r54,aQ,ak,aD,Option.bind_some,am,jx,aV,inC,kF,kW,ne_eq,r0,hF,h1,g1,g2,g3]))
      |(revert hK;intro hK;(first|refine And.intro ?_ ?_|intro _|omega|(with_reducible refine hK _ ?_;clear hK K))))
      all_goals first|rfl|simp_all
   ·simp only[not_or] at h2
    rw[show(decide (o≠96)&&(decide (o≠112)&&decide (o≠192)))=true by simp[h2],Bool.true_or,Bool.and_true]
    cases w with
    |true=>
     refine aL rfl Try.func54 s54 (Nat.le_of_ble_eq_true rfl) (λQ hqr hqn=>?_);rw[bf (show An.pure 54=true from rfl) (by simp only[cans,aG,az,aC,aH,aC,inE.can])];simp only[aO,Nat.reduceAdd,c54]
     repeat' (first
     |with_reducible (first|refine ai ?_|refine ar ?_|refine au rfl ?_|refine ax rfl ?_|refine aF ?_)
     |(with_reducible (first|(refine ah (λK hK=>?_);(first|refine J9 ?_|refine Ka ?_|refine uE ?_|refine Cl ?_|refine D5 ?_|refine Mm ?_|refine Hc ?_))|refine hqr _ ?_);(try simp only[true_implies,false_implies,not_true_eq_false,not_false_eq_true,b9,if_true,if_false,Nat.reduceEqDiff,ap,aJ,dg,qO,qP,ba,ik,Nat.reduceAdd,Nat.zero_add,cb,List.drop_zero,eX,kM,cw,List.getElem?_cons_zero,List.getElem?_cons_succ,br,fc,nL,qz,qy,lw,Option.map_some,ic,gf,Bool.not_true,Bool.not_false,dU,uR,List.take_zero,List.take_succ_cons,List.length_cons,List.length_nil,and_true,true_and,Nat.le_refl,gi,if_false,if_true,r54,aQ,ak,aD,Option.bind_some,am,jx,aV,inC,kF,kW,ne_eq,r0,hF,h1,h2]))
     |(revert hK;intro hK;(with_reducible refine hK _ ?_;clear hK K)))
     all_goals first|rfl|simp_all
    |false=>
     refine aL rfl Try.func54 s54 (Nat.le_of_ble_eq_true rfl) (λQ hqr hqn=>?_);rw[bf (show An.pure 54=true from rfl) (by simp only[cans,aG,az,aC,aH,aC,inE.can])];simp only[aO,Nat.reduceAdd,c54]
     repeat' (first
     |with_reducible (first|refine ai ?_|refine ar ?_|refine ax rfl ?_|refine aF ?_)
     |(with_reducible (first|(refine ah (λK hK=>?_);(first|refine J9 ?_|refine Ka ?_|refine uE ?_|refine Cl ?_|refine D5 ?_|refine Hc ?_))|refine hqr _ ?_);(try simp only[true_implies,false_implies,not_true_eq_false,not_false_eq_true,b9,if_true,if_false,Nat.reduceEqDiff,ap,aJ,dg,qO,qP,ba,ik,Nat.reduceAdd,Nat.zero_add,cb,List.drop_zero,eX,kM,cw,List.getElem?_cons_zero,List.getElem?_cons_succ,br,fc,nL,qz,qy,lw,Option.map_some,ic,gf,Bool.not_true,Bool.not_false,dU,uR,List.take_zero,List.take_succ_cons,List.length_cons,List.length_nil,and_true,true_and,Nat.le_refl,gi,if_false,if_true,r54,aQ,ak,aD,Option.bind_some,am,jx,aV,inC,kF,kW,ne_eq,r0,hF,h1,h2]))
     |(revert hK;intro hK;(with_reducible refine hK _ ?_;clear hK K)))
     all_goals first|rfl|simp_all
 ·have hr:rgB x=true:=by rw[rgB,decide_eq_true r0]
  have he:La x o w=nE x 9 true false false:=by rw[La,hr];simp
  rw[he];clear he hr
  cases hF:nE x 9 true false false with
  |false=>
   refine aL rfl Try.func54 s54 (Nat.le_of_ble_eq_true rfl) (λQ hqr hqn=>?_);rw[bf (show An.pure 54=true from rfl) (by simp only[cans,aG,az,aC,aH,aC,inE.can])];simp only[aO,Nat.reduceAdd,c54]
   repeat' (first
   |with_reducible (first|refine ai ?_|refine au rfl ?_|refine b6 ?_)
   |(with_reducible (first|(refine ah (λK hK=>?_);(first|refine J9 ?_|refine Ka ?_|refine uE ?_|refine QZ ?_))|refine hqr _ ?_);(try simp only[true_implies,false_implies,not_false_eq_true,b9,if_true,if_false,Nat.reduceEqDiff,ap,aJ,dg,qO,qP,ba,ik,Nat.reduceAdd,Nat.zero_add,cb,List.drop_zero,eX,kM,cw,List.getElem?_cons_zero,br,fc,lw,Option.map_some,gf,Bool.not_true,Bool.not_false,uR,List.take_zero,List.take_succ_cons,List.length_cons,List.length_nil,true_and,Nat.le_refl,gi,if_false,if_true,r54,aQ,ak,aD,Option.bind_some,am,jx,aV,inC,kF,kW,ne_eq,r0,hF]))
   |(revert hK;intro hK;(with_reducible refine hK _ ?_;clear hK K)))
   all_goals first|rfl|simp_all
  |true=>
   cases w with
   |true=>
    refine aL rfl Try.func54 s54 (Nat.le_of_ble_eq_true rfl) (λQ hqr hqn=>?_);rw[bf (show An.pure 54=true from rfl) (by simp only[cans,aG,az,aC,aH,aC,inE.can])];simp only[aO,Nat.reduceAdd,c54]
    repeat' (first
    |with_reducible (first|refine ai ?_|refine ar ?_|refine au rfl ?_|refine ax rfl ?_|refine aF ?_)
    |(with_reducible (first|(refine ah (λK hK=>?_);(first|refine J9 ?_|refine Ka ?_|refine uE ?_|refine Cl ?_|refine D5 ?_|refine Mm ?_|refine Hc ?_))|refine hqr _ ?_);(try simp only[true_implies,false_implies,not_false_eq_true,b9,if_true,if_false,Nat.reduceEqDiff,ap,aJ,dg,qO,qP,ba,ik,Nat.reduceAdd,Nat.zero_add,cb,List.drop_zero,eX,kM,cw,List.getElem?_cons_zero,br,fc,qz,lw,bI,Option.map_some,ic,gf,Bool.not_true,uR,List.take_zero,List.take_succ_cons,List.length_cons,List.length_nil,true_and,Nat.le_refl,gi,if_false,if_true,r54,aQ,ak,aD,Option.bind_some,am,jx,aV,inC,kF,kW,ne_eq,r0,hF]))
    |(revert hK;intro hK;(with_reducible refine hK _ ?_;clear hK K)))
    all_goals first|rfl|simp_all
   |false=>
    refine aL rfl Try.func54 s54 (Nat.le_of_ble_eq_true rfl) (λQ hqr hqn=>?_);rw[bf (show An.pure 54=true from rfl) (by simp only[cans,aG,az,aC,aH,aC,inE.can])];simp only[aO,Nat.reduceAdd,c54]
    repeat' (first
    |with_reducible (first|refine ai ?_|refine ar ?_|refine ax rfl ?_|refine aF ?_)
    |(with_reducible (first|(refine ah (λK hK=>?_);(first|refine J9 ?_|refine Ka ?_|refine uE ?_|refine Cl ?_|refine D5 ?_|refine Hc ?_))|refine hqr _ ?_);(try simp only[true_implies,false_implies,not_false_eq_true,b9,if_true,if_false,Nat.reduceEqDiff,ap,aJ,dg,qO,qP,ba,ik,Nat.reduceAdd,Nat.zero_add,cb,List.drop_zero,eX,kM,cw,List.getElem?_cons_zero,br,fc,qz,lw,bI,Option.map_some,ic,gf,Bool.not_true,uR,List.take_zero,List.take_succ_cons,List.length_cons,List.length_nil,true_and,Nat.le_refl,gi,if_false,if_true,r54,aQ,ak,aD,Option.bind_some,am,jx,aV,inC,kF,kW,ne_eq,r0,hF]))
    |(revert hK;intro hK;(with_reducible refine hK _ ?_;clear hK K)))
    all_goals first|rfl|simp_all
theorem k54 {x:In}{o:Int}{w:Bool}{fid:FuncId}{d:Tmp}{m:Mem}:cd An FF fid (some d) 54 [.agg (inC x),.int .i64 o,.bool w] m=some (.bool (La x o w),m):=
 cr (x54 x o w) (λ_ _ _=>rfl) rfl (by simp only[cans,aC,aG,az,inE.can]) rfl rfl rfl
def loU (n:Int):Int:=lY .and .u64 (IntKind.u64.wrap n) 4294967295
theorem x65 (n:Int):FF 65 [.int .i64 n,.bool false] []=some (.int .u64 (loU n),[]):=by
 refine aL rfl Try.func65 s65 (Nat.le_of_ble_eq_true rfl) (λQ hqr hqn=>?_);rw[bf (show An.pure 65=true from rfl) (by simp only[cans,aG,az,aC,aH])];simp only[aO,Nat.reduceAdd,c65]
 repeat' (first
 |with_reducible (first|refine ai ?_|refine ar ?_|refine ax rfl ?_|refine aF ?_)
 |(with_reducible (first|(refine ah (λK hK=>?_);(first|refine t65r0 ?_|refine t65r1 ?_|refine t65r3 ?_))|refine hqr _ ?_);(try simp only[b9,if_true,if_false,Nat.reduceEqDiff,aJ,dg,Option.map_some,uR,gE,and_true,true_and,if_false,if_true,r65,aQ,ak,aD,Option.bind_some,am,bz,aV,Prod.mk.injEq,CV.int.injEq]))
 |(revert hK;intro hK;(with_reducible refine hK _ ?_;clear hK K)))
 all_goals rfl
theorem k65 {n:Int}{fid:FuncId}{d:Tmp}{m:Mem}:cd An FF fid (some d) 65 [.int .i64 n,.bool false] m=some (.int .u64 (loU n),m):=
 cr (x65 n) (λ_ _ _=>rfl) rfl rfl rfl rfl rfl
def tl (x:In):Bool:=inB x.dst 0 9&&(decide (x.off=0)&&(inB x.imm (-2147483648) 2147483647&&(if x.src=1 then inB x.imm 0 7&&decide (x.wide=IntKind.u64.wrap x.imm) else decide (x.src=0)&&decide (loU x.imm=x.wide.tmod 4294967296))))
set_option maxHeartbeats 8000000 in
theorem x57 (x:In):FF 57 [.agg (inC x)] []=some (.bool (tl x),[]):=by
 have kW:∀n a b t m,cd An FF 57 (some t) 56 [.int .i64 n,.int .i64 a,.int .i64 b] m=some (.bool (inB n a b),m):=λn a b t m=>k56;have kI:∀t m,cd An FF 57 (some t) 65 [.int .i64 x.imm,.bool false] m=some (.int .u64 (loU x.imm),m):=λt m=>k65;have hz:¬((4294967296:Int)=0):=by decide
 cases h1:inB x.dst 0 9 with
 |false=>
  rw[show tl x=false by rw[tl,h1];rfl];refine aL rfl Try.func57 s57 (Nat.le_of_ble_eq_true rfl) (λQ hqr hqn=>?_);rw[bf (show An.pure 57=true from rfl) (by simp only[cans,aG,az,aC,aH,aC,inE.can])];simp only[aO,Nat.reduceAdd,c57]
  repeat' (first
  |with_reducible (first|refine ai ?_|refine au rfl ?_|refine b6 ?_)
  |(with_reducible (first|(refine ah (λK hK=>?_);(first|refine L5 ?_|refine L6 ?_|refine Q7 ?_))|refine hqr _ ?_);(try simp only[b9,if_true,ap,aJ,dg,qO,qP,ba,ik,Nat.zero_add,cb,eX,cw,List.getElem?_cons_zero,List.getElem?_cons_succ,fc,qz,Option.map_some,ic,Bool.not_false,if_true,r57,aQ,ak,aD,Option.bind_some,am,jx,aV,inC,kW,h1,ne_eq]))
  |(revert hK;intro hK;(with_reducible refine hK _ ?_;clear hK K)))
  all_goals first|rfl|simp_all
 |true=>
  by_cases h2:x.off=0
  ·cases h3:inB x.imm (-2147483648) 2147483647 with
   |false=>
    rw[show tl x=false by rw[tl,h3];simp];refine aL rfl Try.func57 s57 (Nat.le_of_ble_eq_true rfl) (λQ hqr hqn=>?_);rw[bf (show An.pure 57=true from rfl) (by simp only[cans,aG,az,aC,aH,aC,inE.can])];simp only[aO,Nat.reduceAdd,c57]
    repeat' (first
    |with_reducible (first|refine ai ?_|refine au rfl ?_|refine b6 ?_)
    |(with_reducible (first|(refine ah (λK hK=>?_);(first|refine L5 ?_|refine L6 ?_|refine Q7 ?_))|refine hqr _ ?_);(try simp only[true_implies,false_implies,not_true_eq_false,b9,if_true,ap,aJ,dg,qO,qP,ba,ik,Nat.zero_add,cb,eX,cw,List.getElem?_cons_zero,List.getElem?_cons_succ,br,fc,qz,qy,Option.map_some,ic,gf,Bool.not_true,Bool.not_false,dU,and_true,if_true,r57,aQ,ak,aD,Option.bind_some,am,jx,aV,inC,kW,h1,h2,h3,ne_eq]))
    |(revert hK;intro hK;(with_reducible refine hK _ ?_;clear hK K)))
    all_goals first|rfl|simp_all
   |true=>
    have he:tl x=if x.src=1 then inB x.imm 0 7&&decide (x.wide=IntKind.u64.wrap x.imm) else decide (x.src=0)&&decide (loU x.imm=x.wide.tmod 4294967296):=by rw[tl,h1,h3,decide_eq_true h2];rfl
    rw[he]
    by_cases h4:x.src=1
    ·rw[if_pos h4]
     cases h5:inB x.imm 0 7 with
     |false=>
      refine aL rfl Try.func57 s57 (Nat.le_of_ble_eq_true rfl) (λQ hqr hqn=>?_);rw[bf (show An.pure 57=true from rfl) (by simp only[cans,aG,az,aC,aH,aC,inE.can])];simp only[aO,Nat.reduceAdd,c57]
      repeat' (first
      |with_reducible (first|refine ai ?_|refine ar ?_|refine au rfl ?_|refine ax rfl ?_|refine b6 ?_)
      |(with_reducible (first|(refine ah (λK hK=>?_);(first|refine L5 ?_|refine L6 ?_|refine NX ?_|refine t57r4 ?_))|refine hqr _ ?_);(try simp only[true_implies,false_implies,not_true_eq_false,b9,if_true,if_false,Nat.reduceEqDiff,ap,aJ,dg,qO,qP,ba,ik,Nat.zero_add,cb,eX,cw,List.getElem?_cons_zero,List.getElem?_cons_succ,gT,br,fc,qz,qy,lw,Option.map_some,ic,gf,Bool.not_true,dU,and_true,if_false,if_true,r57,aQ,ak,aD,Option.bind_some,am,jx,aV,Prod.mk.injEq,CV.bool.injEq,inC,kW,h1,h2,h3,h4,h5,ne_eq]))
      |(revert hK;intro hK;(with_reducible refine hK _ ?_;clear hK K)))
      all_goals first|rfl|simp_all
     |true=>
      refine aL rfl Try.func57 s57 (Nat.le_of_ble_eq_true rfl) (λQ hqr hqn=>?_);rw[bf (show An.pure 57=true from rfl) (by simp only[cans,aG,az,aC,aH,aC,inE.can])];simp only[aO,Nat.reduceAdd,c57]
      repeat' (first
      |with_reducible (first|refine ai ?_|refine ar ?_|refine au rfl ?_|refine ax rfl ?_|refine b6 ?_)
      |(with_reducible (first|(refine ah (λK hK=>?_);(first|refine L5 ?_|refine L6 ?_|refine NX ?_|refine t57r4 ?_))|refine hqr _ ?_);(try simp only[true_implies,false_implies,not_true_eq_false,b9,if_true,if_false,Nat.reduceEqDiff,ap,aJ,dg,qO,qP,ba,ik,Nat.zero_add,cb,eX,cw,List.getElem?_cons_zero,List.getElem?_cons_succ,gT,br,fc,nL,qz,qy,Option.map_some,ic,gf,Bool.not_true,dU,gE,and_true,Bool.true_and,if_false,if_true,r57,aQ,ak,aD,Option.bind_some,am,jx,aV,Prod.mk.injEq,CV.bool.injEq,inC,kW,h1,h2,h3,h4,h5,ne_eq]))
      |(revert hK;intro hK;(first|refine And.intro ?_ ?_|intro _|(with_reducible refine hK _ ?_;clear hK K))))
      all_goals first|rfl|simp_all
    ·rw[if_neg h4]
     by_cases h5:x.src=0
     ·refine aL rfl Try.func57 s57 (Nat.le_of_ble_eq_true rfl) (λQ hqr hqn=>?_)
      rw[bf (show An.pure 57=true from rfl) (by simp only[cans,aG,az,aC,aH,aC,inE.can])];simp only[aO,Nat.reduceAdd,c57]
      repeat' (first
      |with_reducible (first|refine ai ?_|refine ar ?_|refine ax rfl ?_|refine aF ?_)
      |(with_reducible (first|(refine ah (λK hK=>?_);(first|refine L5 ?_|refine L6 ?_|refine NX ?_|refine t57r5 ?_))|refine hqr _ ?_);(try simp only[true_implies,false_implies,not_true_eq_false,not_false_eq_true,b9,if_true,if_false,Nat.reduceEqDiff,ap,aJ,dg,qO,qP,ba,ik,Nat.zero_add,cb,eX,cw,List.getElem?_cons_zero,List.getElem?_cons_succ,gT,br,fc,nL,qz,qy,lw,Option.map_some,ic,gf,Bool.not_true,dU,Gb,and_true,true_and,Bool.true_and,decide_true,if_false,if_true,r57,aQ,ak,aD,Option.bind_some,am,jx,aV,Prod.mk.injEq,CV.bool.injEq,inC,kW,kI,h1,h2,h3,h4,h5,Lw,hz,ne_eq]))
      |(revert hK;intro hK;(first|refine And.intro ?_ ?_|intro _|omega|(with_reducible refine hK _ ?_;clear hK K))))
      all_goals first|rfl|simp_all
     ·refine aL rfl Try.func57 s57 (Nat.le_of_ble_eq_true rfl) (λQ hqr hqn=>?_)
      rw[bf (show An.pure 57=true from rfl) (by simp only[cans,aG,az,aC,aH,aC,inE.can])];simp only[aO,Nat.reduceAdd,c57]
      repeat' (first
      |with_reducible (first|refine ai ?_|refine ar ?_|refine ax rfl ?_|refine aF ?_)
      |(with_reducible (first|(refine ah (λK hK=>?_);(first|refine L5 ?_|refine L6 ?_|refine NX ?_|refine t57r5 ?_))|refine hqr _ ?_);(try simp only[true_implies,false_implies,not_true_eq_false,not_false_eq_true,b9,if_true,if_false,Nat.reduceEqDiff,ap,aJ,dg,qO,qP,ba,ik,Nat.zero_add,cb,eX,cw,List.getElem?_cons_zero,List.getElem?_cons_succ,gT,br,fc,nL,qz,qy,lw,Option.map_some,ic,gf,Bool.not_true,dU,and_true,true_and,decide_false,if_false,if_true,r57,aQ,ak,aD,Option.bind_some,am,jx,aV,Prod.mk.injEq,CV.bool.injEq,inC,kW,kI,h1,h2,h3,h4,h5,ne_eq]))
      |(revert hK;intro hK;(with_reducible refine hK _ ?_;clear hK K)))
      all_goals first|rfl|simp_all
  ·rw[show tl x=false by rw[tl,decide_eq_false h2];simp]
   refine aL rfl Try.func57 s57 (Nat.le_of_ble_eq_true rfl) (λQ hqr hqn=>?_);rw[bf (show An.pure 57=true from rfl) (by simp only[cans,aG,az,aC,aH,aC,inE.can])];simp only[aO,Nat.reduceAdd,c57]
   repeat' (first
   |with_reducible (first|refine ai ?_|refine au rfl ?_|refine b6 ?_)
   |(with_reducible (first|(refine ah (λK hK=>?_);(first|refine L5 ?_|refine L6 ?_|refine Q7 ?_))|refine hqr _ ?_);(try simp only[true_implies,false_implies,not_false_eq_true,b9,if_true,ap,aJ,dg,qO,qP,ba,ik,Nat.zero_add,cb,eX,cw,List.getElem?_cons_zero,List.getElem?_cons_succ,br,fc,qz,qy,Option.map_some,ic,gf,Bool.not_true,dU,true_and,if_true,r57,aQ,ak,aD,Option.bind_some,am,jx,aV,inC,kW,h1,h2,ne_eq]))
   |(revert hK;intro hK;(with_reducible refine hK _ ?_;clear hK K)))
   all_goals first|rfl|simp_all
theorem k57 {x:In}{fid:FuncId}{d:Tmp}{m:Mem}:cd An FF fid (some d) 57 [.agg (inC x)] m=some (.bool (tl x),m):=
 cr (x57 x) (λ_ _ _=>rfl) rfl (by simp only[cans,aC,inE.can]) rfl rfl rfl
def insR (x:In):Bool:=
 if aB x.op=true then La x (hi x.op) (decide (cls x.op=7))
 else if jB x.op=true then nE x 10 (rgB x) true (!(rgB x))
 else if x.op=5 then nE x 0 false true false
 else if x.op=133 then nE x 0 false false true&&inB x.imm 1 5
 else if x.op=149 then nE x 0 false false false
 else if x.op=24 then tl x
 else if szO x.op=0 then false
 else if lY .and .i64 x.op 7=1 then nE x 9 true true false
 else if lY .and .i64 x.op 7=2 then nE x 10 false true true
 else nE x 10 true true false
set_option maxHeartbeats 8000000 in
theorem x39 (x:In):FF 39 [.agg (inC x)] []=some (.bool (insR x),[]):=by
 obtain⟨_,⟨ja,jb,rfl⟩,hj⟩:=x33 x.op;obtain⟨J,hJ⟩:∃J,J=jB x.op:=⟨_,rfl⟩;have kJ:∀t m,cd An FF 39 (some t) 33 [.int .i64 x.op] m=some (.tuple [.int .i64 ja,.bool jb,.bool J],m):=λt m=>by rw[hJ];exact cr hj (λ_ _ _=>rfl) rfl rfl rfl rfl rfl
 obtain⟨A,hA⟩:∃A,A=aB x.op:=⟨_,rfl⟩;obtain⟨aa,ab,kA,hAt⟩:∃aa ab,(∀t m,cd An FF 39 (some t) 53 [.int .i64 x.op] m=some (.tuple [.int .i64 aa,.bool ab,.bool A],m))∧(A=true→La x aa ab=La x (hi x.op) (decide (cls x.op=7))):=by
  have h:=x53 x.op;rw[hA]
  by_cases hA':aB x.op=true
  ·rw[aT,if_pos hA'] at h
   exact⟨_,_,λt m=>by rw[hA'];exact cr h (λ_ _ _=>rfl) rfl rfl rfl rfl rfl,λ_=>rfl⟩
  ·rw[aT,if_neg hA'] at h
   exact⟨0,false,λt m=>by rw[show aB x.op=false by simpa using hA'];exact cr h (λ_ _ _=>rfl) rfl rfl rfl rfl rfl,λh=>absurd h hA'⟩
 have kS:∀t m,cd An FF 39 (some t) 58 [.int .i64 x.op] m=some (.int .i64 (szO x.op),m):=λt m=>k58;have kT:∀t m,cd An FF 39 (some t) 57 [.agg [.int .i64 x.op,.int .i64 x.dst,.int .i64 x.src,.int .i64 x.off,.int .i64 x.imm,.int .u64 x.wide]] m=some (.bool (tl x),m):=λt m=>k57;have kL:∀t m,cd An FF 39 (some t) 54 [.agg [.int .i64 x.op,.int .i64 x.dst,.int .i64 x.src,.int .i64 x.off,.int .i64 x.imm,.int .u64 x.wide],.int .i64 aa,.bool ab] m=some (.bool (La x aa ab),m):=λt m=>k54;have kF:∀d s f i t m,cd An FF 39 (some t) 55 [.agg [.int .i64 x.op,.int .i64 x.dst,.int .i64 x.src,.int .i64 x.off,.int .i64 x.imm,.int .u64 x.wide],.int .i64 d,.bool s,.bool f,.bool i] m=some (.bool (nE x d s f i),m):=λd s f i t m=>k55;have kW:∀t m,cd An FF 39 (some t) 56 [.int .i64 x.imm,.int .i64 1,.int .i64 5] m=some (.bool (inB x.imm 1 5),m):=λt m=>k56;have hins:insR x=if A=true then La x (hi x.op) (decide (cls x.op=7))
   else if J=true then nE x 10 (rgB x) true (!(rgB x))
   else if x.op=5 then nE x 0 false true false
   else if x.op=133 then nE x 0 false false true&&inB x.imm 1 5
   else if x.op=149 then nE x 0 false false false
   else if x.op=24 then tl x
   else if szO x.op=0 then false
   else if lY .and .i64 x.op 7=1 then nE x 9 true true false
   else if lY .and .i64 x.op 7=2 then nE x 10 false true true
   else nE x 10 true true false:=by rw[hA,hJ];rfl
 clear hJ hA
 cases A with
 |true=>
  rw[hins,if_pos rfl,←hAt rfl];refine aL rfl Try.func39 s39 (Nat.le_of_ble_eq_true rfl) (λQ hqr hqn=>?_);rw[bf (show An.pure 39=true from rfl) (by simp only[cans,aG,az,aC,aH,aC,inE.can])];simp only[aO,Nat.reduceAdd,c39]
  repeat' (first
  |with_reducible (first|refine bc rfl ?_|refine aF ?_|refine aj (id:=0) (λQ0 hn0 hx0 hr0 ho0=>?_)|refine hr0 _ ?_)
  |(with_reducible (first|(refine ah (λK hK=>?_);(first|refine B1 ?_|refine B2 ?_|refine B3 ?_|refine Cd ?_|refine t39r4 ?_))|refine hqr _ ?_);(try simp only[b9,if_true,if_false,Nat.reduceEqDiff,ap,aJ,dg,qO,qP,ba,ik,Nat.reduceAdd,Nat.zero_add,cb,List.drop_zero,eX,kM,cw,List.getElem?_cons_zero,List.getElem?_cons_succ,Option.map_some,dT,List.take_zero,List.take_succ_cons,List.length_cons,List.length_nil,Nat.le_refl,gi,if_false,if_true,r39,aQ,ak,aD,Option.bind_some,am,jx,aV,inC,kA,kJ,kL]))
  |(revert hK;intro hK;(with_reducible refine hK _ ?_;clear hK K)))
 |false=>
  rw[hins,if_neg (by decide)];clear hins
  cases J with
  |true=>
   rw[if_pos rfl]
   by_cases r0:lY .and .i64 x.op 8=0
   ·rw[show rgB x=false by rw[rgB,decide_eq_false (λh=>h r0)]]
    refine aL rfl Try.func39 s39 (Nat.le_of_ble_eq_true rfl) (λQ hqr hqn=>?_);rw[bf (show An.pure 39=true from rfl) (by simp only[cans,aG,az,aC,aH,aC,inE.can])];simp only[aO,Nat.reduceAdd,c39]
    repeat' (first
    |with_reducible (first|refine bc rfl ?_|refine d7 rfl ?_|refine aF ?_|refine aj (id:=0) (λQ0 hn0 hx0 hr0 ho0=>?_)|refine hr0 _ ?_)
    |(with_reducible (first|(refine ah (λK hK=>?_);(first|refine B1 ?_|refine B2 ?_|refine B3 ?_|refine Cd ?_|refine Kt ?_|refine t39r6 ?_))|refine hqr _ ?_);(try simp only[true_implies,false_implies,not_true_eq_false,b9,if_true,if_false,Nat.reduceEqDiff,ap,aJ,dg,qO,qP,ba,ik,Nat.reduceAdd,Nat.zero_add,cb,List.drop_zero,eX,kM,cw,List.getElem?_cons_zero,List.getElem?_cons_succ,gT,br,Option.map_some,Bool.not_false,uR,dT,List.take_zero,List.take_succ_cons,List.length_cons,List.length_nil,and_true,Nat.le_refl,gi,if_false,if_true,r39,aQ,ak,aD,Option.bind_some,am,jx,aV,inC,kA,kJ,kF,r0,ne_eq,eq_self]))
    |(revert hK;intro hK;(with_reducible refine hK _ ?_;clear hK K)))
    all_goals first|rfl|simp_all
   ·rw[show rgB x=true by rw[rgB,decide_eq_true r0]]
    refine aL rfl Try.func39 s39 (Nat.le_of_ble_eq_true rfl) (λQ hqr hqn=>?_);rw[bf (show An.pure 39=true from rfl) (by simp only[cans,aG,az,aC,aH,aC,inE.can])];simp only[aO,Nat.reduceAdd,c39]
    repeat' (first
    |with_reducible (first|refine bc rfl ?_|refine d7 rfl ?_|refine aF ?_|refine aj (id:=0) (λQ0 hn0 hx0 hr0 ho0=>?_)|refine hr0 _ ?_)
    |(with_reducible (first|(refine ah (λK hK=>?_);(first|refine B1 ?_|refine B2 ?_|refine B3 ?_|refine Cd ?_|refine Kt ?_|refine t39r6 ?_))|refine hqr _ ?_);(try simp only[true_implies,false_implies,not_false_eq_true,b9,if_true,if_false,Nat.reduceEqDiff,ap,aJ,dg,qO,qP,ba,ik,Nat.reduceAdd,Nat.zero_add,cb,List.drop_zero,eX,kM,cw,List.getElem?_cons_zero,List.getElem?_cons_succ,gT,br,Option.map_some,Bool.not_true,uR,dT,List.take_zero,List.take_succ_cons,List.length_cons,List.length_nil,true_and,Nat.le_refl,gi,if_false,if_true,r39,aQ,ak,aD,Option.bind_some,am,jx,aV,inC,kA,kJ,kF,r0,ne_eq]))
    |(revert hK;intro hK;(with_reducible refine hK _ ?_;clear hK K)))
    all_goals first|rfl|simp_all
  |false=>
   rw[if_neg (by decide)]
   by_cases h5:x.op=5
   ·rw[if_pos h5]
    rw[h5] at kA kJ kF kT;refine aL rfl Try.func39 s39 (Nat.le_of_ble_eq_true rfl) (λQ hqr hqn=>?_);rw[bf (show An.pure 39=true from rfl) (by simp only[cans,aG,az,aC,aH,aC,inE.can])];simp only[aO,Nat.reduceAdd,c39]
    repeat' (first
    |with_reducible (first|refine bc rfl ?_|refine d7 rfl ?_|refine aF ?_|refine aj (id:=0) (λQ0 hn0 hx0 hr0 ho0=>?_)|refine hr0 _ ?_)
    |(with_reducible (first|(refine ah (λK hK=>?_);(first|refine B1 ?_|refine B2 ?_|refine B3 ?_|refine Cd ?_|refine Kt ?_|refine K4 ?_|refine t39r8 ?_))|refine hqr _ ?_);(try simp only[true_implies,false_implies,not_true_eq_false,b9,if_true,if_false,Nat.reduceEqDiff,ap,aJ,dg,qO,qP,ba,ik,Nat.reduceAdd,Nat.zero_add,cb,List.drop_zero,eX,kM,cw,List.getElem?_cons_zero,List.getElem?_cons_succ,gT,Option.map_some,dT,List.take_zero,List.take_succ_cons,List.length_cons,List.length_nil,and_true,Nat.le_refl,gi,if_false,if_true,r39,aQ,ak,aD,Option.bind_some,am,jx,aV,inC,kA,kJ,kF,ne_eq,h5]))
    |(revert hK;intro hK;(with_reducible refine hK _ ?_;clear hK K)))
    all_goals first|rfl|simp_all
   rw[if_neg h5]
   by_cases h133:x.op=133
   ·rw[if_pos h133]
    rw[h133] at kA kJ kF kT
    cases hz:nE x 0 false false true with
    |false=>
     refine aL rfl Try.func39 s39 (Nat.le_of_ble_eq_true rfl) (λQ hqr hqn=>?_);rw[bf (show An.pure 39=true from rfl) (by simp only[cans,aG,az,aC,aH,aC,inE.can])];simp only[aO,Nat.reduceAdd,c39]
     repeat' (first
     |with_reducible (first|refine bc rfl ?_|refine d7 rfl ?_|refine aF ?_|refine aj (id:=0) (λQ0 hn0 hx0 hr0 ho0=>?_)|refine hr0 _ ?_)
     |(with_reducible (first|(refine ah (λK hK=>?_);(first|refine B1 ?_|refine B2 ?_|refine B3 ?_|refine Cd ?_|refine Kt ?_|refine K4 ?_|refine Lu ?_|refine QM ?_))|refine hqr _ ?_);(try simp only[true_implies,false_implies,not_true_eq_false,b9,if_true,if_false,Nat.reduceEqDiff,ap,aJ,dg,qO,qP,ba,ik,Nat.reduceAdd,Nat.zero_add,cb,List.drop_zero,eX,kM,cw,List.getElem?_cons_zero,List.getElem?_cons_succ,gT,lw,Option.map_some,gf,dT,List.take_zero,List.take_succ_cons,List.length_cons,List.length_nil,and_true,Nat.le_refl,gi,if_false,if_true,r39,aQ,ak,aD,Option.bind_some,am,jx,aV,Prod.mk.injEq,CV.bool.injEq,inC,kA,kJ,kF,ne_eq,h133,hz]))
     |(revert hK;intro hK;(first|refine And.intro ?_ ?_|intro _|omega|(with_reducible refine hK _ ?_;clear hK K))))
     all_goals first|rfl|simp_all
    |true=>
     refine aL rfl Try.func39 s39 (Nat.le_of_ble_eq_true rfl) (λQ hqr hqn=>?_);rw[bf (show An.pure 39=true from rfl) (by simp only[cans,aG,az,aC,aH,aC,inE.can])];simp only[aO,Nat.reduceAdd,c39]
     repeat' (first
     |with_reducible (first|refine bc rfl ?_|refine d7 rfl ?_|refine aF ?_|refine aj (id:=0) (λQ0 hn0 hx0 hr0 ho0=>?_)|refine hr0 _ ?_)
     |(with_reducible (first|(refine ah (λK hK=>?_);(first|refine B1 ?_|refine B2 ?_|refine B3 ?_|refine Cd ?_|refine Kt ?_|refine K4 ?_|refine Lu ?_|refine QM ?_))|refine hqr _ ?_);(try simp only[true_implies,false_implies,not_true_eq_false,b9,if_true,if_false,Nat.reduceEqDiff,ap,aJ,dg,qO,qP,ba,ik,Nat.reduceAdd,Nat.zero_add,cb,List.drop_zero,eX,kM,cw,List.getElem?_cons_zero,List.getElem?_cons_succ,gT,nL,Option.map_some,ic,dU,dT,List.take_zero,List.take_succ_cons,List.length_cons,List.length_nil,and_true,Nat.le_refl,gi,Bool.true_and,if_false,if_true,r39,aQ,ak,aD,Option.bind_some,am,jx,aV,inC,kA,kJ,kF,ne_eq,h133,hz,kW]))
     |(revert hK;intro hK;(first|refine And.intro ?_ ?_|intro _|omega|(with_reducible refine hK _ ?_;clear hK K))))
     all_goals first|rfl|simp_all
   rw[if_neg h133]
   by_cases h149:x.op=149
   ·rw[if_pos h149]
    rw[h149] at kA kJ kF kT;refine aL rfl Try.func39 s39 (Nat.le_of_ble_eq_true rfl) (λQ hqr hqn=>?_);rw[bf (show An.pure 39=true from rfl) (by simp only[cans,aG,az,aC,aH,aC,inE.can])];simp only[aO,Nat.reduceAdd,c39]
    repeat' (first
    |with_reducible (first|refine bc rfl ?_|refine d7 rfl ?_|refine aF ?_|refine aj (id:=0) (λQ0 hn0 hx0 hr0 ho0=>?_)|refine hr0 _ ?_)
    |(with_reducible (first|(refine ah (λK hK=>?_);(first|refine B1 ?_|refine B2 ?_|refine B3 ?_|refine Cd ?_|refine Kt ?_|refine K4 ?_|refine Lu ?_|refine Lj ?_|refine t39r12 ?_))|refine hqr _ ?_);(try simp only[true_implies,false_implies,not_true_eq_false,b9,if_true,if_false,Nat.reduceEqDiff,ap,aJ,dg,qO,qP,ba,ik,Nat.reduceAdd,Nat.zero_add,cb,List.drop_zero,eX,kM,cw,List.getElem?_cons_zero,List.getElem?_cons_succ,gT,Option.map_some,dT,List.take_zero,List.take_succ_cons,List.length_cons,List.length_nil,and_true,Nat.le_refl,gi,if_false,if_true,r39,aQ,ak,aD,Option.bind_some,am,jx,aV,inC,kA,kJ,kF,ne_eq,h149]))
    |(revert hK;intro hK;(first|refine And.intro ?_ ?_|intro _|omega|(with_reducible refine hK _ ?_;clear hK K))))
    all_goals first|rfl|simp_all
   rw[if_neg h149]
   by_cases h24:x.op=24
   ·rw[if_pos h24]
    rw[h24] at kA kJ kF kT;refine aL rfl Try.func39 s39 (Nat.le_of_ble_eq_true rfl) (λQ hqr hqn=>?_);rw[bf (show An.pure 39=true from rfl) (by simp only[cans,aG,az,aC,aH,aC,inE.can])];simp only[aO,Nat.reduceAdd,c39]
    repeat' (first
    |with_reducible (first|refine bc rfl ?_|refine d7 rfl ?_|refine aF ?_|refine aj (id:=0) (λQ0 hn0 hx0 hr0 ho0=>?_)|refine hr0 _ ?_)
    |(with_reducible (first|(refine ah (λK hK=>?_);(first|refine B1 ?_|refine B2 ?_|refine B3 ?_|refine Cd ?_|refine Kt ?_|refine K4 ?_|refine Lu ?_|refine Lj ?_|refine LZ ?_|refine t39r14 ?_))|refine hqr _ ?_);(try simp only[true_implies,false_implies,not_true_eq_false,b9,if_true,if_false,Nat.reduceEqDiff,ap,aJ,dg,qO,qP,ba,ik,Nat.reduceAdd,Nat.zero_add,cb,List.drop_zero,eX,kM,cw,List.getElem?_cons_zero,List.getElem?_cons_succ,gT,Option.map_some,dT,List.take_zero,List.take_succ_cons,List.length_cons,List.length_nil,and_true,Nat.le_refl,gi,if_false,if_true,r39,aQ,ak,aD,Option.bind_some,am,jx,aV,inC,kA,kJ,kF,ne_eq,h24,kT]))
    |(revert hK;intro hK;(first|refine And.intro ?_ ?_|intro _|omega|(with_reducible refine hK _ ?_;clear hK K))))
    all_goals first|rfl|simp_all
   rw[if_neg h24]
   by_cases hs:szO x.op=0
   ·rw[if_pos hs]
    refine aL rfl Try.func39 s39 (Nat.le_of_ble_eq_true rfl) (λQ hqr hqn=>?_);rw[bf (show An.pure 39=true from rfl) (by simp only[cans,aG,az,aC,aH,aC,inE.can])];simp only[aO,Nat.reduceAdd,c39]
    repeat' (first
    |with_reducible (first|refine bc rfl ?_|refine d7 rfl ?_|refine aF ?_|refine aj (id:=0) (λQ0 hn0 hx0 hr0 ho0=>?_)|refine hr0 _ ?_)
    |(with_reducible (first|(refine ah (λK hK=>?_);(first|refine B1 ?_|refine B2 ?_|refine B3 ?_|refine Cd ?_|refine Kt ?_|refine K4 ?_|refine Lu ?_|refine Lj ?_|refine LZ ?_|refine MB ?_|refine t39r16 ?_))|refine hqr _ ?_);(try simp only[true_implies,false_implies,not_true_eq_false,not_false_eq_true,b9,if_true,if_false,Nat.reduceEqDiff,ap,aJ,dg,qO,qP,ba,ik,Nat.zero_add,cb,eX,cw,List.getElem?_cons_zero,List.getElem?_cons_succ,gT,Option.map_some,dT,and_true,true_and,if_false,if_true,r39,aQ,ak,aD,Option.bind_some,am,jx,aV,inC,kA,kJ,kF,ne_eq,h5,h133,h149,h24,kS,hs]))
    |(revert hK;intro hK;(with_reducible refine hK _ ?_;clear hK K)))
    all_goals first|rfl|simp_all
   rw[if_neg hs]
   by_cases c1:lY .and .i64 x.op 7=1
   ·rw[if_pos c1]
    refine aL rfl Try.func39 s39 (Nat.le_of_ble_eq_true rfl) (λQ hqr hqn=>?_);rw[bf (show An.pure 39=true from rfl) (by simp only[cans,aG,az,aC,aH,aC,inE.can])];simp only[aO,Nat.reduceAdd,c39]
    repeat' (first
    |with_reducible (first|refine bc rfl ?_|refine d7 rfl ?_|refine aF ?_|refine aj (id:=0) (λQ0 hn0 hx0 hr0 ho0=>?_)|refine hr0 _ ?_)
    |(with_reducible (first|(refine ah (λK hK=>?_);(first|refine B1 ?_|refine B2 ?_|refine B3 ?_|refine Cd ?_|refine Kt ?_|refine K4 ?_|refine Lu ?_|refine Lj ?_|refine LZ ?_|refine MB ?_|refine NB ?_|refine t39r18 ?_))|refine hqr _ ?_);(try simp only[true_implies,false_implies,not_true_eq_false,not_false_eq_true,b9,if_true,if_false,Nat.reduceEqDiff,ap,aJ,dg,qO,qP,ba,ik,Nat.reduceAdd,Nat.zero_add,cb,List.drop_zero,eX,kM,cw,List.getElem?_cons_zero,List.getElem?_cons_succ,gT,Option.map_some,uR,dT,List.take_zero,List.take_succ_cons,List.length_cons,List.length_nil,and_true,true_and,Nat.le_refl,gi,if_false,if_true,r39,aQ,ak,aD,Option.bind_some,am,jx,aV,inC,kA,kJ,kF,ne_eq,h5,h133,h149,h24,kS,hs,c1]))
    |(revert hK;intro hK;(with_reducible refine hK _ ?_;clear hK K)))
    all_goals first|rfl|simp_all
   rw[if_neg c1]
   by_cases c2:lY .and .i64 x.op 7=2
   ·rw[if_pos c2]
    refine aL rfl Try.func39 s39 (Nat.le_of_ble_eq_true rfl) (λQ hqr hqn=>?_);rw[bf (show An.pure 39=true from rfl) (by simp only[cans,aG,az,aC,aH,aC,inE.can])];simp only[aO,Nat.reduceAdd,c39]
    repeat' (first
    |with_reducible (first|refine bc rfl ?_|refine d7 rfl ?_|refine aF ?_|refine aj (id:=0) (λQ0 hn0 hx0 hr0 ho0=>?_)|refine hr0 _ ?_)
    |(with_reducible (first|(refine ah (λK hK=>?_);(first|refine B1 ?_|refine B2 ?_|refine B3 ?_|refine Cd ?_|refine Kt ?_|refine K4 ?_|refine Lu ?_|refine Lj ?_|refine LZ ?_|refine MB ?_|refine NB ?_|refine QN ?_|refine t39r20 ?_))|refine hqr _ ?_);(try simp only[true_implies,false_implies,not_true_eq_false,not_false_eq_true,b9,if_true,if_false,Nat.reduceEqDiff,ap,aJ,dg,qO,qP,ba,ik,Nat.reduceAdd,Nat.zero_add,cb,List.drop_zero,eX,kM,cw,List.getElem?_cons_zero,List.getElem?_cons_succ,gT,Option.map_some,uR,dT,List.take_zero,List.take_succ_cons,List.length_cons,List.length_nil,and_true,true_and,Nat.le_refl,gi,if_false,if_true,r39,aQ,ak,aD,Option.bind_some,am,jx,aV,inC,kA,kJ,kF,ne_eq,h5,h133,h149,h24,kS,hs,c1,c2]))
    |(revert hK;intro hK;(first|refine And.intro ?_ ?_|intro _|omega|(with_reducible refine hK _ ?_;clear hK K))))
    all_goals first|rfl|simp_all
   rw[if_neg c2];refine aL rfl Try.func39 s39 (Nat.le_of_ble_eq_true rfl) (λQ hqr hqn=>?_);rw[bf (show An.pure 39=true from rfl) (by simp only[cans,aG,az,aC,aH,aC,inE.can])];simp only[aO,Nat.reduceAdd,c39]
   repeat' (first
   |with_reducible (first|refine d7 rfl ?_|refine aF ?_|refine bx ?_|refine aj (id:=0) (λQ0 hn0 hx0 hr0 ho0=>?_)|refine hn0 _ ?_)
   |(with_reducible (first|(refine ah (λK hK=>?_);(first|refine B1 ?_|refine B2 ?_|refine B3 ?_|refine Cd ?_|refine Kt ?_|refine K4 ?_|refine Lu ?_|refine Lj ?_|refine LZ ?_|refine MB ?_|refine NB ?_|refine QN ?_|refine t39r21 ?_))|refine hqr _ ?_);(try simp only[true_implies,false_implies,not_false_eq_true,b9,if_true,if_false,Nat.reduceEqDiff,ap,aJ,dg,qO,qP,ba,ik,Nat.reduceAdd,Nat.zero_add,cb,List.drop_zero,eX,kM,cw,List.getElem?_cons_zero,List.getElem?_cons_succ,gT,Option.map_some,uR,dT,List.take_zero,List.take_succ_cons,List.length_cons,List.length_nil,true_and,Nat.le_refl,gi,if_false,if_true,r39,aQ,ak,aD,Option.bind_some,am,jx,aV,inC,kA,kJ,kF,ne_eq,h5,h133,h149,h24,kS,hs,c1,c2]))
   |(revert hK;intro hK;(with_reducible refine hK _ ?_;clear hK K)))
   all_goals first|rfl|simp_all
end Go.Cm
namespace Go.Cm
open Go.Proofs Go.Fl
theorem aB_24:aB 24=false:=by decide +kernel
theorem jB_24:jB 24=false:=by decide +kernel
theorem jB_cls {op:Int}(h:jB op=true):cls op=5∨cls op=6:=by
 simp only[jB,Bool.and_eq_true,Bool.or_eq_true,decide_eq_true_eq] at h;exact h.1
theorem aB_hi {op:Int}(h:aB op=true):¬(hi op=128∧0<rb op):=by
 simp only[aB,Bool.and_eq_true,Bool.or_eq_true,decide_eq_true_eq,Bool.not_eq_true',Bool.and_eq_false_iff,decide_eq_false_iff_not] at h;omega
theorem szO_cls {op:Int}(h:¬szO op=0):cls op=1∨cls op=2∨cls op=3:=by
 unfold szO at h
 split at h
 ·assumption
 ·exact absurd rfl h
theorem LK {op:Int}(h:aB op=true∨jB op=true∨¬szO op=0):¬(op<0∨255<op):=λh2=>by
 obtain⟨h3,h4,h5⟩:=Np h2;rcases h with h|h|h
 ·rw[h3] at h;cases h
 ·rw[h4] at h;cases h
 ·exact h h5
theorem cls5:cls 5=5:=by decide +kernel
theorem cls133:cls 133=5:=by decide +kernel
theorem cls149:cls 149=5:=by decide +kernel
theorem P4 {n:Int}(h:-2147483648≤n∧n≤2147483647):loU n=n % 4294967296:=by
 have e:(BitVec.ofInt 64 (IntKind.u64.wrap n) &&& BitVec.ofInt 64 4294967295).toNat=(n % 4294967296).toNat:=by
  rw[BitVec.toNat_and,BitVec.toNat_ofInt,BitVec.toNat_ofInt];have h1:(IntKind.u64.wrap n)=n % 18446744073709551616:=by simp[IntKind.wrap,IntKind.bits,IntKind.signed]
  rw[h1,show(((4294967295:Int) % ((2 ^ 64:Nat):Int)).toNat)=2 ^ 32 - 1 from rfl,Nat.and_two_pow_sub_one_eq_mod];omega
 show IntKind.u64.wrap ((BitVec.ofInt IntKind.u64.bits (IntKind.u64.wrap n) &&& BitVec.ofInt IntKind.u64.bits 4294967295).toNat:Int)=_;have e2:(BitVec.ofInt IntKind.u64.bits (IntKind.u64.wrap n) &&& BitVec.ofInt IntKind.u64.bits 4294967295).toNat=(n % 4294967296).toNat:=e;rw[e2];rw[IntWalk.u64_in _ (by omega)];omega
theorem tP {x:In}{d:Int}:KB x d=true↔((0≤x.dst∧x.dst≤d)∧(0≤x.src∧x.src≤10)∧(-32768≤x.off∧x.off≤32767)∧(-2147483648≤x.imm∧x.imm≤2147483647)):=by
 simp only[KB,inB,Bool.and_eq_true,decide_eq_true_eq]
theorem pu {x:In}{d:Int}{s f i:Bool}:nE x d s f i=true↔(KB x d=true∧(s=true∨x.src=0)∧(f=true∨x.off=0)∧(i=true∨x.imm=0)∧x.wide=0):=by
 simp only[nE,Bool.and_eq_true,Bool.or_eq_true,decide_eq_true_eq]
theorem zB3 {a b c:Int}:zB [a,b,c]=true↔a=0∧b=0∧c=0:=by simp[zB]
theorem zB4 {a b c d:Int}:zB [a,b,c,d]=true↔a=0∧b=0∧c=0∧d=0:=by simp[zB]
theorem two_eq {x:In}(hw:Inw x):tl x=(if KB x 9=false then false else qu x):=by
 obtain⟨w1,w2⟩:=hw;rw[Bool.eq_iff_iff];have hL:tl x=true↔((0≤x.dst∧x.dst≤9)∧x.off=0∧(-2147483648≤x.imm∧x.imm≤2147483647)∧((x.src=1∧(0≤x.imm∧x.imm≤7)∧x.wide=IntKind.u64.wrap x.imm)∨(x.src≠1∧x.src=0∧loU x.imm=x.wide.tmod 4294967296))):=by
  unfold tl;simp only[inB,Bool.and_eq_true,decide_eq_true_eq]
  by_cases h:x.src=1
  ·simp[h]
  ·simp[h]
 have hR:(if KB x 9=false then false else qu x)=true↔(KB x 9=true∧x.off=0∧IntKind.u32.wrap x.wide=IntKind.u32.wrap x.imm∧((x.src=1∧(0≤x.imm∧x.imm≤7)∧hiW x.wide=0)∨(x.src≠1∧x.src=0))):=by
  cases hF:KB x 9 with
  |false=>simp
  |true=>
   unfold qu
   by_cases h0:x.off=0
   ·by_cases h1:IntKind.u32.wrap x.wide=IntKind.u32.wrap x.imm
    ·by_cases h:x.src=1
     ·simp[h0,h1,h,inB]
     ·simp[h0,h1,h]
    ·simp[h1]
   ·simp[h0]
 rw[hL,hR,tP];have e1:IntKind.u32.wrap x.wide=x.wide % 4294967296:=by simp[IntKind.wrap,IntKind.bits,IntKind.signed]
 have e2:IntKind.u32.wrap x.imm=x.imm % 4294967296:=by simp[IntKind.wrap,IntKind.bits,IntKind.signed]
 have e3:IntKind.u64.wrap x.imm=x.imm % 18446744073709551616:=by simp[IntKind.wrap,IntKind.bits,IntKind.signed]
 have e4:x.wide.tmod 4294967296=x.wide % 4294967296:=Int.tmod_eq_emod_of_nonneg w1;have e5:hiW x.wide=x.wide / 4294967296:=by
  unfold hiW;rw[Int.fdiv_eq_ediv_of_nonneg _ (by decide)];rfl
 rw[e1,e2,e3,e4,e5];constructor
 ·rintro⟨h1,h2,h3,h4⟩
  rcases h4 with⟨h4,h5,h6⟩|⟨h4,h5,h6⟩
  ·exact⟨⟨h1,by omega,by omega,h3⟩,h2,by omega,.inl ⟨h4,h5,by omega⟩⟩
  ·rw[P4 h3] at h6
   exact⟨⟨h1,by omega,by omega,h3⟩,h2,h6.symm,.inr ⟨h4,h5⟩⟩
 ·rintro⟨⟨h1,h2,h3,h4⟩,h5,h6,h7⟩
  refine⟨h1,h5,h4,?_⟩
  rcases h7 with⟨h7,h8,h9⟩|⟨h7,h8⟩
  ·exact .inl ⟨h7,h8,by omega⟩
  ·exact .inr ⟨h7,h8,by rw[P4 h4];exact h6.symm⟩
end Go.Cm
namespace Go.Cm
open Go.Proofs Go.Fl
theorem KX {b:Bool}{X:Bool}{P:Prop} [Decidable P]:(if b=false∨P then false else X)=true↔b=true∧¬P∧X=true:=by
 cases b<;>by_cases h:P<;>simp[h]
theorem MG {x:In}(h:¬(x.op<0∨255<x.op)):(rgB x=false∧¬0<rb x.op)∨(rgB x=true∧0<rb x.op):=by
 obtain⟨_,_,_,h4⟩:=Qa h;have e:rgB x=decide (rb x.op≠0):=rfl;rcases h4 with h4|h4
 ·left;rw[e,h4];exact⟨rfl,by decide⟩
 ·right;rw[e,h4];exact⟨rfl,by decide⟩
theorem insR_eq {x:In}(hw:Inw x):insR x=ga x:=by
 have hdst:Hs x=if aB x.op=true∨cls x.op=1∨x.op=24 then 9 else 10:=rfl
 unfold insR ga
 by_cases hA:aB x.op=true
 ·have hr:=LK (.inl hA)
  have hne:x.op≠24:=λe=>by rw[e,aB_24] at hA;cases hA
  rw[if_pos hA,if_pos hA,show Hs x=9 from by rw[hdst];exact if_pos (.inl hA),Bool.eq_iff_iff,KX];have h8:=aB_hi hA;obtain⟨w,hw'⟩:∃w,w=decide (cls x.op=7):=⟨_,rfl⟩;rw[←hw'];generalize hi x.op=o at h8 ⊢;have hiu:inB x.imm 0 31=true↔(0≤x.imm∧x.imm≤31):=by simp[inB]
  have hiu2:inB x.imm 0 63=true↔(0≤x.imm∧x.imm≤63):=by simp[inB]
  have hR:Hp x o w=true↔(tQ x=true∧x.off=0∧((o=128∧x.imm=0)∨(o≠128∧(o=96∨o=112∨o=192)∧((w=true∧x.imm≤63∧0≤x.imm)∨(0≤x.imm∧x.imm≤31)))∨(o≠128∧¬(o=96∨o=112∨o=192)))):=by
   unfold Hp;rw[KX]
   by_cases a1:o=128
   ·rw[if_pos a1];simp[a1]
   ·rw[if_neg a1]
    by_cases a2:o=96∨o=112∨o=192
    ·rw[if_pos a2]
     simp only[Bool.or_eq_true,Bool.and_eq_true,decide_eq_true_eq,hiu];simp[a1,a2]
    ·rw[if_neg a2];simp[a1,a2]
  have hL:La x o w=true↔(nE x 9 (rgB x) false (!(rgB x)&&decide (o≠128))=true∧(rgB x=true∨¬(o=96∨o=112∨o=192)∨(w=true∧0≤x.imm∧x.imm≤63)∨(w=false∧0≤x.imm∧x.imm≤31))):=by
   unfold La;rw[Bool.and_eq_true,Bool.or_eq_true,Bool.or_eq_true]
   cases w with
   |true=>simp only[if_true,hiu2,Bool.and_eq_true,decide_eq_true_eq];simp
   |false=>simp only[Bool.false_eq_true,if_false,hiu,Bool.and_eq_true,decide_eq_true_eq];simp
  rw[hL,hR,pu];rcases MG hr with⟨r1,r2⟩|⟨r1,r2⟩
  ·have ho:tQ x=decide (x.src=0):=by rw[tQ,if_neg r2]
   rw[r1,ho]
   by_cases o1:o=128
   ·subst o1;simp[hne];omega
   ·cases hF:KB x 9 with
    |false=>simp
    |true=>cases w<;>simp[hne,o1]<;>omega
  ·have ho:tQ x=decide (x.imm=0):=by rw[tQ,if_pos r2]
   have o1:o≠128:=λe=>h8 ⟨e,r2⟩;rw[r1,ho];simp[hne,o1]
   cases w<;>simp<;>omega
 rw[if_neg hA,if_neg hA]
 by_cases hJ:jB x.op=true
 ·have hr:=LK (.inr (.inl hJ))
  have hne:x.op≠24:=λe=>by rw[e,jB_24] at hJ;cases hJ
  have hc:=jB_cls hJ;rw[if_pos hJ,if_pos hJ,show Hs x=10 from by rw[hdst];exact if_neg (by rintro(h|h|h);exact hA h;omega;exact hne h),Bool.eq_iff_iff,KX,pu];rcases MG hr with⟨r1,r2⟩|⟨r1,r2⟩
  ·have ho:tQ x=decide (x.src=0):=by rw[tQ,if_neg r2]
   rw[r1,ho];simp[hne];omega
  ·have ho:tQ x=decide (x.imm=0):=by rw[tQ,if_pos r2]
   rw[r1,ho];simp[hne];omega
 rw[if_neg hJ,if_neg hJ]
 by_cases h5:x.op=5
 ·rw[if_pos h5,if_pos h5,show Hs x=10 from by rw[hdst];exact if_neg (by rintro(h|h|h);exact hA h;rw[h5,cls5] at h;omega;omega),Bool.eq_iff_iff,KX,pu,tP,tP]
  rw[show([x.dst,x.src,x.imm].all λn=>decide (n=0))=zB [x.dst,x.src,x.imm] from rfl,zB3];simp[h5];omega
 rw[if_neg h5,if_neg h5]
 by_cases h133:x.op=133
 ·rw[if_pos h133,if_pos h133,show Hs x=10 from by rw[hdst];exact if_neg (by rintro(h|h|h);exact hA h;rw[h133,cls133] at h;omega;omega),Bool.eq_iff_iff,KX,Bool.and_eq_true,Bool.and_eq_true,pu,tP,tP]
  rw[show([x.dst,x.src,x.off].all λn=>decide (n=0))=zB [x.dst,x.src,x.off] from rfl,zB3];simp[h133,inB];omega
 rw[if_neg h133,if_neg h133]
 by_cases h149:x.op=149
 ·rw[if_pos h149,if_pos h149,show Hs x=10 from by rw[hdst];exact if_neg (by rintro(h|h|h);exact hA h;rw[h149,cls149] at h;omega;omega),Bool.eq_iff_iff,KX,pu,tP,tP]
  rw[show([x.dst,x.src,x.off,x.imm].all λn=>decide (n=0))=zB [x.dst,x.src,x.off,x.imm] from rfl,zB4];simp[h149];omega
 rw[if_neg h149,if_neg h149]
 by_cases h24:x.op=24
 ·rw[if_pos h24,if_pos h24,show Hs x=9 from by rw[hdst];exact if_pos (.inr (.inr h24)),two_eq hw]
  cases hF:KB x 9<;>simp[h24]
 rw[if_neg h24,if_neg h24]
 by_cases hs:szO x.op=0
 ·rw[if_pos hs,if_pos hs];simp
 rw[if_neg hs,if_neg hs];have hr:=LK (.inr (.inr hs));obtain⟨_,_,e3,_⟩:=Qa hr;have hc:=szO_cls hs;rw[e3]
 by_cases c1:cls x.op=1
 ·rw[if_pos c1,show Hs x=9 from by rw[hdst];exact if_pos (.inr (.inl c1)),if_neg (show ¬cls x.op=2 by omega),Bool.eq_iff_iff,KX,pu]
  simp[h24];omega
 rw[if_neg c1,show Hs x=10 from by rw[hdst];exact if_neg (by rintro(h|h|h);exact hA h;exact c1 h;exact h24 h)]
 by_cases c2:cls x.op=2
 ·rw[if_pos c2,if_pos c2,Bool.eq_iff_iff,KX,pu]
  simp[h24];omega
 ·rw[if_neg c2,if_neg c2,Bool.eq_iff_iff,KX,pu]
  simp[h24];omega
end Go.Cm
