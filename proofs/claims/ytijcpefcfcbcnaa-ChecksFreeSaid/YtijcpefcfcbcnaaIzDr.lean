import Derived.Test.YtijcpefcfcbcnaaIzD
import Derived.Test.YtijcpefcfcbcnaaIyE
set_option linter.unusedSimpArgs false
set_option linter.unusedVariables false
namespace Go.Cm
open Go.Proofs Go.Ir
theorem x29 (e:Tm):FF 29 [.agg (tmC e)] []=some (eA aX 1 (jC e),[]):=by
 refine aL rfl Try.func29 s29 (Nat.le_of_ble_eq_true rfl) (fun Q hqr hqn=>?_)
 rw[bf (show An.pure 29=true from rfl) (by simp only[cans,aG,az,aC,aH,tmE.can])]
 simp only[aO,Nat.reduceAdd,c29]
 repeat' (first
 |with_reducible (first|refine ai ?_|refine bc rfl ?_|refine bn rfl ?_|refine aF ?_|refine bx ?_|refine aj (id:=0) (fun Q0 hn0 hx0 hr0 ho0=>?_)|refine hn0 _ ?_|refine hr0 _ ?_)
 |(with_reducible (first|(refine ah (fun K hK=>?_);(first|refine t29r0 ?_|refine t29r1 ?_|refine t29r2 ?_|refine t29r3 ?_|refine t29r4 ?_|refine t29r5 ?_|refine t29r6 ?_))|refine hqr _ ?_);(try simp only[SS,Nat.reduceEqDiff,ap,dj,ef,bv,aR,aS,Nat.reduceMul,Nat.reduceAdd,cD,bg,cd,bF,ay,Nat.reduceLeDiff,cz,List.all_cons,List.all_nil,Bool.and_self,r29,aQ,ak,aD,am,dq,bV,Nat.sub_self,eh,tmC]))
 |(revert hK;intro hK;(first|refine And.intro ?_ ?_|intro _|(with_reducible refine hK _ ?_;clear hK K))))
 all_goals simp_all [jC,eA,aX]
def lm (n:Nd):CV:=if n.op=7 then mC aX 1 n.args else eA aX 1 (eF n)
theorem x30 (n:Nd) (hl:n.args.length≤17592186044416):FF 30 [.agg (ndC n)] []=some (lm n,[]):=by
 by_cases h4:n.op=4
 ·refine aL rfl Try.func30 s30 (Nat.le_of_ble_eq_true rfl) (fun Q hqr hqn=>?_)
  rw[bf (show An.pure 30=true from rfl) (by simp only[cans,aG,az,aC,aH,ndE.can])]
  simp only[aO,Nat.reduceAdd,c30]
  repeat' (first
  |with_reducible (first|refine ai ?_|refine ar ?_|refine au rfl ?_|refine bc rfl ?_|refine aF ?_|refine aj (id:=0) (fun Q0 hn0 hx0 hr0 ho0=>?_)|refine hr0 _ ?_)
  |(with_reducible (first|(refine ah (fun K hK=>?_);(first|refine sP ?_|refine sQ ?_|refine sR ?_|refine t30r4 ?_))|refine hqr _ ?_);(try simp only[SS,Nat.reduceEqDiff,ap,dj,ef,bv,aR,aS,Nat.reduceMul,Nat.reduceAdd,cD,bg,cd,bF,ay,Nat.reduceLeDiff,cz,List.all_cons,List.all_nil,Bool.and_self,r30,aQ,ak,aD,am,dq,bV,Nat.sub_self,ndC,h4]))
  |(revert hK;intro hK;(with_reducible refine hK _ ?_;clear hK K)))
  all_goals simp[lm,eF,h4,eA,aX]
 by_cases h6:n.op=6
 ·refine aL rfl Try.func30 s30 (Nat.le_of_ble_eq_true rfl) (fun Q hqr hqn=>?_)
  rw[bf (show An.pure 30=true from rfl) (by simp only[cans,aG,az,aC,aH,ndE.can])]
  simp only[aO,Nat.reduceAdd,c30]
  repeat' (first
  |with_reducible (first|refine ai ?_|refine ax rfl ?_|refine bc rfl ?_|refine aF ?_|refine aj (id:=0) (fun Q0 hn0 hx0 hr0 ho0=>?_)|refine hr0 _ ?_)
  |(with_reducible (first|(refine ah (fun K hK=>?_);(first|refine sP ?_|refine sQ ?_|refine sR ?_|refine wq ?_|refine t30r4 ?_))|refine hqr _ ?_);(try simp only[SS,Nat.reduceEqDiff,ap,dj,ef,bv,aR,aS,Nat.reduceMul,Nat.reduceAdd,cD,bg,cd,bF,ay,Nat.reduceLeDiff,cz,List.all_cons,List.all_nil,Bool.and_self,r30,aQ,ak,aD,am,dq,bV,Nat.sub_self,ndC,h6]))
  |(revert hK;intro hK;(first|refine And.intro ?_ ?_|intro _|omega|(with_reducible refine hK _ ?_;clear hK K))))
  all_goals simp[lm,eF,h6,eA,aX]
 by_cases h5:n.op=5
 ·refine aL rfl Try.func30 s30 (Nat.le_of_ble_eq_true rfl) (fun Q hqr hqn=>?_)
  rw[bf (show An.pure 30=true from rfl) (by simp only[cans,aG,az,aC,aH,ndE.can])]
  simp only[aO,Nat.reduceAdd,c30]
  repeat' (first
  |with_reducible (first|refine ai ?_|refine ax rfl ?_|refine bc rfl ?_|refine bn rfl ?_|refine aF ?_|refine aj (id:=0) (fun Q0 hn0 hx0 hr0 ho0=>?_)|refine hr0 _ ?_)
  |(with_reducible (first|(refine ah (fun K hK=>?_);(first|refine sP ?_|refine sQ ?_|refine sR ?_|refine wq ?_|refine ES ?_|refine t30r6 ?_))|refine hqr _ ?_);(try simp only[SS,Nat.reduceEqDiff,ap,dj,ef,bv,aR,aS,Nat.reduceMul,cD,bg,cd,bF,ay,cz,List.all_cons,List.all_nil,Bool.and_self,r30,aQ,ak,aD,am,dq,bV,Nat.sub_self,ndC,h5]))
  |(revert hK;intro hK;(first|refine And.intro ?_ ?_|intro _|omega|(with_reducible refine hK _ ?_;clear hK K))))
  all_goals simp[lm,eF,h5,eA,aX]
 by_cases h7:n.op=7
 ·have hu:lm n=mC aX 1 n.args:=by rw[lm,if_pos h7]
  rw[hu]
  have hs':cN 8 n.args.length=true:=f0 (by omega) hl
  have hct:∀ m,content m 1 (sl aX n.args)=some (n.args.flatMap aX):=fun m=>by
   have hcl:(n.args.flatMap aX).length=n.args.length*1:=by rw[dL];omega
   simp only[sl,content,hcl,if_true]
  refine aL rfl Try.func30 s30 (Nat.le_of_ble_eq_true rfl) (fun Q hqr hqn=>?_)
  rw[bf (show An.pure 30=true from rfl) (by simp only[cans,aG,az,aC,aH,ndE.can])]
  simp only[aO,Nat.reduceAdd,c30]
  repeat' (first
  |with_reducible (first|refine ai ?_|refine ax rfl ?_|refine bc rfl ?_|refine bn rfl ?_|refine aF ?_|refine aj (id:=0) (fun Q0 hn0 hx0 hr0 ho0=>?_)|refine hr0 _ ?_)
  |(with_reducible (first|(refine ah (fun K hK=>?_);(first|refine sP ?_|refine sQ ?_|refine sR ?_|refine wq ?_|refine ES ?_|refine t30r7 ?_|refine t30r8 ?_))|refine hqr _ ?_);(try simp only[SS,Nat.reduceEqDiff,ap,dj,ef,bv,aR,aS,Nat.reduceMul,fP,ea,bg,cd,r30,aQ,ak,aD,am,dq,bV,Nat.sub_self,ndC,h7,ma,hct,aP,hs']))
  |(revert hK;intro hK;(first|refine And.intro ?_ ?_|intro _|omega|(with_reducible refine hK _ ?_;clear hK K))))
  all_goals (rw[List.take_of_length_le (by rw[dL];omega)];rfl)
 ·refine aL rfl Try.func30 s30 (Nat.le_of_ble_eq_true rfl) (fun Q hqr hqn=>?_)
  rw[bf (show An.pure 30=true from rfl) (by simp only[cans,aG,az,aC,aH,ndE.can])]
  simp only[aO,Nat.reduceAdd,c30]
  repeat' (first
  |with_reducible (first|refine ai ?_|refine ax rfl ?_|refine bn rfl ?_|refine aF ?_|refine bx ?_|refine aj (id:=0) (fun Q0 hn0 hx0 hr0 ho0=>?_)|refine hn0 _ ?_)
  |(with_reducible (first|(refine ah (fun K hK=>?_);(first|refine sP ?_|refine sQ ?_|refine sR ?_|refine wq ?_|refine ES ?_|refine t30r7 ?_|refine t30r9 ?_))|refine hqr _ ?_);(try simp only[SS,Nat.reduceEqDiff,ap,r30,aQ,ak,aD,am,eh,ndC,h4,h5,h6,h7]))
  |(revert hK;intro hK;(with_reducible refine hK _ ?_;clear hK K)))
  all_goals simp[lm,eF,h4,h5,h6,h7,eA]
theorem x44 (a b:List Int) (hal:a.length≤17592186044416):FF 44 [sl aX a,sl aX b] []=some (.bool (decide (a=b)),[]):=by
 have ha:RdI [] (sl aX a) a:=.inl rfl
 have hb:RdI [] (sl aX b) b:=.inl rfl
 have ca:=intE.can_sl a
 have cb:=intE.can_sl b
 generalize sl aX a=va at ha ca
 generalize sl aX b=vb at hb cb
 refine aL rfl Try.func44 s44 (Nat.le_of_ble_eq_true rfl) (fun Q hqr hqn=>?_)
 rw[bf (show An.pure 44=true from rfl) (by simp only[cans,aG,az,aC,aH,ca,cb])]
 simp only[aO,Nat.reduceAdd,c44]
 by_cases hl:a.length=b.length
 ·have hlb:cK vb=some a.length:=by rw[hb.len,hl]
  repeat' (first
  |with_reducible (first|refine ai ?_|refine ar ?_|refine ax rfl ?_|refine aj (id:=0) (fun Q0 hn0 hx0 hr0 ho0=>?_))
  |(with_reducible (refine ah (fun K hK=>?_);(first|refine t44r0 ?_|refine t44r1 ?_|refine t44r3 ?_));(try simp only[SS,Nat.reduceEqDiff,br,lenS,ha.len,hlb]))
  |(revert hK;intro hK;(with_reducible refine hK _ ?_;clear hK K)))
  refine aU (fun k s=>∃ (i:Nat) (L:List (Nat×HO)),i≤a.length∧a.take i=b.take i∧k=a.length - i∧s=⟨[(0,va),(1,vb),(5,.int .i64 i)],⟨L,[]⟩⟩) _ ⟨0,_,Nat.zero_le _,rfl,rfl,rfl⟩ ?_
  rintro k s ⟨i,L,hi,hp,rfl,rfl⟩ QL0 hnL0 hxL0 hrL0
  simp only[c44l0]
  by_cases hig:i=a.length
  ·subst hig
   have he:a=b:=by rw[List.take_of_length_le (Nat.le_refl _),List.take_of_length_le (by omega)] at hp;exact hp
   repeat' (first
   |with_reducible (first|refine ai ?_|refine ax rfl ?_|refine aN ?_|refine aF ?_|refine hx0 _ ?_|refine hxL0 _ _ ?_)
   |(with_reducible (first|(refine ah (fun K hK=>?_);(first|refine EU ?_|refine t44r8 ?_))|refine hqr _ ?_);(try simp only[SS,Nat.reduceEqDiff,lenS,r44,aQ,ak,aD,am,ha.len]))
   |(revert hK;intro hK;(first|refine And.intro ?_ ?_|intro _|omega|(with_reducible refine hK _ ?_;clear hK K))))
   simp[he]
  ·have hia:(i:Int)<a.length:=by omega
   have ga:a[i]?=some a[i]:=List.getElem?_eq_getElem (by omega)
   have gb:b[i]?=some b[i]:=List.getElem?_eq_getElem (by omega)
   obtain⟨p,hp1,hp2⟩:=ha.at ga (k:=.i64)
   obtain⟨q,hq1,hq2⟩:=hb.at gb (k:=.i64)
   have hw:IntKind.i64.wrap ((i:Int)+1)=((i+1:Nat):Int):=by rw[wI (by omega) (by omega)];rfl
   by_cases he:a[i]=b[i]
   ·repeat' (first
    |with_reducible (first|refine ai ?_|refine ar ?_|refine au rfl ?_|refine bn rfl ?_|refine bx ?_|refine aj (id:=1) (fun Q1 hn1 hx1 hr1 ho1=>?_)|refine hn1 _ ?_)
    |(with_reducible ((first|refine ah (fun K hK=>?_)|refine aI (fun K hK=>?_));(first|refine EU ?_|refine t44r6 ?_|refine t44r5 ?_));(try simp only[SS,Nat.reduceEqDiff,br,lenS,ha.len,hia,hp1,hp2,hq1,hq2,he,hw]))
    |(revert hK;intro hK;(with_reducible refine hK _ ?_;clear hK K)))
    refine hnL0 (a.length - (i+1)) _ (by omega) ⟨i+1,L,by omega,?_,rfl,rfl⟩
    rw[List.take_add_one,List.take_add_one,hp,ga,gb,he]
   ·have hne:a≠b:=fun h=>he (by subst h;rfl)
    repeat' (first
    |with_reducible (first|refine ai ?_|refine ar ?_|refine au rfl ?_|refine bc rfl ?_|refine aF ?_|refine hr0 _ ?_|refine aj (id:=1) (fun Q1 hn1 hx1 hr1 ho1=>?_)|refine hr1 _ ?_|refine hrL0 _ ?_)
    |(with_reducible (first|(refine ah (fun K hK=>?_);(first|refine EU ?_|refine t44r6 ?_|refine t44r7 ?_))|refine hqr _ ?_);(try simp only[SS,Nat.reduceEqDiff,br,lenS,r44,aQ,ak,aD,am,ha.len,hia,hp1,hp2,hq1,hq2,he,hw]))
    |(revert hK;intro hK;(with_reducible refine hK _ ?_;clear hK K)))
    simp[hne]
 ·have hne:a≠b:=fun h=>hl (by rw[h])
  have hl2:¬ ((a.length:Int)=b.length):=by omega
  repeat' (first
  |with_reducible (first|refine ai ?_|refine au rfl ?_|refine be ?_)
  |(with_reducible (first|(refine ah (fun K hK=>?_);(first|refine t44r0 ?_|refine t44r1 ?_|refine t44r2 ?_))|refine hqr _ ?_);(try simp only[SS,Nat.reduceEqDiff,br,lenS,r44,aQ,ak,aD,am,ha.len,hb.len,hl2]))
  |(revert hK;intro hK;(with_reducible refine hK _ ?_;clear hK K)))
  simp[hne]
end Go.Cm
