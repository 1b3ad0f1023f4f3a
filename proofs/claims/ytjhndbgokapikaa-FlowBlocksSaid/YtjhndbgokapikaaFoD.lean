import Derived.Test.YtjhndbgokapikaaFoC
set_option linter.unusedSimpArgs false
set_option linter.unusedVariables false
namespace Go.Cm
open Go.Proofs Go.Fl
theorem d9 {m:Mem}{a0 a1 a2 a3 a4 a5:CV}{r:List CV}:ldA 6 m (.rptr (a0::a1::a2::a3::a4::a5::r))=some (.agg [a0,a1,a2,a3,a4,a5]):=by
 simp only[ldA,bN,List.length_cons,Option.map_some];rw[if_pos (by omega)];rfl
theorem bit1 {n:Nat}(hn:n<2 ^ 63):lY .and .i64 (n:Int) 1=((n % 2:Nat):Int):=by
 have e:(BitVec.ofInt IntKind.i64.bits (n:Int) &&& BitVec.ofInt IntKind.i64.bits 1).toNat=n % 2:=by
  show(BitVec.ofInt 64 (n:Int) &&& BitVec.ofInt 64 1).toNat=n % 2
  rw[BitVec.toNat_and,BitVec.toNat_ofInt,BitVec.toNat_ofInt];have h1:((n:Int) % ((2 ^ 64:Nat):Int)).toNat=n:=by omega
  rw[h1,show(((1:Int) % ((2 ^ 64:Nat):Int)).toNat)=1 from rfl,Nat.and_one_is_mod]
 show IntKind.i64.wrap ((BitVec.ofInt IntKind.i64.bits (n:Int) &&& BitVec.ofInt IntKind.i64.bits 1).toNat:Int)=_;rw[e];exact wI (by omega) (by omega)
theorem L9 {p:List In}{i:Nat}{x:In}(h:p[i]?=some x) (h24:x.op=24):mR p (i+1)=mR p i+1:=by rw[vf h,if_pos h24]
set_option maxHeartbeats 2000000 in
theorem x34 (p:List In) (i:Int) (hp:p.length≤9223372036854775807):FF 34 [sl inC p,.int .i64 i] []=some (.bool (gv p i),[]):=by
 by_cases h1:i<1
 ·have he:gv p i=false:=by unfold gv;rw[decide_eq_false (by omega)];rfl
  refine aL rfl Try.func34 s34 (Nat.le_of_ble_eq_true rfl) (λQ hqr hqn=>?_);rw[bf (show An.pure 34=true from rfl) (by simp only[cans,aG,az,aC,aH,inE.can_sl])];simp only[aO,Nat.reduceAdd,c34]
  repeat' (first
  |with_reducible (first|refine ai ?_|refine au rfl ?_|refine b6 ?_)
  |(with_reducible (first|(refine ah (λK hK=>?_);(first|refine QE ?_|refine QF ?_|refine t34r2 ?_))|refine hqr _ ?_);(try simp only[true_implies,false_implies,not_true_eq_false,b9,if_true,if_false,Nat.reduceEqDiff,aJ,dg,eN,gU,qz,qy,Option.map_some,ic,gf,lenS,dU,and_true,if_false,if_true,r34,aQ,ak,aD,Option.bind_some,am,jx,aV,aP,h1,he]))
  |(revert hK;intro hK;(with_reducible refine hK _ ?_;clear hK K)))
 by_cases h2:(p.length:Int)≤i
 ·have he:gv p i=false:=by unfold gv;rw[decide_eq_false (by omega)];rfl
  refine aL rfl Try.func34 s34 (Nat.le_of_ble_eq_true rfl) (λQ hqr hqn=>?_);rw[bf (show An.pure 34=true from rfl) (by simp only[cans,aG,az,aC,aH,inE.can_sl])];simp only[aO,Nat.reduceAdd,c34]
  repeat' (first
  |with_reducible (first|refine ai ?_|refine au rfl ?_|refine b6 ?_)
  |(with_reducible (first|(refine ah (λK hK=>?_);(first|refine QE ?_|refine QF ?_|refine t34r2 ?_))|refine hqr _ ?_);(try simp only[true_implies,false_implies,not_true_eq_false,not_false_eq_true,b9,if_true,if_false,Nat.reduceEqDiff,aJ,dg,eN,gU,qz,qy,Option.map_some,ic,gf,lenS,dU,and_true,true_and,if_false,if_true,r34,aQ,ak,aD,Option.bind_some,am,jx,aV,aP,h1,h2,he,ge_iff_le]))
  |(revert hK;intro hK;(with_reducible refine hK _ ?_;clear hK K)))
 obtain⟨k,rfl⟩:∃k:Nat,i=k:=⟨i.toNat,by omega⟩;have hr:gv p k=decide (mR p k % 2=1):=by
  unfold gv;rw[decide_eq_true ⟨by omega,by omega⟩,Bool.true_and];rfl
 rw[hr];refine aL rfl Try.func34 s34 (Nat.le_of_ble_eq_true rfl) (λQ hqr hqn=>?_);rw[bf (show An.pure 34=true from rfl) (by simp only[cans,aG,az,aC,aH,inE.can_sl])];simp only[aO,Nat.reduceAdd,c34]
 repeat' (first
 |with_reducible (first|refine ai ?_|refine ar ?_|refine ax rfl ?_|refine aj (id:=0) (λQ0 hn0 hx0 hr0 ho0=>?_))
 |(with_reducible (refine ah (λK hK=>?_);(first|refine QE ?_|refine QF ?_|refine t34r3 ?_));(try simp only[true_implies,false_implies,not_false_eq_true,b9,if_true,if_false,Nat.reduceEqDiff,aJ,dg,eN,gU,qz,qy,ic,gf,lenS,dU,true_and,if_false,if_true,aP,h1,h2,ge_iff_le]))
 |(revert hK;intro hK;(with_reducible refine hK _ ?_;clear hK K)))
 refine aU (λm s=>∃(n:Nat) (L:List (Nat×HO)),n≤k∧m=k - n∧mR p k=n+mR p (k - n)∧s=⟨[(0,sl inC p),(1,.int .i64 k),(5,.int .i64 n)],⟨L,[]⟩⟩) _ ⟨0,_,Nat.zero_le _,rfl,by simp,rfl⟩ ?_;rintro m s ⟨n,L,hn,rfl,hw,rfl⟩ QL0 hnL0 hxL0 hrL0;simp only[c34l0];have hb:=bit1 (n:=n) (by omega);have hend:mR p (k - n)=0→decide (lY .and .i64 (n:Int) 1=1)=decide (mR p k % 2=1):=λh=>by
  rw[hb,hw,h,Nat.add_zero];exact decide_eq_decide.2 (by omega)
 by_cases hlt:(n:Int)<k
 ·have hkn:k - n=(k - n - 1)+1:=by omega
  have hget:p[k - n - 1]?=some p[k - n - 1]:=List.getElem?_eq_getElem (by omega);obtain⟨x,hx⟩:∃x,p[k - n - 1]?=some x:=⟨_,hget⟩;have w1:IntKind.i64.wrap ((k:Int) - 1)=k - 1:=wI (by omega) (by omega);have w2:IntKind.i64.wrap ((k:Int) - 1 - n)=k - 1 - n:=wI (by omega) (by omega);have w3:IntKind.i64.wrap ((n:Int)+1)=n+1:=wI (by omega) (by omega);have hix:=hY (k:=.i64) (i:=(k:Int) - 1 - n) inE.len (by omega:0<6) (by omega) (by rw[show((k:Int) - 1 - n).toNat=k - n - 1 by omega];exact hx)
  by_cases h24:x.op=24
  ·have hws:mR p (k - n)=mR p (k - (n+1))+1:=by
    rw[hkn,L9 hx h24];rfl
   repeat' (first
   |with_reducible (first|refine ai ?_|refine ar ?_|refine au rfl ?_|refine bl (id:=1) (λQ1 hn1 hx1 hr1 ho1=>?_)|refine hn1 _ ?_)
   |(with_reducible ((first|refine ah (λK hK=>?_)|refine aI (λK hK=>?_));(first|refine QG ?_|refine t34r5 ?_));(try simp only[true_implies,false_implies,not_true_eq_false,b9,if_true,if_false,Nat.reduceEqDiff,aJ,dg,bL,List.drop_zero,dw,eN,gT,nL,lw,ic,gf,dU,cK,fe,List.nil_append,List.cons_append,and_true,if_false,if_true,hlt,w1,w2,w3,hix,inC,h24]))
   |(revert hK;intro hK;(with_reducible refine hK _ ?_;clear hK K)))
   refine hnL0 (k - (n+1)) _ (by omega) ⟨n+1,L,by omega,rfl,by omega,by simp⟩
  ·have hws:mR p (k - n)=0:=by rw[hkn,vf hx,if_neg h24]
   have he:=hend hws
   repeat' (first
   |with_reducible (first|refine ai ?_|refine ax rfl ?_|refine aN ?_|refine aF ?_|refine hx0 _ ?_|refine hxL0 _ _ ?_)
   |(with_reducible (first|(refine ah (λK hK=>?_);(first|refine QG ?_|refine t34r6 ?_))|refine hqr _ ?_);(try simp only[true_implies,false_implies,not_true_eq_false,not_false_eq_true,b9,if_true,if_false,Nat.reduceEqDiff,aJ,dg,bL,List.drop_zero,dw,eN,gT,nL,lw,Option.map_some,ic,gf,dU,fe,uR,List.nil_append,List.cons_append,and_true,true_and,if_false,if_true,r34,aQ,ak,aD,Option.bind_some,am,jx,aV,Prod.mk.injEq,CV.bool.injEq,hlt,w1,w2,hix,inC,h24]))
   |(revert hK;intro hK;(first|refine And.intro ?_ ?_|intro _|(with_reducible refine hK _ ?_;clear hK K))))
   all_goals (rw[←he];first|exact(decide_eq_true (by assumption)).symm|exact(decide_eq_false (by assumption)).symm)
 ·have hnk:n=k:=by omega
  have hws:mR p (k - n)=0:=by rw[hnk,Nat.sub_self];rfl
  have he:=hend hws
  repeat' (first
  |with_reducible (first|refine ai ?_|refine ax rfl ?_|refine aN ?_|refine aF ?_|refine hx0 _ ?_|refine hxL0 _ _ ?_)
  |(with_reducible (first|(refine ah (λK hK=>?_);(first|refine QG ?_|refine t34r6 ?_))|refine hqr _ ?_);(try simp only[true_implies,false_implies,not_false_eq_true,b9,if_true,if_false,Nat.reduceEqDiff,aJ,dg,eN,gT,nL,lw,Option.map_some,ic,gf,dU,fe,uR,and_true,true_and,if_false,if_true,r34,aQ,ak,aD,Option.bind_some,am,jx,aV,Prod.mk.injEq,CV.bool.injEq,hlt]))
  |(revert hK;intro hK;(first|refine And.intro ?_ ?_|intro _|(with_reducible refine hK _ ?_;clear hK K))))
  all_goals (rw[←he];first|exact(decide_eq_true (by assumption)).symm|exact(decide_eq_false (by assumption)).symm)
theorem k34 {p:List In}{i:Int}(hp:p.length≤9223372036854775807) {fid:FuncId}{d:Tmp}{m:Mem}:cd An FF fid (some d) 34 [sl inC p,.int .i64 i] m=some (.bool (gv p i),m):=
 cr (x34 p i hp) (λ_ _ _=>rfl) rfl (by simp only[cans,aG,inE.can_sl]) rfl (by simp only[noGs,eo,inE.noG_sl,Bool.and_self]) rfl
def vo (x:In):Bool:=jB x.op||decide (x.op=5)
theorem x19 (x:In):FF 19 [.agg (inC x)] []=some (.bool (vo x),[]):=by
 obtain⟨ja,jb,hj⟩:=PZ x.op;have h:=x36 x.op;rw[hj] at h;have kJ:∀t m,cd An FF 19 (some t) 36 [.int .i64 x.op] m=some (.tuple [.int .i64 ja,.bool jb,.bool (jB x.op)],m):=λt m=>cr h (λ_ _ _=>rfl) rfl rfl rfl rfl rfl
 cases hJ:jB x.op with
 |true=>
  rw[hJ] at kJ;rw[show vo x=true by simp[vo,hJ]];refine aL rfl Try.func19 s19 (Nat.le_of_ble_eq_true rfl) (λQ hqr hqn=>?_);rw[bf (show An.pure 19=true from rfl) (by simp only[cans,aG,az,aC,aH,aC,inE.can])];simp only[aO,Nat.reduceAdd,c19]
  repeat' (first
  |with_reducible refine aF ?_
  |(with_reducible (first|(refine ah (λK hK=>?_);(first|refine t19r0 ?_|refine t19r1 ?_|refine t19r2 ?_))|refine hqr _ ?_);(try simp only[b9,if_true,if_false,Nat.reduceEqDiff,ap,aJ,dg,qO,qP,ba,ik,Nat.zero_add,cb,eX,cw,List.getElem?_cons_zero,List.getElem?_cons_succ,qz,Option.map_some,ic,dT,if_false,if_true,r19,aQ,ak,aD,Option.bind_some,am,jx,aV,inC,kJ]))
  |(revert hK;intro hK;(with_reducible refine hK _ ?_;clear hK K)))
 |false=>
  rw[hJ] at kJ;rw[show vo x=decide (x.op=5) by simp[vo,hJ]];refine aL rfl Try.func19 s19 (Nat.le_of_ble_eq_true rfl) (λQ hqr hqn=>?_);rw[bf (show An.pure 19=true from rfl) (by simp only[cans,aG,az,aC,aH,aC,inE.can])];simp only[aO,Nat.reduceAdd,c19]
  repeat' (first
  |with_reducible refine aF ?_
  |(with_reducible (first|(refine ah (λK hK=>?_);(first|refine t19r0 ?_|refine t19r1 ?_|refine t19r2 ?_))|refine hqr _ ?_);(try simp only[b9,if_true,if_false,Nat.reduceEqDiff,ap,aJ,dg,qO,qP,ba,ik,Nat.zero_add,cb,eX,cw,List.getElem?_cons_zero,List.getElem?_cons_succ,gT,qy,Option.map_some,gf,dU,dT,and_true,if_false,if_true,r19,aQ,ak,aD,Option.bind_some,am,jx,aV,Prod.mk.injEq,CV.bool.injEq,inC,kJ]))
  |(revert hK;intro hK;(first|refine And.intro ?_ ?_|intro _|(with_reducible refine hK _ ?_;clear hK K))))
  all_goals first|rfl|simp_all
theorem k19 {x:In}{fid:FuncId}{d:Tmp}{m:Mem}:cd An FF fid (some d) 19 [.agg (inC x)] m=some (.bool (vo x),m):=
 cr (x19 x) (λ_ _ _=>rfl) rfl (by simp only[cans,aC,inE.can]) rfl rfl rfl
def wdI (x:In):Int:=if x.op=24 then 2 else 1
theorem x37 (x:In):FF 37 [.agg (inC x)] []=some (.int .i64 (wdI x),[]):=by
 by_cases h:x.op=24
 ·rw[wdI,if_pos h]
  refine aL rfl Try.func37 s37 (Nat.le_of_ble_eq_true rfl) (λQ hqr hqn=>?_);rw[bf (show An.pure 37=true from rfl) (by simp only[cans,aG,az,aC,aH,aC,inE.can])];simp only[aO,Nat.reduceAdd,c37]
  repeat' (first
  |with_reducible (first|refine ai ?_|refine au rfl ?_|refine b6 ?_)
  |(with_reducible (first|(refine ah (λK hK=>?_);(first|refine t37r0 ?_|refine t37r1 ?_|refine t37r2 ?_))|refine hqr _ ?_);(try simp only[true_implies,false_implies,not_true_eq_false,b9,if_true,ap,aJ,dg,qO,qP,ba,ik,Nat.zero_add,cb,eX,cw,List.getElem?_cons_zero,gT,Option.map_some,and_true,if_true,r37,aQ,ak,aD,Option.bind_some,am,bz,aV,inC,h]))
  |(revert hK;intro hK;(with_reducible refine hK _ ?_;clear hK K)))
 ·rw[wdI,if_neg h]
  refine aL rfl Try.func37 s37 (Nat.le_of_ble_eq_true rfl) (λQ hqr hqn=>?_);rw[bf (show An.pure 37=true from rfl) (by simp only[cans,aG,az,aC,aH,aC,inE.can])];simp only[aO,Nat.reduceAdd,c37]
  repeat' (first
  |with_reducible (first|refine ai ?_|refine ar ?_|refine ax rfl ?_|refine aF ?_)
  |(with_reducible (first|(refine ah (λK hK=>?_);(first|refine t37r0 ?_|refine t37r1 ?_|refine t37r3 ?_))|refine hqr _ ?_);(try simp only[true_implies,false_implies,not_false_eq_true,b9,if_true,ap,aJ,dg,qO,qP,ba,ik,Nat.zero_add,cb,eX,cw,List.getElem?_cons_zero,gT,Option.map_some,true_and,if_true,r37,aQ,ak,aD,Option.bind_some,am,bz,aV,inC,h]))
  |(revert hK;intro hK;(with_reducible refine hK _ ?_;clear hK K)))
theorem k37 {x:In}{fid:FuncId}{d:Tmp}{m:Mem}:cd An FF fid (some d) 37 [.agg (inC x)] m=some (.int .i64 (wdI x),m):=
 cr (x37 x) (λ_ _ _=>rfl) rfl (by simp only[cans,aC,inE.can]) rfl rfl rfl
set_option maxHeartbeats 2000000 in
theorem x20 (p:List In) (i:Int) (hp:p.length≤4611686018427387904):FF 20 [sl inC p,.int .i64 i] []=some (eA aX 1 (np p i),[]):=by
 have kH:∀t m,cd An FF 20 (some t) 34 [sl inC p,.int .i64 i] m=some (.bool (gv p i),m):=λt m=>k34 (by omega)
 by_cases h1:i<0
 ·have he:np p i=[]:=by show it jB wrI p i=_;unfold it;rw[if_pos (.inl h1)]
  rw[he];refine aL rfl Try.func20 s20 (Nat.le_of_ble_eq_true rfl) (λQ hqr hqn=>?_);rw[bf (show An.pure 20=true from rfl) (by simp only[cans,aG,az,aC,aH,inE.can_sl])];simp only[aO,Nat.reduceAdd,c20]
  repeat' (first
  |with_reducible (first|refine ai ?_|refine au rfl ?_|refine b6 ?_)
  |(with_reducible (first|(refine ah (λK hK=>?_);(first|refine Lr ?_|refine Ls ?_|refine Qs ?_))|refine hqr _ ?_);(try simp only[true_implies,false_implies,not_true_eq_false,b9,if_true,if_false,Nat.reduceEqDiff,aJ,dg,eN,gU,qz,qy,Option.map_some,ic,gf,lenS,dU,and_true,if_false,if_true,r20,aQ,ak,aD,Option.bind_some,am,eh,aV,Prod.mk.injEq,aP,h1]))
  |(revert hK;intro hK;(with_reducible refine hK _ ?_;clear hK K)))
  all_goals rfl
 by_cases h2:(p.length:Int)≤i
 ·have he:np p i=[]:=by show it jB wrI p i=_;unfold it;rw[if_pos (.inr (.inl h2))]
  rw[he];refine aL rfl Try.func20 s20 (Nat.le_of_ble_eq_true rfl) (λQ hqr hqn=>?_);rw[bf (show An.pure 20=true from rfl) (by simp only[cans,aG,az,aC,aH,inE.can_sl])];simp only[aO,Nat.reduceAdd,c20]
  repeat' (first
  |with_reducible (first|refine ai ?_|refine au rfl ?_|refine b6 ?_)
  |(with_reducible (first|(refine ah (λK hK=>?_);(first|refine Lr ?_|refine Ls ?_|refine Qs ?_))|refine hqr _ ?_);(try simp only[true_implies,false_implies,not_true_eq_false,not_false_eq_true,b9,if_true,if_false,Nat.reduceEqDiff,aJ,dg,eN,gU,qz,qy,Option.map_some,ic,gf,lenS,dU,and_true,true_and,if_false,if_true,r20,aQ,ak,aD,Option.bind_some,am,eh,aV,Prod.mk.injEq,aP,h1,h2,ge_iff_le]))
  |(revert hK;intro hK;(with_reducible refine hK _ ?_;clear hK K)))
  all_goals rfl
 cases hh:gv p i with
 |true=>
  rw[hh] at kH;have he:np p i=[]:=by show it jB wrI p i=_;unfold it;rw[if_pos (.inr (.inr hh))]
  rw[he];refine aL rfl Try.func20 s20 (Nat.le_of_ble_eq_true rfl) (λQ hqr hqn=>?_);rw[bf (show An.pure 20=true from rfl) (by simp only[cans,aG,az,aC,aH,inE.can_sl])];simp only[aO,Nat.reduceAdd,c20]
  repeat' (first
  |with_reducible (first|refine ai ?_|refine au rfl ?_|refine b6 ?_)
  |(with_reducible (first|(refine ah (λK hK=>?_);(first|refine Lr ?_|refine Ls ?_|refine Qs ?_))|refine hqr _ ?_);(try simp only[true_implies,false_implies,not_false_eq_true,b9,if_true,if_false,Nat.reduceEqDiff,aJ,dg,eN,gU,qz,qy,Option.map_some,ic,gf,lenS,dU,and_true,true_and,if_false,if_true,r20,aQ,ak,aD,Option.bind_some,am,eh,aV,Prod.mk.injEq,aP,h1,h2,ge_iff_le,kH]))
  |(revert hK;intro hK;(with_reducible refine hK _ ?_;clear hK K)))
  all_goals rfl
 |false=>
  rw[hh] at kH;obtain⟨x,hx⟩:∃x,p[i.toNat]?=some x:=⟨_,List.getElem?_eq_getElem (by omega)⟩;have he:np p i=if x.op=149 then [] else if x.op=5 then [IntKind.i64.wrap (i+1+x.off)] else if jB x.op=true then [i+1,IntKind.i64.wrap (i+1+x.off)] else if x.op=24 then [i+2] else [i+1]:=by
   show it jB wrI p i=_;unfold it;rw[if_neg (by rw[hh];rintro(h|h|h);exact h1 h;exact h2 h;cases h)];simp only[hx]
  have hix:=hY (k:=.i64) (i:=i) inE.len (by omega:0<6) (by omega) hx;have w1:IntKind.i64.wrap (i+1)=i+1:=wI (by omega) (by omega);have w2:IntKind.i64.wrap (i+2)=i+2:=wI (by omega) (by omega);obtain⟨ja,jb,hj⟩:=PZ x.op;have h:=x36 x.op;rw[hj] at h;obtain⟨J,hJ⟩:∃J,J=jB x.op:=⟨_,rfl⟩;have kJ:∀t m,cd An FF 20 (some t) 36 [.int .i64 x.op] m=some (.tuple [.int .i64 ja,.bool jb,.bool J],m):=λt m=>by rw[hJ];exact cr h (λ_ _ _=>rfl) rfl rfl rfl rfl rfl
  rw[←hJ] at he;have o1:∀a:Int,eA aX 1 [a]=.own 1 1 [.int .i64 a] 0:=λa=>rfl;have o2:∀a b:Int,eA aX 1 [a,b]=.own 2 1 [.int .i64 a,.int .i64 b] 0:=λa b=>rfl
  by_cases e1:x.op=149
  ·rw[he,if_pos e1]
   refine aL rfl Try.func20 s20 (Nat.le_of_ble_eq_true rfl) (λQ hqr hqn=>?_);rw[bf (show An.pure 20=true from rfl) (by simp only[cans,aG,az,aC,aH,inE.can_sl])];simp only[aO,Nat.reduceAdd,c20]
   repeat' (first
   |with_reducible (first|refine ai ?_|refine ar ?_|refine ax rfl ?_|refine bc rfl ?_|refine aF ?_|refine aj (id:=0) (λQ0 hn0 hx0 hr0 ho0=>?_)|refine hr0 _ ?_)
   |(with_reducible (first|(refine ah (λK hK=>?_);(first|refine Lr ?_|refine Ls ?_|refine M5 ?_|refine M6 ?_|refine M7 ?_|refine t20r6 ?_))|refine hqr _ ?_);(try simp only[true_implies,false_implies,not_true_eq_false,not_false_eq_true,b9,if_true,if_false,Nat.reduceEqDiff,ap,aJ,dg,qO,qP,ba,aS,ik,Nat.reduceAdd,Nat.zero_add,cb,eX,cw,List.getElem?_cons_zero,List.getElem?_cons_succ,eN,gU,gT,qz,qy,Option.map_some,ic,gf,lenS,dU,dT,p6,lj,ay,List.take_zero,List.drop_succ_cons,List.drop_nil,List.nil_append,List.cons_append,List.append_nil,List.length_cons,List.length_nil,and_self,and_true,true_and,Nat.le_refl,if_false,if_true,r20,aQ,ak,aD,Option.bind_some,am,eh,aV,Prod.mk.injEq,aP,h1,h2,ge_iff_le,kH,hix,inC,d9,kJ,eq_true e1]))
   |(revert hK;intro hK;(with_reducible refine hK _ ?_;clear hK K)))
   all_goals first|rfl|simp_all
  by_cases e2:x.op=5
  ·rw[he,if_neg e1,if_pos e2,o1]
   refine aL rfl Try.func20 s20 (Nat.le_of_ble_eq_true rfl) (λQ hqr hqn=>?_);rw[bf (show An.pure 20=true from rfl) (by simp only[cans,aG,az,aC,aH,inE.can_sl])];simp only[aO,Nat.reduceAdd,c20]
   repeat' (first
   |with_reducible (first|refine ai ?_|refine ar ?_|refine ax rfl ?_|refine bc rfl ?_|refine d7 rfl ?_|refine aF ?_|refine aj (id:=0) (λQ0 hn0 hx0 hr0 ho0=>?_)|refine hr0 _ ?_)
   |(with_reducible (first|(refine ah (λK hK=>?_);(first|refine Lr ?_|refine Ls ?_|refine M5 ?_|refine M6 ?_|refine M7 ?_|refine NO ?_|refine t20r8 ?_))|refine hqr _ ?_);(try simp only[true_implies,false_implies,not_true_eq_false,not_false_eq_true,b9,if_true,if_false,Nat.reduceEqDiff,ap,aJ,dg,qO,qP,dj,ef,bv,aR,ba,aS,ik,Nat.reduceMul,Nat.reduceAdd,Nat.zero_add,cb,List.drop_zero,eX,cw,List.getElem?_cons_zero,List.getElem?_cons_succ,eN,gU,gT,qz,qy,Option.map_some,ic,gf,lenS,dU,cK,dT,cD,bg,be,bF,p6,lj,ay,List.take_zero,List.take_succ_cons,List.drop_succ_cons,List.drop_nil,List.nil_append,List.cons_append,List.append_nil,List.length_cons,List.length_nil,and_self,and_true,true_and,Nat.le_refl,cz,List.all_cons,List.all_nil,Bool.and_self,if_false,if_true,r20,aQ,ak,aD,Option.bind_some,am,dq,bV,Nat.sub_self,aV,aP,h1,h2,ge_iff_le,kH,hix,inC,d9,kJ,e1,eq_true e2,w1]))
   |(revert hK;intro hK;(with_reducible refine hK _ ?_;clear hK K)))
   all_goals first|rfl|simp_all
  cases J with
  |true=>
   rw[he,if_neg e1,if_neg e2,if_pos rfl,o2];refine aL rfl Try.func20 s20 (Nat.le_of_ble_eq_true rfl) (λQ hqr hqn=>?_);rw[bf (show An.pure 20=true from rfl) (by simp only[cans,aG,az,aC,aH,inE.can_sl])];simp only[aO,Nat.reduceAdd,c20]
   repeat' (first
   |with_reducible (first|refine ai ?_|refine ar ?_|refine ax rfl ?_|refine bc rfl ?_|refine d7 rfl ?_|refine aF ?_|refine aj (id:=0) (λQ0 hn0 hx0 hr0 ho0=>?_)|refine hr0 _ ?_)
   |(with_reducible (first|(refine ah (λK hK=>?_);(first|refine Lr ?_|refine Ls ?_|refine M5 ?_|refine M6 ?_|refine M7 ?_|refine NO ?_|refine Qt ?_|refine t20r10 ?_))|refine hqr _ ?_);(try simp only[true_implies,false_implies,not_false_eq_true,b9,if_true,if_false,Nat.reduceEqDiff,ap,aJ,dg,qO,qP,dj,ef,bv,aR,ba,aS,ik,Nat.reduceMul,Nat.reduceAdd,Nat.zero_add,cb,List.drop_zero,eX,cw,List.getElem?_cons_zero,List.getElem?_cons_succ,eN,gU,gT,qz,qy,Option.map_some,ic,gf,lenS,dU,cK,dT,cD,bg,be,bF,p6,lj,ay,List.take_zero,List.take_succ_cons,List.drop_succ_cons,List.drop_nil,List.nil_append,List.cons_append,List.append_nil,List.length_cons,List.length_nil,Nat.reduceLeDiff,and_self,and_true,true_and,Nat.le_refl,cz,List.all_cons,List.all_nil,Bool.and_self,if_false,if_true,r20,aQ,ak,aD,Option.bind_some,am,dq,bV,Nat.sub_self,aV,aP,h1,h2,ge_iff_le,kH,hix,inC,d9,kJ,e1,e2,w1]))
   |(revert hK;intro hK;(with_reducible refine hK _ ?_;clear hK K)))
   all_goals first|rfl|simp_all
  |false=>
   rw[he,if_neg e1,if_neg e2,if_neg (by decide)]
   by_cases e3:x.op=24
   ·rw[if_pos e3,o1]
    refine aL rfl Try.func20 s20 (Nat.le_of_ble_eq_true rfl) (λQ hqr hqn=>?_);rw[bf (show An.pure 20=true from rfl) (by simp only[cans,aG,az,aC,aH,inE.can_sl])];simp only[aO,Nat.reduceAdd,c20]
    repeat' (first
    |with_reducible (first|refine ai ?_|refine ar ?_|refine ax rfl ?_|refine bc rfl ?_|refine d7 rfl ?_|refine aF ?_|refine aj (id:=0) (λQ0 hn0 hx0 hr0 ho0=>?_)|refine hr0 _ ?_)
    |(with_reducible (first|(refine ah (λK hK=>?_);(first|refine Lr ?_|refine Ls ?_|refine M5 ?_|refine M6 ?_|refine M7 ?_|refine NO ?_|refine Qt ?_|refine Qr ?_|refine t20r12 ?_))|refine hqr _ ?_);(try simp only[true_implies,false_implies,not_true_eq_false,not_false_eq_true,b9,if_true,if_false,Nat.reduceEqDiff,ap,aJ,dg,qO,qP,dj,ef,bv,aR,ba,aS,ik,Nat.reduceMul,Nat.reduceAdd,Nat.zero_add,cb,List.drop_zero,eX,cw,List.getElem?_cons_zero,List.getElem?_cons_succ,eN,gU,gT,qz,qy,Option.map_some,ic,gf,lenS,dU,cK,dT,cD,bg,be,bF,p6,lj,ay,List.take_zero,List.take_succ_cons,List.drop_succ_cons,List.drop_nil,List.nil_append,List.cons_append,List.append_nil,List.length_cons,List.length_nil,and_self,and_true,true_and,Nat.le_refl,cz,List.all_cons,List.all_nil,Bool.and_self,if_false,if_true,r20,aQ,ak,aD,Option.bind_some,am,dq,bV,Nat.sub_self,aV,aP,h1,h2,ge_iff_le,kH,hix,inC,d9,kJ,e1,e2,eq_true e3,w2]))
    |(revert hK;intro hK;(with_reducible refine hK _ ?_;clear hK K)))
    all_goals first|rfl|simp_all
   ·rw[if_neg e3,o1]
    refine aL rfl Try.func20 s20 (Nat.le_of_ble_eq_true rfl) (λQ hqr hqn=>?_);rw[bf (show An.pure 20=true from rfl) (by simp only[cans,aG,az,aC,aH,inE.can_sl])];simp only[aO,Nat.reduceAdd,c20]
    repeat' (first
    |with_reducible (first|refine ai ?_|refine ar ?_|refine ax rfl ?_|refine d7 rfl ?_|refine aF ?_|refine bx ?_|refine aj (id:=0) (λQ0 hn0 hx0 hr0 ho0=>?_)|refine hn0 _ ?_)
    |(with_reducible (first|(refine ah (λK hK=>?_);(first|refine Lr ?_|refine Ls ?_|refine M5 ?_|refine M6 ?_|refine M7 ?_|refine NO ?_|refine Qt ?_|refine Qr ?_|refine t20r13 ?_))|refine hqr _ ?_);(try simp only[true_implies,false_implies,not_false_eq_true,b9,if_true,if_false,Nat.reduceEqDiff,ap,aJ,dg,qO,qP,dj,ef,bv,aR,ba,aS,ik,Nat.reduceMul,Nat.reduceAdd,Nat.zero_add,cb,List.drop_zero,eX,cw,List.getElem?_cons_zero,List.getElem?_cons_succ,eN,gU,gT,qz,qy,Option.map_some,ic,gf,lenS,dU,cK,dT,cD,bg,be,bF,p6,lj,ay,List.take_zero,List.take_succ_cons,List.drop_succ_cons,List.drop_nil,List.nil_append,List.cons_append,List.append_nil,List.length_cons,List.length_nil,and_self,and_true,true_and,Nat.le_refl,cz,List.all_cons,List.all_nil,Bool.and_self,if_false,if_true,r20,aQ,ak,aD,Option.bind_some,am,dq,bV,Nat.sub_self,aV,aP,h1,h2,ge_iff_le,kH,hix,inC,d9,kJ,e1,e2,e3,w1]))
    |(revert hK;intro hK;(with_reducible refine hK _ ?_;clear hK K)))
    all_goals first|rfl|simp_all
theorem k20 {p:List In}{i:Int}(hp:p.length≤4611686018427387904) {fid:FuncId}{t:Tmp}{m:Mem}{K:CV×Mem→Prop}(hgl:(An.glob fid).contains t=false)
  (hK:∀v m',OwnE aX 1 m' (16*t) v (np p i)→m'.H=m.H→(∀i,i≠16*t→aK m'.L i=aK m.L i)→K (v,m')):Obt (cd An FF fid (some t) 20 [sl inC p,.int .i64 i] m) K:=
 gX (x20 p i hp) rfl (by simp only[cans,aG,inE.can_sl]) rfl (by simp only[noGs,eo,inE.noG_sl,Bool.and_self]) intE.noG hgl hK
end Go.Cm
namespace Go.Cm
open Go.Proofs Go.Fl
def eqA (b:Bool) (X:Option Bool):Option Bool:=match (some b:Option Bool) with
 |some true=>X
 |r=>r
theorem eqA_and (b c:Bool):eqA b (some c)=some (b&&c):=by cases b<;>rfl
theorem in_ceq0 (o1 d1 s1 f1 i1 w1 o2 d2 s2 f2 i2 w2:Int):ceq Try.prog 20 47 (.agg [.int .i64 o1,.int .i64 d1,.int .i64 s1,.int .i64 f1,.int .i64 i1,.int .u64 w1]) (.agg [.int .i64 o2,.int .i64 d2,.int .i64 s2,.int .i64 f2,.int .i64 i2,.int .u64 w2]) =
  eqA (o1==o2) (eqA (d1==d2) (eqA (s1==s2) (eqA (f1==f2) (eqA (i1==i2) (eqA (w1==w2) (some true)))))):=by
 kernel_rfl
theorem PW:Try.prog.eqGuardType Try.prog.depth 47=false:=by kernel_rfl
def zIn (x:In):Bool:=decide (x.op=0∧x.dst=0∧x.src=0∧x.off=0∧x.imm=0∧x.wide=0)
theorem PX (y:In) {a b:Operand}:aw Try.prog .neq 47 a b (.agg [.int .i64 y.op,.int .i64 y.dst,.int .i64 y.src,.int .i64 y.off,.int .i64 y.imm,.int .u64 y.wide]) (.agg [.int .i64 0,.int .i64 0,.int .i64 0,.int .i64 0,.int .i64 0,.int .u64 0])=some (.bool (!(zIn y))):=by
 have h:(y.op==0&&(y.dst==0&&(y.src==0&&(y.off==0&&(y.imm==0&&(y.wide==0&&true))))))=zIn y:=by
  unfold zIn;rw[Bool.eq_iff_iff];simp only[Bool.and_true,Bool.and_eq_true,beq_iff_eq,decide_eq_true_eq]
 simp only[aw,eqC,PW,in_ceq0,eqA_and,h,Bool.false_eq_true,if_false,Option.map_some]
theorem KA {p:List In}{i:Nat}{x:In}:Ni p i x=(decide (x.op≠24)||(match p[i+1]? with|some y=>zIn y|none=>false)):=rfl
set_option maxHeartbeats 4000000 in
theorem inner18 {p:List In}{i:Nat}(hi:(i:Int)≤p.length) (hp:p.length≤4096) {v:CV}{L':List (Nat×HO)}(hO:OwnE aX 1 ⟨L',[]⟩ 848 v (np p i)) {Q':CE→TS→Prop}
  (hx:(np p i).all (goB p)=true→∀L'' v',Q' (.exit 3) ⟨[(0,sl inC p),(4,.int .i64 i),(16,sl inC p),(17,.int .i64 p.length),(18,.int .i64 i),(53,v'),(54,.int .i64 (np p i).length),(55,.int .i64 (np p i).length),(56,.bool false)],⟨L'',[]⟩⟩)
  (hr:(np p i).all (goB p)=false→∀L'',Q' .ret ⟨[(2,.int .i64 i),(3,.int .i64 40)],⟨L'',[]⟩⟩) :
  Tx Try.prog An FF 18 (.loop NF) ⟨[(0,sl inC p),(4,.int .i64 i),(16,sl inC p),(17,.int .i64 p.length),(18,.int .i64 i),(53,v),(54,.int .i64 (np p i).length),(55,.int .i64 0)],⟨L',[]⟩⟩ Q':=by
 obtain⟨S,hS⟩:∃S,S=np p i:=⟨_,rfl⟩;have hSl:S.length≤2:=by
  rw[hS]
  show(it jB wrI p i).length≤2
  unfold it
  repeat' (first|split|simp|omega)
 rw[←hS] at hO hx hr ⊢;clear hS;have kH:∀i t m,cd An FF 18 (some t) 34 [sl inC p,.int .i64 i] m=some (.bool (gv p i),m):=λi t m=>k34 (by omega);refine aU (λk s=>∃(dn td:List Int) (L:List (Nat×HO)),S=dn++td∧k=td.length∧dn.all (goB p)=true∧OwnE aX 1 ⟨L,[]⟩ 848 v S ∧
   s=⟨[(0,sl inC p),(4,.int .i64 i),(16,sl inC p),(17,.int .i64 p.length),(18,.int .i64 i),(53,v),(54,.int .i64 S.length),(55,.int .i64 dn.length)],⟨L,[]⟩⟩) _ ⟨[],S,_,rfl,rfl,rfl,hO,rfl⟩ ?_
 clear hO;rintro k s ⟨dn,td,L,h3,rfl,hg,hO,rfl⟩ QL0 hnL0 hxL0 hrL0;have hlen:=congrArg List.length h3;simp only[List.length_append] at hlen;simp only[NF]
 cases td with
 |nil=>
  simp only[List.length_nil] at hlen;rw[List.append_nil] at h3;have hge:¬((dn.length:Int)<S.length):=by omega
  have e:dn.length=S.length:=by omega
  repeat' (first
  |with_reducible (first|refine ax rfl ?_|refine aN ?_|refine hxL0 _ _ ?_)
  |(with_reducible (refine ah (λK hK=>?_);refine LV ?_);(try simp only[true_implies,false_implies,not_false_eq_true,b9,if_true,if_false,Nat.reduceEqDiff,dg,eN,true_and,if_false,if_true,hge]))
  |(revert hK;intro hK;(with_reducible refine hK _ ?_;clear hK K)))
  rw[e];exact hx (by rw[h3];exact hg) _ _
 |cons y td=>
  simp only[List.length_cons] at hlen;have hlt:(dn.length:Int)<S.length:=by omega
  have hw:IntKind.i64.wrap ((dn.length:Int)+1)=dn.length+1:=wI (by omega) (by omega);have hget:S[dn.length]?=some y:=by rw[h3];simp
  obtain⟨q,hq1,hq2⟩:=hO.at hget (k:=.i64);have hld:ld1 ⟨L,[]⟩ q=some (.int .i64 y):=hq2 _ rfl;have hbad:goB p y=false→S.all (goB p)=false:=λh=>by rw[h3,List.all_append,List.all_cons,h,Bool.false_and,Bool.and_false]
  by_cases g1:y<0
  ·have hb:=hr (hbad (by rw[goB,decide_eq_false (by omega)];rfl))
   repeat' (first
   |with_reducible (first|refine ar ?_|refine au rfl ?_|refine bc rfl ?_|refine aF ?_|refine aj (id:=4) (λQ4 hn4 hx4 hr4 ho4=>?_)|refine hr4 _ ?_|refine hrL0 _ ?_)
   |(with_reducible (refine ah (λK hK=>?_);(first|refine LV ?_|refine Mx ?_|refine My ?_|refine Nw ?_));(try simp only[true_implies,false_implies,not_true_eq_false,b9,if_true,if_false,Nat.reduceEqDiff,aJ,dg,eN,gU,qz,qy,ic,gf,lenS,dU,and_true,if_false,if_true,aP,hlt,hq1,hld,g1]))
   |(revert hK;intro hK;(with_reducible refine hK _ ?_;clear hK K)))
   all_goals exact hb _
  by_cases g2:(p.length:Int)≤y
  ·have hb:=hr (hbad (by rw[goB,decide_eq_false (p:=y<p.length) (by omega),Bool.false_and,Bool.and_false]))
   repeat' (first
   |with_reducible (first|refine ar ?_|refine au rfl ?_|refine bc rfl ?_|refine aF ?_|refine aj (id:=4) (λQ4 hn4 hx4 hr4 ho4=>?_)|refine hr4 _ ?_|refine hrL0 _ ?_)
   |(with_reducible (refine ah (λK hK=>?_);(first|refine LV ?_|refine Mx ?_|refine My ?_|refine Nw ?_));(try simp only[true_implies,false_implies,not_true_eq_false,not_false_eq_true,b9,if_true,if_false,Nat.reduceEqDiff,aJ,dg,eN,gU,qz,qy,ic,gf,lenS,dU,and_true,true_and,if_false,if_true,aP,hlt,hq1,hld,g1,g2,ge_iff_le]))
   |(revert hK;intro hK;(with_reducible refine hK _ ?_;clear hK K)))
   all_goals exact hb _
  have kHy:=kH y
  cases hh:gv p y with
  |true=>
   rw[hh] at kHy;have hb:=hr (hbad (by rw[goB,hh,Bool.not_true,Bool.and_false,Bool.and_false]))
   repeat' (first
   |with_reducible (first|refine ar ?_|refine au rfl ?_|refine bc rfl ?_|refine aF ?_|refine aj (id:=4) (λQ4 hn4 hx4 hr4 ho4=>?_)|refine hr4 _ ?_|refine hrL0 _ ?_)
   |(with_reducible (refine ah (λK hK=>?_);(first|refine LV ?_|refine Mx ?_|refine My ?_|refine Nw ?_));(try simp only[true_implies,false_implies,not_true_eq_false,not_false_eq_true,b9,if_true,if_false,Nat.reduceEqDiff,aJ,dg,eN,gU,qz,qy,ic,gf,lenS,dU,and_true,true_and,if_false,if_true,aP,hlt,hq1,hld,g1,g2,ge_iff_le,kHy]))
   |(revert hK;intro hK;(with_reducible refine hK _ ?_;clear hK K)))
   all_goals exact hb _
  |false=>
   rw[hh] at kHy;have hgo:goB p y=true:=by rw[goB,hh,decide_eq_true (by omega),decide_eq_true (by omega)];rfl
   repeat' (first
   |with_reducible (first|refine ar ?_|refine au rfl ?_|refine d7 rfl ?_|refine bx ?_|refine aj (id:=4) (λQ4 hn4 hx4 hr4 ho4=>?_)|refine hn4 _ ?_)
   |(with_reducible ((first|refine ah (λK hK=>?_)|refine aI (λK hK=>?_));(first|refine LV ?_|refine Mx ?_|refine My ?_|refine t18r16 ?_));(try simp only[true_implies,false_implies,not_true_eq_false,not_false_eq_true,b9,if_true,if_false,Nat.reduceEqDiff,aJ,dg,eN,gU,qz,qy,ic,gf,lenS,dU,cK,and_true,true_and,if_false,if_true,aP,hlt,hq1,hld,g1,g2,ge_iff_le,kHy,hw]))
   |(revert hK;intro hK;(with_reducible refine hK _ ?_;clear hK K)))
   have e:((dn.length:Int)+1)=((dn++[y]).length:Int):=by simp
   rw[e];exact hnL0 td.length _ (by simp) ⟨dn++[y],td,L,by simp[h3],rfl,by rw[List.all_append,hg];simp[hgo],hO,rfl⟩
set_option maxHeartbeats 8000000 in
theorem x18 (p:List In) (hp:p.length≤9223372036854775807):∃r,(∃i H',r=(CV.tuple [.int .i64 i,.int .i64 (gW p)],H'))∧FF 18 [sl inC p] []=some r:=by
 by_cases h1:(4096:Int)<p.length
 ·have he:gW p=31:=by show vi jB wrI ga p=_;unfold vi;rw[if_pos (by omega)]
  rw[he];refine bA rfl Try.func18 s18 (Nat.le_of_ble_eq_true rfl) (λQ hqr hqn=>?_);rw[bf (show An.pure 18=true from rfl) (by simp only[cans,aG,az,aC,aH,inE.can_sl])];simp only[aO,Nat.reduceAdd,c18]
  repeat' (first
  |with_reducible (first|refine bc rfl ?_|refine aF ?_|refine aj (id:=0) (λQ0 hn0 hx0 hr0 ho0=>?_)|refine hr0 _ ?_)
  |(with_reducible (first|(refine ah (λK hK=>?_);(first|refine Qo ?_|refine Qp ?_|refine t18r2 ?_))|refine hqr _ ?_);(try simp only[true_implies,false_implies,not_true_eq_false,b9,if_true,if_false,Nat.reduceEqDiff,aJ,dg,bq,Option.map_some,lenS,and_true,if_false,if_true,r18,aQ,ak,aD,Option.bind_some,am,bz,bW,Prod.mk.injEq,aP,h1,gt_iff_lt]))
  |(revert hK;intro hK;(with_reducible refine hK _ ?_;clear hK K)))
  all_goals first|exact⟨_,_,rfl,rfl⟩|exact⟨_,_,rfl⟩
 by_cases h2:(p.length:Int)=0
 ·have he:gW p=40:=by show vi jB wrI ga p=_;unfold vi;rw[if_neg (by omega),if_pos (by omega)]
  rw[he];refine bA rfl Try.func18 s18 (Nat.le_of_ble_eq_true rfl) (λQ hqr hqn=>?_);rw[bf (show An.pure 18=true from rfl) (by simp only[cans,aG,az,aC,aH,inE.can_sl])];simp only[aO,Nat.reduceAdd,c18]
  repeat' (first
  |with_reducible (first|refine bc rfl ?_|refine d7 rfl ?_|refine aF ?_|refine aj (id:=0) (λQ0 hn0 hx0 hr0 ho0=>?_)|refine hr0 _ ?_)
  |(with_reducible (first|(refine ah (λK hK=>?_);(first|refine Qo ?_|refine Qp ?_|refine t18r3 ?_|refine t18r4 ?_))|refine hqr _ ?_);(try simp only[true_implies,false_implies,not_true_eq_false,b9,if_true,if_false,Nat.reduceEqDiff,aJ,dg,bq,gT,Option.map_some,lenS,and_true,if_false,if_true,r18,aQ,ak,aD,Option.bind_some,am,bz,bW,Prod.mk.injEq,aP,h2,gt_iff_lt]))
  |(revert hK;intro hK;(first|refine And.intro ?_ ?_|intro _|omega|(with_reducible refine hK _ ?_;clear hK K))))
  all_goals first|exact⟨_,_,rfl,rfl⟩|exact⟨_,_,rfl⟩
 have hbad:hU jB wrI ga p 0 p=false→gW p=40:=λh=>by
  show vi jB wrI ga p=_;unfold vi;rw[if_neg (by omega),if_neg (by omega),if_neg (by rw[h];decide)]
 have hgood:hU jB wrI ga p 0 p=true→gW p=0:=λh=>by
  show vi jB wrI ga p=_;unfold vi;rw[if_neg (by omega),if_neg (by omega),if_pos h]
 have kH:∀i t m,cd An FF 18 (some t) 34 [sl inC p,.int .i64 i] m=some (.bool (gv p i),m):=λi t m=>k34 (by omega);refine bA rfl Try.func18 s18 (Nat.le_of_ble_eq_true rfl) (λQ hqr hqn=>?_);rw[bf (show An.pure 18=true from rfl) (by simp only[cans,aG,az,aC,aH,inE.can_sl])];simp only[aO,Nat.reduceAdd,c18]
 repeat' (first
 |with_reducible (first|refine ai ?_|refine d7 rfl ?_|refine bx ?_|refine aj (id:=0) (λQ0 hn0 hx0 hr0 ho0=>?_)|refine hn0 _ ?_|refine aj (id:=1) (λQ1 hn1 hx1 hr1 ho1=>?_))
 |(with_reducible (refine ah (λK hK=>?_);(first|refine Qo ?_|refine Qp ?_|refine t18r3 ?_|refine t18r5 ?_));(try simp only[true_implies,false_implies,not_false_eq_true,b9,if_true,if_false,Nat.reduceEqDiff,aJ,dg,bq,gT,Option.map_some,lenS,true_and,if_false,if_true,aP,h1,h2,gt_iff_lt]))
 |(revert hK;intro hK;(with_reducible refine hK _ ?_;clear hK K)))
 refine aU (λk s=>∃(dn td:List In) (L:List (Nat×HO)),p=dn++td∧k=td.length∧hU jB wrI ga p 0 p=hU jB wrI ga p dn.length td ∧
   s=⟨[(0,sl inC p),(16,sl inC p),(17,.int .i64 p.length),(18,.int .i64 dn.length)],⟨L,[]⟩⟩) _ ⟨[],p,_,rfl,rfl,rfl,rfl⟩ ?_
 rintro k s ⟨dn,td,L,h3,rfl,hc,rfl⟩ QL1 hnL1 hxL1 hrL1;have hlen:=congrArg List.length h3;simp only[List.length_append] at hlen;simp only[c18l1]
 cases td with
 |nil=>
  simp only[List.length_nil] at hlen;have hge:¬((dn.length:Int)<p.length):=by omega
  have he:=hgood hc
  repeat' (first
  |with_reducible (first|refine ax rfl ?_|refine aN ?_|refine aF ?_|refine hx1 _ ?_|refine hxL1 _ _ ?_)
  |(with_reducible (first|(refine ah (λK hK=>?_);(first|refine LW ?_|refine t18r18 ?_))|refine hqr _ ?_);(try simp only[true_implies,false_implies,not_false_eq_true,b9,if_true,if_false,Nat.reduceEqDiff,aJ,dg,eN,Option.map_some,true_and,if_false,if_true,r18,aQ,ak,aD,Option.bind_some,am,bz,bW,Prod.mk.injEq,hge,he]))
  |(revert hK;intro hK;(with_reducible refine hK _ ?_;clear hK K)))
  all_goals first|exact⟨_,_,rfl,rfl⟩|exact⟨_,_,rfl⟩
 |cons x td=>
  simp only[List.length_cons] at hlen;have hlt:(dn.length:Int)<p.length:=by omega
  have hw:IntKind.i64.wrap ((dn.length:Int)+1)=dn.length+1:=wI (by omega) (by omega);have hix:=aM (k:=.i64) inE.len (by omega:0<6) h3;have hc2:hU jB wrI ga p dn.length (x::td)=(H6 jB wrI ga p dn.length x&&hU jB wrI ga p (dn.length+1) td):=rfl;have hbad2:H6 jB wrI ga p dn.length x=false→gW p=40:=λh=>hbad (by rw[hc,hc2,h];rfl);have hnext:H6 jB wrI ga p dn.length x=true→∀L',QL1 .normal ⟨[(0,sl inC p),(16,sl inC p),(17,.int .i64 p.length),(18,.int .i64 ((dn.length:Int)+1))],⟨L',[]⟩⟩:=λh L'=>by
   have e:((dn.length:Int)+1)=((dn++[x]).length:Int):=by simp
   rw[e];exact hnL1 td.length _ (by simp) ⟨dn++[x],td,L',by simp[h3],rfl,by rw[hc,hc2,h,Bool.true_and];simp,rfl⟩
  have hsetL:∀(L:List (Nat×HO)) (H:List HO) i x,bi ⟨L,H⟩ i x=⟨gb L i x,H⟩:=λ_ _ _ _=>rfl;have kI:∀t m,cd An FF 18 (some t) 35 [.agg [.int .i64 x.op,.int .i64 x.dst,.int .i64 x.src,.int .i64 x.off,.int .i64 x.imm,.int .u64 x.wide]] m=some (.bool (ga x),m):=λt m=>k35;obtain⟨hh,ehh⟩:∃hh,hh=gv p dn.length:=⟨_,rfl⟩;have kH1:=kH dn.length;rw[←ehh] at kH1
  cases hh with
  |true=>
   have hok:H6 jB wrI ga p dn.length x=true:=by rw[H6,←ehh];rfl
   repeat' (first
   |with_reducible (first|refine ai ?_|refine ar ?_|refine au rfl ?_|refine aN ?_|refine aj (id:=2) (λQ2 hn2 hx2 hr2 ho2=>?_)|refine hx2 _ ?_)
   |(with_reducible ((first|refine ah (λK hK=>?_)|refine aI (λK hK=>?_));(first|refine LW ?_|refine Mj ?_|refine Mk ?_|refine Nx ?_));(try simp only[true_implies,false_implies,not_true_eq_false,b9,if_true,if_false,Nat.reduceEqDiff,ap,aJ,dg,qO,qP,aq,Nat.reduceAdd,Nat.zero_add,eN,cK,p6,lj,ay,List.take_zero,List.drop_succ_cons,List.drop_nil,List.nil_append,List.cons_append,List.append_nil,List.length_cons,List.length_nil,and_self,and_true,Nat.le_refl,if_false,if_true,hlt,hix,inC,d9,hsetL,kH1,hw]))
   |(revert hK;intro hK;(with_reducible refine hK _ ?_;clear hK K)))
   all_goals exact hnext hok _
  |false=>
   have hok:H6 jB wrI ga p dn.length x=(ga x&&(Ni p dn.length x&&(np p dn.length).all (goB p))):=by rw[H6,←ehh];rfl
   rw[hok] at hbad2 hnext;clear hok hc2
   cases hI:ga x with
   |false=>
    rw[hI] at kI hbad2;have he:=hbad2 rfl
    repeat' (first
    |with_reducible (first|refine ai ?_|refine ar ?_|refine au rfl ?_|refine ax rfl ?_|refine b6 ?_|refine hr1 _ ?_|refine aj (id:=2) (λQ2 hn2 hx2 hr2 ho2=>?_)|refine hr2 _ ?_|refine hrL1 _ ?_)
    |(with_reducible (first|(refine ah (λK hK=>?_);(first|refine LW ?_|refine Mj ?_|refine Mk ?_|refine M4 ?_|refine Nv ?_))|refine hqr _ ?_);(try simp only[true_implies,false_implies,not_true_eq_false,b9,if_true,if_false,Nat.reduceEqDiff,ap,aJ,dg,qO,qP,aq,Nat.reduceAdd,Nat.zero_add,cb,List.drop_zero,kM,eN,fc,qz,bI,Option.map_some,ic,Bool.not_false,lenS,bg,p6,lj,ay,List.take_zero,List.take_succ_cons,List.drop_succ_cons,List.drop_nil,List.nil_append,List.cons_append,List.append_nil,List.length_cons,List.length_nil,and_self,and_true,Nat.le_refl,gi,if_false,if_true,r18,aQ,ak,aD,Option.bind_some,am,bz,bW,Prod.mk.injEq,hlt,hix,inC,d9,hsetL,kH1,kI,he]))
    |(revert hK;intro hK;(with_reducible refine hK _ ?_;clear hK K)))
    all_goals first|exact⟨_,_,rfl,rfl⟩|exact⟨_,_,rfl⟩
   |true=>
    rw[hI] at kI hbad2 hnext;have hin:Ni p dn.length x=true→∀(v:CV) (L':List (Nat×HO)) (Q':CE→TS→Prop),OwnE aX 1 ⟨L',[]⟩ 848 v (np p dn.length) →
      (∀L'' v',(∀L3,QL1 .normal ⟨[(0,sl inC p),(16,sl inC p),(17,.int .i64 p.length),(18,.int .i64 ((dn.length:Int)+1))],⟨L3,[]⟩⟩)→Q' (.exit 3) ⟨[(0,sl inC p),(4,.int .i64 dn.length),(16,sl inC p),(17,.int .i64 p.length),(18,.int .i64 dn.length),(53,v'),(54,.int .i64 (np p dn.length).length),(55,.int .i64 (np p dn.length).length),(56,.bool false)],⟨L'',[]⟩⟩) →
      (∀L'',gW p=40→Q' .ret ⟨[(2,.int .i64 dn.length),(3,.int .i64 40)],⟨L'',[]⟩⟩) →
      Tx Try.prog An FF 18 (.loop NF) ⟨[(0,sl inC p),(4,.int .i64 dn.length),(16,sl inC p),(17,.int .i64 p.length),(18,.int .i64 dn.length),(53,v),(54,.int .i64 (np p dn.length).length),(55,.int .i64 0)],⟨L',[]⟩⟩ Q':=by
     intro hT v L' Q' hO hx hr;rw[hT,Bool.true_and,Bool.true_and] at hbad2 hnext;exact inner18 (by omega) (by omega) hO (λh L'' v'=>hx L'' v' (hnext h)) (λh L''=>hr L'' (hbad2 h))
    by_cases h24:x.op=24
    ·rw[h24] at kI
     by_cases hend:(dn.length:Int)+1=p.length
     ·have hwp:IntKind.i64.wrap (p.length:Int)=p.length:=wI (by omega) (by omega)
      have he:=hbad2 (by
       rw[KA,h24,List.getElem?_eq_none (by omega)];rfl)
      repeat' (first
      |with_reducible (first|refine ai ?_|refine ar ?_|refine au rfl ?_|refine ax rfl ?_|refine b6 ?_|refine hr1 _ ?_|refine aj (id:=2) (λQ2 hn2 hx2 hr2 ho2=>?_)|refine hr2 _ ?_|refine hrL1 _ ?_)
      |(with_reducible (first|(refine ah (λK hK=>?_);(first|refine LW ?_|refine Mj ?_|refine Mk ?_|refine M4 ?_|refine Nv ?_))|refine hqr _ ?_);(try simp only[true_implies,false_implies,not_true_eq_false,b9,if_true,if_false,Nat.reduceEqDiff,ap,aJ,dg,qO,qP,aq,Nat.reduceAdd,Nat.zero_add,cb,List.drop_zero,eX,kM,cw,List.getElem?_cons_zero,eN,gT,fc,nL,qz,qy,lw,bI,Option.map_some,ic,gf,Bool.not_true,lenS,dU,cK,bg,p6,lj,ay,List.take_zero,List.take_succ_cons,List.drop_succ_cons,List.drop_nil,List.nil_append,List.cons_append,List.append_nil,List.length_cons,List.length_nil,and_self,and_true,Nat.le_refl,gi,if_false,if_true,r18,aQ,ak,aD,Option.bind_some,am,bz,bW,Prod.mk.injEq,aP,hlt,hix,inC,d9,hsetL,kH1,kI,he,h24,hw,hwp,hend,eq_self]))
      |(revert hK;intro hK;(with_reducible refine hK _ ?_;clear hK K)))
      all_goals first|exact⟨_,_,rfl,rfl⟩|exact⟨_,_,rfl⟩
     ·obtain⟨y,hy⟩:∃y,p[dn.length+1]?=some y:=⟨_,List.getElem?_eq_getElem (by omega)⟩
      have hiy:=hY (k:=.i64) (i:=(dn.length:Int)+1) inE.len (by omega:0<6) (by omega) (by rw[show((dn.length:Int)+1).toNat=dn.length+1 by omega];exact hy);have hty:Ni p dn.length x=zIn y:=by rw[KA,h24,hy];rfl
      have hnq:=λa b=>PX y (a:=a) (b:=b)
      cases hz:zIn y with
      |false=>
       rw[hz] at hnq;have he:=hbad2 (by rw[hty,hz];rfl)
       repeat' (first
       |with_reducible (first|refine ai ?_|refine ar ?_|refine au rfl ?_|refine ax rfl ?_|refine b6 ?_|refine hr1 _ ?_|refine aj (id:=2) (λQ2 hn2 hx2 hr2 ho2=>?_)|refine hr2 _ ?_|refine hrL1 _ ?_)
       |(with_reducible (first|(refine ah (λK hK=>?_);(first|refine LW ?_|refine Mj ?_|refine Mk ?_|refine M4 ?_|refine Nv ?_))|refine hqr _ ?_);(try simp only[true_implies,false_implies,not_true_eq_false,not_false_eq_true,b9,if_true,if_false,Nat.reduceEqDiff,ap,aJ,dg,qO,qP,aq,Nat.reduceAdd,Nat.zero_add,cb,List.drop_zero,eX,kM,cw,List.getElem?_cons_zero,eN,gT,fc,nL,qz,qy,lw,bI,Option.map_some,ic,gf,Bool.not_true,Bool.not_false,lenS,dU,cK,bg,p6,lj,ay,List.take_zero,List.take_succ_cons,List.drop_succ_cons,List.drop_nil,List.nil_append,List.cons_append,List.append_nil,List.length_cons,List.length_nil,and_self,and_true,true_and,Nat.le_refl,gi,if_false,if_true,r18,aQ,ak,aD,Option.bind_some,am,bz,bW,Prod.mk.injEq,aP,hlt,hix,inC,d9,hsetL,kH1,kI,he,h24,hw,hend,hiy,hnq]))
       |(revert hK;intro hK;(with_reducible refine hK _ ?_;clear hK K)))
       all_goals first|exact⟨_,_,rfl,rfl⟩|exact⟨_,_,rfl⟩
      |true=>
       rw[hz] at hnq
       repeat' (first
       |with_reducible (first|refine ai ?_|refine ar ?_|refine au rfl ?_|refine ax rfl ?_|refine aj (id:=2) (λQ2 hn2 hx2 hr2 ho2=>?_))
       |(with_reducible (refine ah (λK hK=>?_);(first|refine LW ?_|refine Mj ?_|refine Mk ?_|refine M4 ?_|refine Qq ?_));(try simp only[true_implies,false_implies,not_true_eq_false,not_false_eq_true,b9,if_true,if_false,Nat.reduceEqDiff,ap,aJ,dg,qO,qP,aq,Nat.reduceAdd,Nat.zero_add,cb,List.drop_zero,eX,kM,cw,List.getElem?_cons_zero,eN,gT,fc,nL,qz,qy,lw,bI,Option.map_some,ic,gf,Bool.not_true,lenS,dU,cK,bg,p6,lj,ay,List.take_zero,List.take_succ_cons,List.drop_succ_cons,List.drop_nil,List.nil_append,List.cons_append,List.append_nil,List.length_cons,List.length_nil,and_self,and_true,true_and,Nat.le_refl,gi,if_false,if_true,aP,hlt,hix,inC,d9,hsetL,kH1,kI,h24,hw,hend,hiy,hnq]))
       |(revert hK;intro hK;(with_reducible refine hK _ ?_;clear hK K)))
       refine k20 (by omega) rfl λv m' hO hH' _=>?_;simp only[hO.len,lenS,Option.map_some,aJ];refine hK _ ?_;clear hK K;obtain⟨L',H'⟩:=m';simp only at hH';subst hH'
       repeat' (first
       |with_reducible refine bl (id:=3) (λQ3 hn3 hx3 hr3 ho3=>?_))
       refine hin (by rw[hty,hz]) _ _ _ hO ?_ ?_
       ·intro L'' v' hn
        repeat' (first
        |with_reducible (first|refine hn2 _ ?_|refine hx3 _ ?_)
        |(with_reducible (refine aI (λK hK=>?_);refine Nx ?_);(try simp only[b9,if_true,if_false,Nat.reduceEqDiff,dg,cK,if_false,if_true,hw]))
        |(revert hK;intro hK;(with_reducible refine hK _ ?_;clear hK K)))
        exact hn _
       ·intro L'' he
        repeat' (first
        |with_reducible (first|refine hr1 _ ?_|refine hr2 _ ?_|refine hr3 _ ?_|refine hrL1 _ ?_)
        |(with_reducible refine hqr _ ?_;(try simp only[b9,if_true,if_false,Nat.reduceEqDiff,aJ,Option.map_some,if_false,if_true,r18,aQ,ak,aD,Option.bind_some,am,bz,bW,Prod.mk.injEq,he])))
        exact⟨_,_,rfl,rfl⟩
    ·repeat' (first
     |with_reducible (first|refine ai ?_|refine ar ?_|refine au rfl ?_|refine ax rfl ?_|refine aj (id:=2) (λQ2 hn2 hx2 hr2 ho2=>?_))
     |(with_reducible (refine ah (λK hK=>?_);(first|refine LW ?_|refine Mj ?_|refine Mk ?_|refine M4 ?_|refine Qq ?_));(try simp only[true_implies,false_implies,not_true_eq_false,not_false_eq_true,b9,if_true,if_false,Nat.reduceEqDiff,ap,aJ,dg,qO,qP,aq,Nat.reduceAdd,Nat.zero_add,cb,List.drop_zero,eX,kM,cw,List.getElem?_cons_zero,eN,gT,fc,nL,qz,qy,lw,bI,Option.map_some,ic,gf,Bool.not_true,lenS,dU,cK,bg,p6,lj,ay,List.take_zero,List.take_succ_cons,List.drop_succ_cons,List.drop_nil,List.nil_append,List.cons_append,List.append_nil,List.length_cons,List.length_nil,and_self,and_true,true_and,Nat.le_refl,gi,if_false,if_true,aP,hlt,hix,inC,d9,hsetL,kH1,kI,h24,hw]))
     |(revert hK;intro hK;(with_reducible refine hK _ ?_;clear hK K)))
     refine k20 (by omega) rfl λv m' hO hH' _=>?_;simp only[hO.len,lenS,Option.map_some,aJ];refine hK _ ?_;clear hK K;obtain⟨L',H'⟩:=m';simp only at hH';subst hH'
     repeat' (first
     |with_reducible refine bl (id:=3) (λQ3 hn3 hx3 hr3 ho3=>?_))
     refine hin (by rw[KA,decide_eq_true h24];rfl) _ _ _ hO ?_ ?_
     ·intro L'' v' hn
      repeat' (first
      |with_reducible (first|refine hn2 _ ?_|refine hx3 _ ?_)
      |(with_reducible (refine aI (λK hK=>?_);refine Nx ?_);(try simp only[b9,if_true,if_false,Nat.reduceEqDiff,dg,cK,if_false,if_true,hw]))
      |(revert hK;intro hK;(with_reducible refine hK _ ?_;clear hK K)))
      exact hn _
     ·intro L'' he
      repeat' (first
      |with_reducible (first|refine hr1 _ ?_|refine hr2 _ ?_|refine hr3 _ ?_|refine hrL1 _ ?_)
      |(with_reducible refine hqr _ ?_;(try simp only[b9,if_true,if_false,Nat.reduceEqDiff,aJ,Option.map_some,if_false,if_true,r18,aQ,ak,aD,Option.bind_some,am,bz,bW,Prod.mk.injEq,he])))
      exact⟨_,_,rfl,rfl⟩
end Go.Cm
