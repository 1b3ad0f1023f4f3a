import Derived.Test.YtijcpefcfcbcnaaIzDr
set_option linter.unusedSimpArgs false
set_option linter.unusedVariables false
namespace Go.Cm
open Go.Proofs Go.Ir
theorem x46 (f:Cd) (hf:f.parts.length≤1048576):∃ r,(∃ H',r=(eA dV 1 (aE f),H'))∧FF 46 [.agg (aZ f)] []=some r:=by
 refine bA rfl Try.func46 s46 (Nat.le_of_ble_eq_true rfl) (fun Q hqr hqn=>?_)
 rw[bf (show An.pure 46=true from rfl) (by simp only[cans,aG,az,aC,aH,codeE.can])]
 simp only[aO,Nat.reduceAdd,c46]
 repeat' (first
 |with_reducible (first|refine ai ?_|refine aj (id:=0) (fun Q0 hn0 hx0 hr0 ho0=>?_))
 |(with_reducible (refine ah (fun K hK=>?_);(first|refine t46r0 ?_|refine t46r1 ?_|refine t46r2 ?_));(try simp only[SS,Nat.reduceEqDiff,ap]))
 |(revert hK;intro hK;(with_reducible refine hK _ ?_;clear hK K)))
 refine aU (fun n s=>∃ (d t:List Pt) (v:CV) (g:Nat) (L:List (Nat×HO)),f.parts=d++t∧n=t.length∧s=⟨[(1,.ptr (.l 16) g 0),(3,v),(4,.int .i64 d.length)],⟨L,[]⟩⟩∧aK L 16=some (.var g (aZ f) 0)∧OwnE dV 1 ⟨L,[]⟩ 704 v (d.map fun p=>cE p.fin)) _
  ⟨[],f.parts,.nil,_,_,rfl,rfl,rfl,by simp[bi,aq],.nil⟩ ?_
 rintro n s ⟨d,t,v,g,L,h2,rfl,rfl,hL,hO⟩ QL0 hnL0 hxL0 hrL0
 have hlen:=congrArg List.length h2
 simp only[List.length_append] at hlen
 simp only[c46l0]
 have hfld:∀ (L':List (Nat×HO)),aK L' 16=some (.var g (aZ f) 0)→ld1 ⟨L',[]⟩ (.ptr (.l 16) g 0)=some (sl ptC f.parts):=fun L' h=>by rw[eX];simp only[h,cw,aZ];rfl
 have h0:=hfld L hL
 cases t with
 |nil=>
  simp only[List.length_nil] at hlen
  rw[List.append_nil] at h2
  have hl:¬ (d.length:Int)<f.parts.length:=by omega
  repeat' (first
  |with_reducible (first|refine ai ?_|refine ax rfl ?_|refine aN ?_|refine aF ?_|refine hx0 _ ?_|refine hxL0 _ _ ?_)
  |(with_reducible (first|(refine ah (fun K hK=>?_);(first|refine ww ?_|refine t46r12 ?_))|refine hqr _ ?_);(try simp only[SS,Nat.reduceEqDiff,lenS,cD,r46,aQ,ak,aD,am,h0,aP,hl]))
  |(revert hK;intro hK;(with_reducible refine hK _ ?_;clear hK K)))
  have:(d.map fun p=>cE p.fin)=aE f:=by rw[aE,h2]
  rw[this] at hO
  refine hO.ret dE fun m' hm'=>?_
  simp only[gx,Option.map_some,aJ]
  first|exact⟨_,rfl,rfl⟩|exact⟨_,trivial,rfl⟩
 |cons p t=>
  simp only[List.length_cons] at hlen
  have hl:(d.length:Int)<f.parts.length:=by omega
  have hw:IntKind.i64.wrap ((d.length:Int)+1)=d.length+1:=wI (by omega) (by omega)
  have fin:∀ m' v1 j,OwnE aX 1 m' j v1 (cE p.fin)→j≠688→j≠16→j≠704→m'.H=[]→aK m'.L 16=aK L 16→aK m'.L 704=aK L 704 →
    ∀ K:CV×Mem→Prop,(∀ v' L',QL0 .normal ⟨[(1,.ptr (.l 16) g 0),(3,v'),(4,.int .i64 (d.length+1))],⟨L',[]⟩⟩→K (v',⟨L',[]⟩))→Obt (cd false 688 1 1 [.nil] [(0,1,v1)] m') fun a0=>Obt (ej false 704 1 24 v a0.1 a0.2) K:=by
   intro m' v1 j hO1 hj1 hj2 hj3 hH hl1 hl2 K hK
   refine rB (s:=688) hO1.seen intE.len (fun m2 q1 q2 q3 q4=>?_) hj1
   have hO2:OwnE dV 1 m2 704 v (d.map fun p=>cE p.fin):=hO.keep (by rw[q3 704 (by decide) (Ne.symm hj3),hl2])
   refine hO2.app (ys:=[cE p.fin]) dE (by simp only[cU,q1,dz];rfl) rfl (by decide) (by simp;omega) fun v' m3 hO' hH' hf'=>?_
   obtain⟨L3,H3⟩:=m3
   simp only[q2,hH] at hH'
   subst hH'
   refine hK v' L3 (hnL0 t.length _ (by simp) ⟨d++[p],t,v',g,L3,by simp[h2],rfl,by simp,?_,by simpa using hO'⟩)
   rw[hf' 16 (by decide),q3 16 (by decide) (Ne.symm hj2),hl1,hL]
  have s1:cN 8 1=true:=rfl
  have s2:cN 8 2=true:=rfl
  by_cases h1:p.fin.op=1
  ·have hnx:cE p.fin=[p.fin.to]:=by simp[cE,h1]
   rw[hnx] at fin
   repeat' (first
   |with_reducible (first|refine ai ?_|refine ar ?_|refine au rfl ?_|refine ax rfl ?_|refine aj (id:=1) (fun Q1 hn1 hx1 hr1 ho1=>?_))
   |(with_reducible ((first|refine ah (fun K hK=>?_)|refine aI (fun K hK=>?_));(first|refine ww ?_|refine EW ?_|refine EX ?_|refine EY ?_|refine t46r8 ?_|refine EZ ?_|refine ut ?_));(try simp only[SS,Nat.reduceEqDiff,ap,dj,ef,bv,nN,aR,aS,Nat.reduceMul,Nat.reduceAdd,bL,lenS,iD,eG,cU,dz,ay,gG,s1,s2,h0,aP,hl,aM ptE.len (by omega) h2,iR,ptC,h1,Nat.reduceDiv]))
   |(revert hK;intro hK;(first|refine And.intro ?_ ?_|intro _|omega|(with_reducible refine hK _ ?_;clear hK K))))
   refine fin _ _ 512 (.inr ⟨by simp,_,rfl,by rw[ba,if_pos rfl];rfl⟩) (by decide) (by decide) (by decide) rfl (by simp[bi,aq]) (by simp[bi,aq]) _ fun v' L' hq=>?_
   refine hK _ ?_
   clear hK K
   repeat' (first
   |with_reducible refine hn1 _ ?_
   |(with_reducible (refine aI (fun K hK=>?_);refine EV ?_);(try simp only[SS,Nat.reduceEqDiff,hw]))
   |(revert hK;intro hK;(with_reducible refine hK _ ?_;clear hK K)))
   exact hq
  by_cases h2':p.fin.op=2
  ·have hnx:cE p.fin=[p.fin.to,p.fin.els]:=by simp[cE,h2']
   rw[hnx] at fin
   repeat' (first
   |with_reducible (first|refine ai ?_|refine ar ?_|refine au rfl ?_|refine aj (id:=1) (fun Q1 hn1 hx1 hr1 ho1=>?_))
   |(with_reducible ((first|refine ah (fun K hK=>?_)|refine aI (fun K hK=>?_));(first|refine ww ?_|refine EW ?_|refine EX ?_|refine EY ?_|refine t46r8 ?_|refine EZ ?_|refine t46r10 ?_|refine ut ?_));(try simp only[SS,Nat.reduceEqDiff,ap,dj,ef,bv,nN,aR,aS,Nat.reduceMul,Nat.reduceAdd,bL,lenS,fP,iD,ea,eG,cU,dz,ay,Nat.zero_le,Nat.sub_self,gG,s1,s2,h0,aP,hl,aM ptE.len (by omega) h2,iR,ptC,h2',Nat.reduceDiv]))
   |(revert hK;intro hK;(first|refine And.intro ?_ ?_|intro _|omega|(with_reducible refine hK _ ?_;clear hK K))))
   refine fin _ _ 512 (.inr ⟨by simp,_,rfl,by rw[ba,if_pos rfl];rfl⟩) (by decide) (by decide) (by decide) rfl (by simp[bi,aq]) (by simp[bi,aq]) _ fun v' L' hq=>?_
   refine hK _ ?_
   clear hK K
   repeat' (first
   |with_reducible refine hn1 _ ?_
   |(with_reducible (refine aI (fun K hK=>?_);refine EV ?_);(try simp only[SS,Nat.reduceEqDiff,hw]))
   |(revert hK;intro hK;(with_reducible refine hK _ ?_;clear hK K)))
   exact hq
  ·have hnx:cE p.fin=[]:=by simp[cE,h1,h2']
   rw[hnx] at fin
   repeat' (first
   |with_reducible (first|refine ai ?_|refine ar ?_|refine au rfl ?_|refine ax rfl ?_|refine aj (id:=1) (fun Q1 hn1 hx1 hr1 ho1=>?_))
   |(with_reducible ((first|refine ah (fun K hK=>?_)|refine aI (fun K hK=>?_));(first|refine ww ?_|refine EW ?_|refine EX ?_|refine EY ?_|refine EZ ?_|refine ut ?_));(try simp only[SS,Nat.reduceEqDiff,ap,aS,Nat.reduceAdd,bL,lenS,ay,gG,s1,s2,h0,aP,hl,aM ptE.len (by omega) h2,iR,ptC,h1,h2',Nat.reduceDiv]))
   |(revert hK;intro hK;(with_reducible refine hK _ ?_;clear hK K)))
   refine fin _ _ 512 .nil (by decide) (by decide) (by decide) rfl (by simp[bi,aq]) (by simp[bi,aq]) _ fun v' L' hq=>?_
   refine hK _ ?_
   clear hK K
   repeat' (first
   |with_reducible refine hn1 _ ?_
   |(with_reducible (refine aI (fun K hK=>?_);refine EV ?_);(try simp only[SS,Nat.reduceEqDiff,hw]))
   |(revert hK;intro hK;(with_reducible refine hK _ ?_;clear hK K)))
   exact hq
end Go.Cm
