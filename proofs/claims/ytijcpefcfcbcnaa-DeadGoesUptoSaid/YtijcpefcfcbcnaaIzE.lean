import Derived.Test.YtijcpefcfcbcnaaIcA
import Derived.Test.YtijcpefcfcbcnaaIzH
set_option linter.unusedSimpArgs false
set_option linter.unusedVariables false
namespace Go.Cm
open Go.Proofs Go.Ir
theorem x46 (f:Cd) (hf:f.parts.length≤1048576):∃r,(∃H',r=(eA dV 1 (aE f),H'))∧FF 46 [.agg (aZ f)] []=some r:=by
 refine bA rfl Try.func46 s46 (Nat.le_of_ble_eq_true rfl) (λQ hqr hqn=>?_);rw[bf (show An.pure 46=true from rfl) (by simp only[cans,aG,az,aC,aH,codeE.can])];simp only[aO,Nat.reduceAdd,c46]
 repeat' (first
 |with_reducible (first|refine ai ?_|refine aj (id:=0) (λQ0 hn0 hx0 hr0 ho0=>?_))
 |(with_reducible (refine ah (λK hK=>?_);(first|refine t46r0 ?_|refine t46r1 ?_|refine t46r2 ?_));(try simp only[SS,Nat.reduceEqDiff,ap]))
 |(with_reducible refine hK _ ?_;clear hK K))
 refine aU (λn s=>∃(d t:List Pt) (v:CV) (g:Nat) (L:List (Nat×HO)),f.parts=d++t∧n=t.length∧s=⟨[(1,.ptr (.l 16) g 0),(3,v),(4,.int .i64 d.length)],⟨L,[]⟩⟩∧aK L 16=some (.var g (aZ f) 0)∧OwnE dV 1 ⟨L,[]⟩ 704 v (d.map λp=>cE p.fin)) _
  ⟨[],f.parts,.nil,_,_,rfl,rfl,rfl,by simp[bi,aq],.nil⟩ ?_
 rintro n s ⟨d,t,v,g,L,h2,rfl,rfl,hL,hO⟩ QL0 hnL0 hxL0 hrL0;have hlen:=congrArg List.length h2;simp only[List.length_append] at hlen;simp only[c46l0];have hfld:∀(L':List (Nat×HO)),aK L' 16=some (.var g (aZ f) 0)→ld1 ⟨L',[]⟩ (.ptr (.l 16) g 0)=some (sl ptC f.parts):=λL' h=>by rw[eX];simp only[h,cw,aZ];rfl
 have h0:=hfld L hL
 cases t with
 |nil=>
  simp only[List.length_nil] at hlen;rw[List.append_nil] at h2;have hl:¬(d.length:Int)<f.parts.length:=by omega
  repeat' (first
  |with_reducible (first|refine ai ?_|refine ax rfl ?_|refine aN ?_|refine aF ?_|refine hx0 _ ?_|refine hxL0 _ _ ?_)
  |(with_reducible (first|(refine ah (λK hK=>?_);(first|refine ww ?_|refine t46r12 ?_))|refine hqr _ ?_);(try simp only[SS,Nat.reduceEqDiff,lenS,cD,r46,aQ,ak,aD,am,h0,aP,hl]))
  |(with_reducible refine hK _ ?_;clear hK K))
  have:(d.map λp=>cE p.fin)=aE f:=by rw[aE,h2]
  rw[this] at hO;refine hO.ret dE λm' hm'=>?_;simp only[gx,Option.map_some,aJ]
  first|exact⟨_,rfl,rfl⟩|exact⟨_,trivial,rfl⟩
 |cons p t=>
  simp only[List.length_cons] at hlen;have hl:(d.length:Int)<f.parts.length:=by omega
  have hw:IntKind.i64.wrap ((d.length:Int)+1)=d.length+1:=wI (by omega) (by omega);have fin:∀m' v1 j,OwnE aX 1 m' j v1 (cE p.fin)→j≠688→j≠16→j≠704→m'.H=[]→aK m'.L 16=aK L 16→aK m'.L 704=aK L 704 →
    ∀K:CV×Mem→Prop,(∀v' L',QL0 .normal ⟨[(1,.ptr (.l 16) g 0),(3,v'),(4,.int .i64 (d.length+1))],⟨L',[]⟩⟩→K (v',⟨L',[]⟩))→Obt (be false 688 1 1 [.nil] [(0,1,v1)] m') λa0=>Obt (ej false 704 1 24 v a0.1 a0.2) K:=by
   intro m' v1 j hO1 hj1 hj2 hj3 hH hl1 hl2 K hK;refine rB (s:=688) hO1.seen intE.len (λm2 q1 q2 q3 q4=>?_) hj1;have hO2:OwnE dV 1 m2 704 v (d.map λp=>cE p.fin):=hO.keep (by rw[q3 704 (by decide) (Ne.symm hj3),hl2]);refine hO2.app (ys:=[cE p.fin]) dE (by simp only[cU,q1,dz];rfl) rfl (by decide) (by simp;omega) λv' m3 hO' hH' hf'=>?_;obtain⟨L3,H3⟩:=m3;simp only[q2,hH] at hH';subst hH';refine hK v' L3 (hnL0 t.length _ (by simp) ⟨d++[p],t,v',g,L3,by simp[h2],rfl,by simp,?_,by simpa using hO'⟩);rw[hf' 16 (by decide),q3 16 (by decide) (Ne.symm hj2),hl1,hL]
  have s1:cN 8 1=true:=rfl;have s2:cN 8 2=true:=rfl
  by_cases h1:p.fin.op=1
  ·have hnx:cE p.fin=[p.fin.to]:=by simp[cE,h1]
   rw[hnx] at fin
   repeat' (first
   |with_reducible (first|refine ai ?_|refine ar ?_|refine au rfl ?_|refine ax rfl ?_|refine aj (id:=1) (λQ1 hn1 hx1 hr1 ho1=>?_))
   |(with_reducible ((first|refine ah (λK hK=>?_)|refine aI (λK hK=>?_));(first|refine ww ?_|refine EW ?_|refine EX ?_|refine EY ?_|refine t46r8 ?_|refine EZ ?_|refine ut ?_));(try simp only[SS,Nat.reduceEqDiff,ap,dj,ef,bv,nN,aR,aS,Nat.reduceMul,Nat.reduceAdd,bL,lenS,iD,eG,cU,dz,ay,gG,s1,s2,h0,aP,hl,aM ptE.len (by omega) h2,iR,ptC,h1,Nat.reduceDiv]))
   |(revert hK;intro hK;(first|refine And.intro ?_ ?_|intro _|omega|(with_reducible refine hK _ ?_;clear hK K))))
   refine fin _ _ 512 (.inr ⟨by simp,_,rfl,by rw[ba,if_pos rfl];rfl⟩) (by decide) (by decide) (by decide) rfl (by simp[bi,aq]) (by simp[bi,aq]) _ λv' L' hq=>?_;refine hK _ ?_;clear hK K
   repeat' (first
   |with_reducible refine hn1 _ ?_
   |(with_reducible (refine aI (λK hK=>?_);refine EV ?_);(try simp only[SS,Nat.reduceEqDiff,hw]))
   |(with_reducible refine hK _ ?_;clear hK K))
   exact hq
  by_cases h2':p.fin.op=2
  ·have hnx:cE p.fin=[p.fin.to,p.fin.els]:=by simp[cE,h2']
   rw[hnx] at fin
   repeat' (first
   |with_reducible (first|refine ai ?_|refine ar ?_|refine au rfl ?_|refine aj (id:=1) (λQ1 hn1 hx1 hr1 ho1=>?_))
   |(with_reducible ((first|refine ah (λK hK=>?_)|refine aI (λK hK=>?_));(first|refine ww ?_|refine EW ?_|refine EX ?_|refine EY ?_|refine t46r8 ?_|refine EZ ?_|refine t46r10 ?_|refine ut ?_));(try simp only[SS,Nat.reduceEqDiff,ap,dj,ef,bv,nN,aR,aS,Nat.reduceMul,Nat.reduceAdd,bL,lenS,fP,iD,ea,eG,cU,dz,ay,Nat.zero_le,Nat.sub_self,gG,s1,s2,h0,aP,hl,aM ptE.len (by omega) h2,iR,ptC,h2',Nat.reduceDiv]))
   |(revert hK;intro hK;(first|refine And.intro ?_ ?_|intro _|omega|(with_reducible refine hK _ ?_;clear hK K))))
   refine fin _ _ 512 (.inr ⟨by simp,_,rfl,by rw[ba,if_pos rfl];rfl⟩) (by decide) (by decide) (by decide) rfl (by simp[bi,aq]) (by simp[bi,aq]) _ λv' L' hq=>?_;refine hK _ ?_;clear hK K
   repeat' (first
   |with_reducible refine hn1 _ ?_
   |(with_reducible (refine aI (λK hK=>?_);refine EV ?_);(try simp only[SS,Nat.reduceEqDiff,hw]))
   |(with_reducible refine hK _ ?_;clear hK K))
   exact hq
  ·have hnx:cE p.fin=[]:=by simp[cE,h1,h2']
   rw[hnx] at fin
   repeat' (first
   |with_reducible (first|refine ai ?_|refine ar ?_|refine au rfl ?_|refine ax rfl ?_|refine aj (id:=1) (λQ1 hn1 hx1 hr1 ho1=>?_))
   |(with_reducible ((first|refine ah (λK hK=>?_)|refine aI (λK hK=>?_));(first|refine ww ?_|refine EW ?_|refine EX ?_|refine EY ?_|refine EZ ?_|refine ut ?_));(try simp only[SS,Nat.reduceEqDiff,ap,aS,Nat.reduceAdd,bL,lenS,ay,gG,s1,s2,h0,aP,hl,aM ptE.len (by omega) h2,iR,ptC,h1,h2',Nat.reduceDiv]))
   |(with_reducible refine hK _ ?_;clear hK K))
   refine fin _ _ 512 .nil (by decide) (by decide) (by decide) rfl (by simp[bi,aq]) (by simp[bi,aq]) _ λv' L' hq=>?_;refine hK _ ?_;clear hK K
   repeat' (first
   |with_reducible refine hn1 _ ?_
   |(with_reducible (refine aI (λK hK=>?_);refine EV ?_);(try simp only[SS,Nat.reduceEqDiff,hw]))
   |(with_reducible refine hK _ ?_;clear hK K))
   exact hq
end Go.Cm
namespace Go.Cm
open Go.Proofs Go.Ir Go.Gr
theorem FX {f:Cd}(h:f.parts.length≤1048576):um (aE f) []≤17179869184:=by
 have key:∀(l:List Nat) (F:Nat→Nat),(∀i,F i≤2)→(l.map F).sum≤2*l.length:=by
  intro l F hF
  induction l with
  |nil=>simp
  |cons a l ih=>have:=hF a;simp only[List.map_cons,List.sum_cons,List.length_cons];omega
 have:=key (List.range (aE f).length) (λ(i:Nat)=>if (i:Int)∈([]:List Int) then 0 else ((aE f).getD i []).length) λi=>by
  have:=fM f i;simpa using this
 have h2:=fb f;rw[List.length_range] at this;unfold um;omega
theorem DO {l:List Int}:can (rowC aX l)=sl aX l:=by
 cases l with
 |nil=>rfl
 |cons a l=>exact intE.can_sl _
theorem D9 {l:List Int}:noG (rowC aX l)=true:=by
 cases l with
 |nil=>rfl
 |cons a l=>exact noG_sl fY _
theorem k44 (a b:List Int) (hal:a.length≤17592186044416) {v:CV}{m:Mem}{j:Nat}(hv:OwnV aX 1 m j v a) {fid:FuncId}{d:Tmp} :
  aB An FF fid (some d) 44 [v,sl aX b] m=some (.bool (decide (a=b)),m):=by
 obtain⟨m1,h1,_⟩:=hv.esc1 dB;have hx:bp m [v,sl aX b]=some ([rowC aX a,sl aX b],m1):=jI (post:=[sl aX b]) rfl h1;rw[na (x44 a b hal) rfl hx (by simp only[cans,DO,intE.can_sl]) (by simp only[noGs,D9,intE.noG_sl,Bool.and_self]) rfl];rfl
set_option maxHeartbeats 4000000 in
theorem x47 (f:Cd) (hf:Sized f) (hf1:f.parts≠[]) (h8:f.parts.length≤8192) :
  ∃r,(∃H',r=(CV.bool (bY f),H'))∧FF 47 [.agg (aZ f),fo (aE f)] []=some r:=by
 have hSm:=gu hf;have hpl:=hf.parts;have hgl:(aE f).length=f.parts.length:=fb f;have hl:(bO (aE f)).length=f.parts.length:=by simp[bO,hgl]
 have hpos:0<f.parts.length:=List.length_pos_iff.2 hf1;have hgv:=IsRows.of (aE f);have hcv:=fH (aE f);generalize fo (aE f)=gv at hgv hcv ⊢;have hk1:∀m,aB An FF 47 (some 89) 72 [gv] m=some (.ref (.l (16*89)) (bj m.L (16*89)) 0 f.parts.length,bi m (16*89) (.arr (bj m.L (16*89)) 1 ((bO (aE f)).flatMap bS) 0)):=λm=>by
  obtain⟨_,⟨H',rfl⟩,h⟩:=x72 (aE f) hSm (FX hpl) _ hgv;rw[el h rfl (by simp only[List.all_cons,List.all_nil,dQ hgv.esc,Bool.and_self]) (by simp only[noGs,hgv.noG,Bool.and_self]) (iT jk _),fO (show(An.glob 47).contains 89=false from rfl),hl]
 have hsetL:∀(L:List (Nat×HO)) (H:List HO) j o,bi ⟨L,H⟩ j o=⟨cF L j o,H⟩:=λ_ _ _ _=>rfl;refine bA rfl Try.func47 s47 (Nat.le_of_ble_eq_true rfl) (λQ hqr hqn=>?_);rw[bf (show An.pure 47=true from rfl) (by simp only[cans,aG,az,aC,aH,codeE.can,hcv])];simp only[aO,Nat.reduceAdd,c47]
 repeat' (first
 |with_reducible (first|refine ai ?_|refine aj (id:=0) (λQ0 hn0 hx0 hr0 ho0=>?_))
 |(with_reducible (refine ah (λK hK=>?_);(first|refine t47r0 ?_|refine t47r1 ?_|refine t47r2 ?_));(try simp only[SS,Nat.reduceEqDiff,ap,lenS,aZ,aP]))
 |(with_reducible refine hK _ ?_;clear hK K))
 refine aU (λk s=>∃(d t:List Pt) (g:Nat) (L:List (Nat×HO)),f.parts=d++t∧k=t.length∧(∀p∈d,ip f.parts.length p.fin=true)∧aK L 32=some (.var g (aZ f) 0) ∧
  s=⟨[(1,gv),(2,.ptr (.l 32) g 0),(5,.int .i64 f.parts.length),(6,.int .i64 d.length)],⟨L,[]⟩⟩) _ ⟨[],f.parts,_,_,rfl,rfl,by simp,by simp[bi,aq,aZ],rfl⟩ ?_
 rintro k s ⟨d,t,g,L,h3,rfl,hd,hL,rfl⟩ QL1 hnL1 hxL1 hrL1;have hlen:=congrArg List.length h3;simp only[List.length_append] at hlen;simp only[c47l1]
 cases t with
 |nil=>
  simp only[List.length_nil] at hlen;rw[List.append_nil] at h3;rw[←h3] at hd
  repeat' (first
  |with_reducible (first|refine ai ?_|refine ax rfl ?_|refine aN ?_|refine hx0 _ ?_|refine aj (id:=4) (λQ4 hn4 hx4 hr4 ho4=>?_)|refine hxL1 _ _ ?_)
  |(with_reducible (refine ah (λK hK=>?_);(first|refine p8 ?_|refine t47r14 ?_|refine t47r15 ?_));(try simp only[SS,Nat.reduceEqDiff,Nat.reduceMul,hk1]))
  |(revert hK;intro hK;(first|refine And.intro ?_ ?_|intro _|omega|(with_reducible refine hK _ ?_;clear hK K))))
  refine aU (λk s=>∃(d2 t2:List Pt) (gn:Nat) (L:List (Nat×HO)),f.parts=d2++t2∧k=t2.length∧(∀(i:Nat) (p:Pt),d2[i]?=some p→((i:Int)∈ord (aE f)∧bP (aE f) i f.parts.length=p.pred)) ∧
   aK L 32=some (.var g (aZ f) 0)∧aK L 1424=some (.arr gn 1 ((bO (aE f)).flatMap bS) 0) ∧
   s=⟨[(1,gv),(2,.ptr (.l 32) g 0),(5,.int .i64 f.parts.length),(11,.ref (.l 1424) gn 0 f.parts.length),(12,.int .i64 d2.length)],⟨L,[]⟩⟩) _ ⟨[],f.parts,_,_,rfl,rfl,λi p h=>by simp at h,by simp[bi,aq,hL],by simp[bi,aq],rfl⟩ ?_
  rintro k s ⟨d2,t2,gn,L2,h4,rfl,hd2,hL32,hLr,rfl⟩ QL4 hnL4 hxL4 hrL4;have hlen2:=congrArg List.length h4;simp only[List.length_append] at hlen2;simp only[c47l4]
  cases t2 with
  |nil=>
   simp only[List.length_nil] at hlen2;rw[List.append_nil] at h4;rw[←h4] at hd2;obtain⟨p,ps,h5⟩:∃p ps,f.parts=p::ps:=by
    cases h:f.parts with
    |nil=>exact absurd h hf1
    |cons p ps=>exact⟨p,ps,rfl⟩
   have h5':f.parts=[]++p::ps:=h5;have hix:=aM (k:=.i64) ptE.len (by omega) h5';simp only[List.length_nil,Int.natCast_zero] at hix;have hfin:bY f=decide ((p.pred.length:Int)=0):=by
    by_cases hp:(p.pred.length:Int)=0
    ·rw[decide_eq_true hp]
     refine wL hd (λi q hq=>⟨hd2 i q hq,λhi=>?_⟩) hf1;subst hi;rw[h5] at hq;simp only[List.getElem?_cons_zero,Option.some.injEq] at hq;subst hq;exact List.eq_nil_of_length_eq_zero (by omega)
    ·rw[decide_eq_false hp]
     exact oS (p:=p) (by rw[h5];rfl) (by intro h;rw[h] at hp;simp at hp)
   repeat' (first
   |with_reducible (first|refine ai ?_|refine ax rfl ?_|refine aN ?_|refine aF ?_|refine hx4 _ ?_|refine hxL4 _ _ ?_)
   |(with_reducible (first|(refine ah (λK hK=>?_);(first|refine E2 ?_|refine t47r29 ?_))|refine hqr _ ?_);(try simp only[SS,Nat.reduceEqDiff,bL,dw,lenS,r47,aQ,ak,aD,am,hL32,aZ,hix,ptC,aP]))
   |(revert hK;intro hK;(first|refine And.intro ?_ ?_|intro _|omega|(with_reducible refine hK _ ?_;clear hK K))))
   all_goals rw[hfin]
   ·exact⟨_,(decide_eq_true (by omega)).symm,rfl⟩
   ·exact⟨_,(decide_eq_false (by omega)).symm,rfl⟩
  |cons p t2=>
   simp only[List.length_cons] at hlen2;have hpi:f.parts[d2.length]?=some p:=by rw[h4];simp
   have hwd:IntKind.i64.wrap ((d2.length:Int)+1)=d2.length+1:=wI (by omega) (by omega);have hlt4:(d2.length:Int)<f.parts.length:=by omega
   repeat' (first
   |with_reducible (first|refine ai ?_|refine ar ?_|refine au rfl ?_|refine aj (id:=5) (λQ5 hn5 hx5 hr5 ho5=>?_)|refine aj (id:=6) (λQ6 hn6 hx6 hr6 ho6=>?_))
   |(with_reducible (refine ah (λK hK=>?_);(first|refine E2 ?_|refine t47r18 ?_|refine t47r19 ?_));(try simp only[SS,Nat.reduceEqDiff,hlt4]))
   |(with_reducible refine hK _ ?_;clear hK K))
   refine aU (λk s=>∃(a:Nat) (v:CV) (L:List (Nat×HO)),a≤f.parts.length∧k=f.parts.length - a∧aK L 32=some (.var g (aZ f) 0)∧aK L 1424=some (.arr gn 1 ((bO (aE f)).flatMap bS) 0) ∧
    OwnE aX 1 ⟨L,[]⟩ 1936 v (bP (aE f) d2.length a) ∧
    s=⟨[(1,gv),(2,.ptr (.l 32) g 0),(5,.int .i64 f.parts.length),(11,.ref (.l 1424) gn 0 f.parts.length),(12,.int .i64 d2.length),(13,v),(14,.int .i64 a)],⟨L,[]⟩⟩) _ ⟨0,.nil,_,Nat.zero_le _,rfl,hL32,hLr,.nil,rfl⟩ ?_
   rintro k s ⟨a,v,L3,ha,rfl,hL33,hLr3,hO,rfl⟩ QL3 hnL3 hxL3 hrL3;simp only[c47l3]
   by_cases hag:a=f.parts.length
   ·subst hag
    have hre1:(bO (aE f))[d2.length]?=some (decide ((d2.length:Int)∈ord (aE f))):=by
     rw[bO,List.getElem?_map,List.getElem?_range (by rw[fb];omega)];rfl
    have hre2:bd 1 (.ref (.l 1424) gn 0 f.parts.length) (.int .i64 d2.length)=some (.ptr (.l 1424) gn d2.length):=by
     rw[bD,if_pos ⟨by omega,by omega⟩];simp
    have hre3:ld1 ⟨L3,[]⟩ (.ptr (.l 1424) gn d2.length)=some (.bool (decide ((d2.length:Int)∈ord (aE f)))):=by
     rw[eX];simp only[hLr3,bM,fI,hre1];rfl
    have hpbl:=fm (fM f) (d2.length:Int) f.parts.length;have hEq:=λd=>k44 (bP (aE f) d2.length f.parts.length) p.pred (by omega) hO.seen (fid:=47) (d:=d)
    by_cases hb1:(d2.length:Int)∈ord (aE f)
    ·rw[decide_eq_true hb1] at hre3
     by_cases hb2:bP (aE f) d2.length f.parts.length=p.pred
     ·rw[decide_eq_true hb2] at hEq
      repeat' (first
      |with_reducible (first|refine ai ?_|refine ax rfl ?_|refine bn rfl ?_|refine aN ?_|refine bx ?_|refine hn5 _ ?_|refine hx6 _ ?_|refine hxL3 _ _ ?_)
      |(with_reducible ((first|refine ah (λK hK=>?_)|refine aI (λK hK=>?_));(first|refine rd ?_|refine uw ?_|refine t47r17 ?_));(try simp only[SS,Nat.reduceEqDiff,bL,dw,Bool.not_true,hL33,aZ,hre2,hre3,hEq,aM ptE.len (by omega) h4,ptC,hwd]))
      |(revert hK;intro hK;(first|refine And.intro ?_ ?_|intro _|omega|(with_reducible refine hK _ ?_;clear hK K))))
      rw[show((d2.length:Int)+1)=((d2++[p]).length:Int) by simp];refine hnL4 t2.length _ (by simp) ⟨d2++[p],t2,gn,L3,by simp[h4],rfl,λi q hq=>?_,hL33,hLr3,rfl⟩
      by_cases hi:i<d2.length
      ·rw[List.getElem?_append_left hi] at hq
       exact hd2 i q hq
      ·have:i=d2.length:=by have:=(List.getElem?_eq_some_iff.1 hq).1;simp at this;omega
       subst this;simp at hq;subst hq
       exact⟨hb1,hb2⟩
     ·rw[decide_eq_false hb2] at hEq
      repeat' (first
      |with_reducible (first|refine ai ?_|refine ax rfl ?_|refine bc rfl ?_|refine aN ?_|refine aF ?_|refine hr4 _ ?_|refine hr5 _ ?_|refine hx6 _ ?_|refine hxL3 _ _ ?_|refine hrL4 _ ?_)
      |(with_reducible (first|(refine ah (λK hK=>?_);(first|refine rd ?_|refine uw ?_|refine E5 ?_))|refine hqr _ ?_);(try simp only[SS,Nat.reduceEqDiff,bL,dw,Bool.not_true,Bool.not_false,r47,aQ,ak,aD,am,hL33,aZ,hre2,hre3,hEq,aM ptE.len (by omega) h4,ptC,hwd]))
      |(revert hK;intro hK;(first|refine And.intro ?_ ?_|intro _|omega|(with_reducible refine hK _ ?_;clear hK K))))
      rw[jB hpi λh=>hb2 h.2]
      exact⟨_,rfl,rfl⟩
    ·rw[decide_eq_false hb1] at hre3
     repeat' (first
     |with_reducible (first|refine ai ?_|refine ax rfl ?_|refine bc rfl ?_|refine aN ?_|refine aF ?_|refine hr4 _ ?_|refine hr5 _ ?_|refine hx6 _ ?_|refine hxL3 _ _ ?_|refine hrL4 _ ?_)
     |(with_reducible (first|(refine ah (λK hK=>?_);(first|refine rd ?_|refine uw ?_|refine E5 ?_))|refine hqr _ ?_);(try simp only[SS,Nat.reduceEqDiff,Bool.not_false,r47,aQ,ak,aD,am,hL33,aZ,hre2,hre3,aM ptE.len (by omega) h4,ptC,hwd]))
     |(revert hK;intro hK;(first|refine And.intro ?_ ?_|intro _|omega|(with_reducible refine hK _ ?_;clear hK K))))
     rw[jB hpi λh=>hb1 h.1]
     exact⟨_,rfl,rfl⟩
   ·have halt:(a:Int)<f.parts.length:=by omega
    have hwa:IntKind.i64.wrap ((a:Int)+1)=((a+1:Nat):Int):=by rw[wI (by omega) (by omega)];rfl
    obtain⟨r,hr⟩:∃r,(aE f)[((a:Nat):Int).toNat]?=some r:=⟨_,List.getElem?_eq_getElem (by omega)⟩;obtain⟨w,tl,hw1,hw2⟩:=hgv.idx (x:=(a:Int)) (by omega) hr (k:=.i64);have hgr:(aE f).getD a []=r:=by rw[List.getD_eq_getElem?_getD];rw[Int.toNat_natCast] at hr;rw[hr];rfl
    have hrl:r.length≤2:=by have:=fM f a;rw[hgr] at this;exact this
    repeat' (first
    |with_reducible (first|refine ai ?_|refine ar ?_|refine au rfl ?_|refine aj (id:=7) (λQ7 hn7 hx7 hr7 ho7=>?_)|refine bl (id:=8) (λQ8 hn8 hx8 hr8 ho8=>?_))
    |(with_reducible (refine ah (λK hK=>?_);(first|refine rd ?_|refine t47r22 ?_));(try simp only[SS,Nat.reduceEqDiff,halt]))
    |(with_reducible refine hK _ ?_;clear hK K))
    refine aU (λk s=>∃(d3 t3:List Int) (v:CV) (L:List (Nat×HO)),r=d3++t3∧k=t3.length∧aK L 32=some (.var g (aZ f) 0)∧aK L 1424=some (.arr gn 1 ((bO (aE f)).flatMap bS) 0) ∧
     OwnE aX 1 ⟨L,[]⟩ 1936 v (bP (aE f) d2.length a++(d3.filter λy=>decide (y=((d2.length:Nat):Int))).map λ_=>(a:Int)) ∧
     s=⟨[(1,gv),(2,.ptr (.l 32) g 0),(5,.int .i64 f.parts.length),(11,.ref (.l 1424) gn 0 f.parts.length),(12,.int .i64 d2.length),(13,v),(14,.int .i64 a),(15,.int .i64 d3.length)],⟨L,[]⟩⟩) _ ⟨[],r,v,_,rfl,rfl,hL33,hLr3,by simpa using hO,rfl⟩ ?_
    rintro k s ⟨d3,t3,v3,L4,h6,rfl,hL34,hLr4,hO4,rfl⟩ QL2 hnL2 hxL2 hrL2;have hlen3:=congrArg List.length h6;simp only[List.length_append] at hlen3;simp only[c47l2]
    cases t3 with
    |nil=>
     simp only[List.length_nil] at hlen3;rw[List.append_nil] at h6
     repeat' (first
     |with_reducible (first|refine ai ?_|refine ax rfl ?_|refine aN ?_|refine hn7 _ ?_|refine hx8 _ ?_|refine hxL2 _ _ ?_)
     |(with_reducible ((first|refine ah (λK hK=>?_)|refine aI (λK hK=>?_));(first|refine uv ?_|refine t47r21 ?_));(try simp only[SS,Nat.reduceEqDiff,dw,lenS,hw1,(hw2 []).len,hwa]))
     |(revert hK;intro hK;(first|refine And.intro ?_ ?_|intro _|omega|(with_reducible refine hK _ ?_;clear hK K))))
     refine hnL3 (f.parts.length - (a+1)) _ (by omega) ⟨a+1,v3,L4,by omega,rfl,hL34,hLr4,?_,rfl⟩;rw[ie,hgr,h6];exact hO4
    |cons y t3=>
     simp only[List.length_cons] at hlen3;have hyi:r[d3.length]?=some y:=by rw[h6];simp
     obtain⟨pt,hp1,hp2⟩:=(hw2 []).at hyi (k:=.i64);have hw2':IntKind.i64.wrap ((d3.length:Int)+1)=d3.length+1:=wI (by omega) (by omega);have hlt3:(d3.length:Int)<r.length:=by omega
     by_cases hyb:y=((d2.length:Nat):Int)
     ·have hpbl:=fm (fM f) (d2.length:Int) a
      have hfl:=List.length_filter_le (λz=>decide (z=((d2.length:Nat):Int))) d3
      repeat' (first
      |with_reducible (first|refine ai ?_|refine ar ?_|refine au rfl ?_|refine bc rfl ?_|refine aj (id:=9) (λQ9 hn9 hx9 hr9 ho9=>?_))
      |(with_reducible ((first|refine ah (λK hK=>?_)|refine aI (λK hK=>?_));(first|refine uv ?_|refine E4 ?_|refine t47r26 ?_));(try simp only[SS,Nat.reduceEqDiff,dw,lenS,gG,hw1,(hw2 []).len,hlt3,hp1,hp2,eq_true hyb]))
      |(with_reducible refine hK _ ?_;clear hK K))
      refine(hO4.keepS (i:=1920) (by decide)).app8 (ys:=[(a:Int)]) dB (by simp only[cU,ba,if_true,dz];rfl) rfl (by decide) (by simp only[List.length_cons,List.length_nil,List.length_append,List.length_map];omega) λv' m' hO' hH' hf'=>?_
      obtain⟨L5,H5⟩:=m';simp only[ik] at hH';subst hH';refine hK _ ?_;clear hK K
      repeat' (first
      |with_reducible refine hn9 _ ?_
      |(with_reducible (refine aI (λK hK=>?_);refine E3 ?_);(try simp only[SS,Nat.reduceEqDiff,hw2']))
      |(with_reducible refine hK _ ?_;clear hK K))
      rw[show((d3.length:Int)+1)=((d3++[y]).length:Int) by simp];refine hnL2 t3.length _ (by simp) ⟨d3++[y],t3,v',L5,by simp[h6],rfl,?_,?_,?_,rfl⟩
      ·rw[hf' 32 (by decide)];simp[bi,aq,hL34]
      ·rw[hf' 1424 (by decide)];simp[bi,aq,hLr4]
      ·rw[List.filter_append,List.filter_cons_of_pos (by simpa using hyb),List.filter_nil,List.map_append,←List.append_assoc]
       exact hO'
     ·repeat' (first
      |with_reducible (first|refine ai ?_|refine ar ?_|refine au rfl ?_|refine bn rfl ?_|refine bx ?_|refine aj (id:=9) (λQ9 hn9 hx9 hr9 ho9=>?_)|refine hn9 _ ?_)
      |(with_reducible ((first|refine ah (λK hK=>?_)|refine aI (λK hK=>?_));(first|refine uv ?_|refine E4 ?_|refine E3 ?_));(try simp only[SS,Nat.reduceEqDiff,dw,lenS,hw1,(hw2 []).len,hlt3,hp1,hp2,hyb,hw2']))
      |(with_reducible refine hK _ ?_;clear hK K))
      rw[show((d3.length:Int)+1)=((d3++[y]).length:Int) by simp];refine hnL2 t3.length _ (by simp) ⟨d3++[y],t3,v3,L4,by simp[h6],rfl,hL34,hLr4,?_,rfl⟩;rw[List.filter_append,List.filter_cons_of_neg (by simpa using hyb),List.filter_nil,List.append_nil];exact hO4
 |cons p t=>
  simp only[List.length_cons] at hlen;have hpi:f.parts[d.length]?=some p:=by rw[h3];simp
  have hpm:p∈f.parts:=List.mem_of_getElem? hpi;have hlt1:(d.length:Int)<f.parts.length:=by omega
  have hwd:IntKind.i64.wrap ((d.length:Int)+1)=d.length+1:=wI (by omega) (by omega);have hsg:=p7 hpi;obtain⟨_,⟨xb,H7,rfl⟩,hC⟩:=x71 p.fin.cond;have hC:∀m,aB An FF 47 (some 33) 71 [.int .i64 p.fin.cond,.int .u64 0,.int .u64 0,.bool true] m=some (.tuple [.bool xb,.bool (cL p.fin.cond)],m):=λm=>
   cr hC (λ_ _ _=>rfl) rfl rfl rfl rfl rfl
  have hb:=λ(h:p.fin.op<1∨3<p.fin.op∨(p.fin.op=2∧(cL p.fin.cond=false∨p.fin.to=p.fin.els)))=>gS hpm (pI h);have hgo:p.fin.op<1∨(¬p.fin.op<1∧3<p.fin.op)∨(¬p.fin.op<1∧¬3<p.fin.op∧(p.fin.op=2)=True∧cL p.fin.cond=false)∨(¬p.fin.op<1∧¬3<p.fin.op∧(p.fin.op=2)=True∧cL p.fin.cond=true∧(p.fin.to=p.fin.els)=True) ∨
    (¬p.fin.op<1∧¬3<p.fin.op∧(p.fin.op=2)=True∧cL p.fin.cond=true∧¬p.fin.to=p.fin.els)∨(¬p.fin.op<1∧¬3<p.fin.op∧¬p.fin.op=2∧cL p.fin.cond=cL p.fin.cond∧¬p.fin.op=2):=by
   by_cases h1:p.fin.op<1
   ·exact .inl h1
   ·by_cases h2:3<p.fin.op
    ·exact .inr (.inl ⟨h1,h2⟩)
    ·by_cases h4:p.fin.op=2
     ·cases h5:cL p.fin.cond
      ·exact .inr (.inr (.inl ⟨h1,h2,eq_true h4,rfl⟩))
      ·by_cases h6:p.fin.to=p.fin.els
       ·exact .inr (.inr (.inr (.inl ⟨h1,h2,eq_true h4,rfl,eq_true h6⟩)))
       ·exact .inr (.inr (.inr (.inr (.inl ⟨h1,h2,eq_true h4,rfl,h6⟩))))
     ·exact .inr (.inr (.inr (.inr (.inr ⟨h1,h2,h4,rfl,h4⟩))))
  rcases hgo with h1|⟨h1,h2⟩|⟨h1,h2,h4,h5⟩|⟨h1,h2,h4,h5,h6⟩|h1
  ·repeat' (first
   |with_reducible (first|refine ai ?_|refine ar ?_|refine au rfl ?_|refine b6 ?_|refine hr0 _ ?_|refine aj (id:=1) (λQ1 hn1 hx1 hr1 ho1=>?_)|refine hr1 _ ?_|refine hrL1 _ ?_)
   |(with_reducible (first|(refine ah (λK hK=>?_);(first|refine p8 ?_|refine sV ?_|refine sW ?_|refine sX ?_|refine wx ?_))|refine hqr _ ?_);(try simp only[SS,Nat.reduceEqDiff,ap,Nat.reduceAdd,bL,bq,bI,fE,jj,ay,r47,aQ,ak,aD,am,hL,aZ,aM ptE.len (by omega) h3,ct,ptC,hsetL,cV,hC,h1,hlt1,iR]))
   |(with_reducible refine hK _ ?_;clear hK K))
   rw[hb (.inl h1)]
   exact⟨_,rfl,rfl⟩
  ·repeat' (first
   |with_reducible (first|refine ai ?_|refine ar ?_|refine au rfl ?_|refine b6 ?_|refine hr0 _ ?_|refine aj (id:=1) (λQ1 hn1 hx1 hr1 ho1=>?_)|refine hr1 _ ?_|refine hrL1 _ ?_)
   |(with_reducible (first|(refine ah (λK hK=>?_);(first|refine p8 ?_|refine sV ?_|refine sW ?_|refine sX ?_|refine wx ?_))|refine hqr _ ?_);(try simp only[SS,Nat.reduceEqDiff,ap,Nat.reduceAdd,bL,bq,bI,fE,jj,ay,r47,aQ,ak,aD,am,hL,aZ,aM ptE.len (by omega) h3,ct,ptC,hsetL,cV,hC,h1,h2,hlt1,iR]))
   |(with_reducible refine hK _ ?_;clear hK K))
   rw[hb (.inr (.inl h2))]
   exact⟨_,rfl,rfl⟩
  ·rw[h5] at hC
   repeat' (first
   |with_reducible (first|refine ai ?_|refine ar ?_|refine au rfl ?_|refine b6 ?_|refine hr0 _ ?_|refine aj (id:=1) (λQ1 hn1 hx1 hr1 ho1=>?_)|refine hr1 _ ?_|refine hrL1 _ ?_)
   |(with_reducible (first|(refine ah (λK hK=>?_);(first|refine p8 ?_|refine sV ?_|refine sW ?_|refine sX ?_|refine wx ?_))|refine hqr _ ?_);(try simp only[SS,Nat.reduceEqDiff,ap,Nat.reduceAdd,bL,bq,bI,Bool.not_false,ay,r47,aQ,ak,aD,am,hL,aZ,aM ptE.len (by omega) h3,ct,ptC,hsetL,cV,hC,h1,h2,h4,hlt1,iR]))
   |(with_reducible refine hK _ ?_;clear hK K))
   rw[hb (.inr (.inr ⟨of_eq_true h4,.inl h5⟩))]
   exact⟨_,rfl,rfl⟩
  ·rw[h5] at hC
   repeat' (first
   |with_reducible (first|refine ai ?_|refine ar ?_|refine au rfl ?_|refine b6 ?_|refine hr0 _ ?_|refine aj (id:=1) (λQ1 hn1 hx1 hr1 ho1=>?_)|refine hr1 _ ?_|refine hrL1 _ ?_)
   |(with_reducible (first|(refine ah (λK hK=>?_);(first|refine p8 ?_|refine sV ?_|refine sW ?_|refine sX ?_|refine wx ?_))|refine hqr _ ?_);(try simp only[SS,Nat.reduceEqDiff,ap,Nat.reduceAdd,bL,bq,bI,Bool.not_true,ay,r47,aQ,ak,aD,am,hL,aZ,aM ptE.len (by omega) h3,ct,ptC,hsetL,cV,hC,h1,h2,h4,h6,hlt1,iR]))
   |(with_reducible refine hK _ ?_;clear hK K))
   rw[hb (.inr (.inr ⟨of_eq_true h4,.inr (of_eq_true h6)⟩))]
   exact⟨_,rfl,rfl⟩
  ·obtain⟨r,hr⟩:∃r,(aE f)[((d.length:Nat):Int).toNat]?=some r:=⟨_,List.getElem?_eq_getElem (by omega)⟩
   obtain⟨w,tl,hw1,hw2⟩:=hgv.idx (x:=(d.length:Int)) (by omega) hr (k:=.i64);have hgr:r=cE p.fin:=by rw[List.getD_eq_getElem?_getD] at hsg;rw[Int.toNat_natCast] at hr;rw[hr] at hsg;exact hsg
   have hrl:r.length≤2:=by rw[hgr];exact He p.fin
   have hgood:(∀y∈cE p.fin,0≤y∧y<(f.parts.length:Int))→ip f.parts.length p.fin=true:=λh=>by
    rcases h1 with⟨a1,a2,a3,a4,a5⟩|⟨a1,a2,a3,a4,a5⟩
    ·exact nF a1 a2 (λ_=>⟨a4,a5⟩) h
    ·exact nF a1 a2 (λh=>absurd h a3) h
   rcases h1 with⟨a1,a2,a3,a4,a5⟩|⟨a1,a2,a3,a4,a5⟩
   all_goals
    rw[a4] at hC
    repeat' (first
    |with_reducible (first|refine ai ?_|refine ar ?_|refine au rfl ?_|refine ax rfl ?_|refine aj (id:=1) (λQ1 hn1 hx1 hr1 ho1=>?_)|refine bl (id:=2) (λQ2 hn2 hx2 hr2 ho2=>?_))
    |(with_reducible (refine ah (λK hK=>?_);(first|refine p8 ?_|refine sV ?_|refine sW ?_|refine sX ?_|refine t47r9 ?_));(try simp only[SS,Nat.reduceEqDiff,ap,Nat.reduceAdd,bL,bq,bI,fE,jj,Bool.not_true,ay,hL,aZ,aM ptE.len (by omega) h3,ct,ptC,hsetL,cV,hC,a1,a2,a3,a5,hlt1,iR]))
    |(with_reducible refine hK _ ?_;clear hK K))
    refine aU (λk s=>∃(d2 t2:List Int) (L:List (Nat×HO)),r=d2++t2∧k=t2.length∧(∀y∈d2,0≤y∧y<(f.parts.length:Int))∧aK L 32=some (.var g (aZ f) 0) ∧
     s=⟨[(1,gv),(2,.ptr (.l 32) g 0),(5,.int .i64 f.parts.length),(6,.int .i64 d.length),(10,.int .i64 d2.length)],⟨L,[]⟩⟩) _ ⟨[],r,_,rfl,rfl,by simp,by simp[bi,aq,hL],rfl⟩ ?_
    rintro k s ⟨d2,t2,L2,h7,rfl,hd2,hL2,rfl⟩ QL0 hnL0 hxL0 hrL0;have hlen2:=congrArg List.length h7;simp only[List.length_append] at hlen2;simp only[c47l0]
    cases t2 with
    |nil=>
     simp only[List.length_nil] at hlen2;rw[List.append_nil] at h7
     repeat' (first
     |with_reducible (first|refine ai ?_|refine ax rfl ?_|refine aN ?_|refine hn1 _ ?_|refine hx2 _ ?_|refine hxL0 _ _ ?_)
     |(with_reducible ((first|refine ah (λK hK=>?_)|refine aI (λK hK=>?_));(first|refine rc ?_|refine t47r4 ?_));(try simp only[SS,Nat.reduceEqDiff,dw,lenS,hw1,(hw2 []).len,hwd]))
     |(revert hK;intro hK;(first|refine And.intro ?_ ?_|intro _|omega|(with_reducible refine hK _ ?_;clear hK K))))
     rw[show((d.length:Int)+1)=((d++[p]).length:Int) by simp];refine hnL1 t.length _ (by simp) ⟨d++[p],t,g,L2,by simp[h3],rfl,λq hq=>?_,hL2,rfl⟩;rcases List.mem_append.1 hq with hq|hq
     ·exact hd q hq
     ·simp only[List.mem_singleton] at hq
      subst hq;exact hgood (by rw[←hgr,h7];exact hd2)
    |cons y t2=>
     simp only[List.length_cons] at hlen2;have hyi:r[d2.length]?=some y:=by rw[h7];simp
     have hym:y∈cE p.fin:=by rw[←hgr];exact List.mem_of_getElem? hyi
     obtain⟨pt,hp1,hp2⟩:=(hw2 []).at hyi (k:=.i64);have hw2':IntKind.i64.wrap ((d2.length:Int)+1)=d2.length+1:=wI (by omega) (by omega);have hlt0:(d2.length:Int)<r.length:=by omega
     by_cases h8:y<0
     ·repeat' (first
      |with_reducible (first|refine ai ?_|refine ar ?_|refine au rfl ?_|refine bc rfl ?_|refine aF ?_|refine hr0 _ ?_|refine hr1 _ ?_|refine hr2 _ ?_|refine aj (id:=3) (λQ3 hn3 hx3 hr3 ho3=>?_)|refine hr3 _ ?_|refine hrL0 _ ?_|refine hrL1 _ ?_)
      |(with_reducible (first|(refine ah (λK hK=>?_);(first|refine rc ?_|refine uu ?_|refine E0 ?_))|refine hqr _ ?_);(try simp only[SS,Nat.reduceEqDiff,dw,lenS,r47,aQ,ak,aD,am,hw1,(hw2 []).len,hlt0,hp1,hp2,h8]))
      |(with_reducible refine hK _ ?_;clear hK K))
      rw[gS hpm (jo hym (by omega))]
      exact⟨_,rfl,rfl⟩
     ·by_cases h9:(f.parts.length:Int)≤y
      ·repeat' (first
       |with_reducible (first|refine ai ?_|refine ar ?_|refine au rfl ?_|refine bc rfl ?_|refine aF ?_|refine hr0 _ ?_|refine hr1 _ ?_|refine hr2 _ ?_|refine aj (id:=3) (λQ3 hn3 hx3 hr3 ho3=>?_)|refine hr3 _ ?_|refine hrL0 _ ?_|refine hrL1 _ ?_)
       |(with_reducible (first|(refine ah (λK hK=>?_);(first|refine rc ?_|refine uu ?_|refine E0 ?_))|refine hqr _ ?_);(try simp only[SS,Nat.reduceEqDiff,dw,lenS,r47,aQ,ak,aD,am,hw1,(hw2 []).len,hlt0,hp1,hp2,h8,h9]))
       |(with_reducible refine hK _ ?_;clear hK K))
       rw[gS hpm (jo hym (by omega))]
       exact⟨_,rfl,rfl⟩
      ·repeat' (first
       |with_reducible (first|refine ai ?_|refine ar ?_|refine au rfl ?_|refine bn rfl ?_|refine bx ?_|refine aj (id:=3) (λQ3 hn3 hx3 hr3 ho3=>?_)|refine hn3 _ ?_)
       |(with_reducible ((first|refine ah (λK hK=>?_)|refine aI (λK hK=>?_));(first|refine rc ?_|refine uu ?_|refine t47r11 ?_));(try simp only[SS,Nat.reduceEqDiff,dw,lenS,hw1,(hw2 []).len,hlt0,hp1,hp2,h8,h9,hw2']))
       |(with_reducible refine hK _ ?_;clear hK K))
       rw[show((d2.length:Int)+1)=((d2++[y]).length:Int) by simp];refine hnL0 t2.length _ (by simp) ⟨d2++[y],t2,L2,by simp[h7],rfl,λz hz=>?_,hL2,rfl⟩;rcases List.mem_append.1 hz with hz|hz
       ·exact hd2 z hz
       ·simp only[List.mem_singleton] at hz
        subst hz;omega
end Go.Cm
