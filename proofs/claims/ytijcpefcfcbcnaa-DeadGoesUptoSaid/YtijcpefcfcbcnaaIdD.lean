import Derived.Test.YtijcpefcfcbcnaaIdA
set_option linter.unusedSimpArgs false
set_option linter.unusedVariables false
namespace Go.Cm
open Go.Proofs Go.Gr
def rW (l:List Int) (x:Int):Int:=if x∈l then l.idxOf x else -1
theorem x113 (H:List HO) (v:CV) (l:List Int) (x:Int) (hv:RdI H v l) (hl:l.length≤4294967296):FF 113 [v,.int .i64 x] H=some (.int .i64 (rW l x),H):=by
 refine aL rfl Try.func113 s113 (Nat.le_of_ble_eq_true rfl) (λQ hqr hqn=>?_);rw[show ∀a,cin (An.pure 113) a=a from λ_=>rfl];simp only[aO,Nat.reduceAdd,c113]
 repeat' (first
 |with_reducible (first|refine ai ?_|refine aj (id:=0) (λQ0 hn0 hx0 hr0 ho0=>?_))
 |(with_reducible (refine ah (λK hK=>?_);(first|refine t113r0 ?_|refine t113r1 ?_));(try simp only[SS,Nat.reduceEqDiff,lenS,hv.len]))
 |(with_reducible refine hK _ ?_;clear hK K))
 refine aU (λk s=>∃(d t:List Int),l=d++t∧k=t.length∧x∉d∧s=⟨[(0,v),(1,.int .i64 x),(7,.int .i64 l.length),(8,.int .i64 d.length)],⟨[],H⟩⟩) _ ⟨[],l,rfl,rfl,by simp,rfl⟩ ?_;rintro k s ⟨d,t,h3,rfl,hd,rfl⟩ QL0 hnL0 hxL0 hrL0;have hlen:=congrArg List.length h3;simp only[List.length_append] at hlen
 cases t with
 |nil=>
  simp only[List.length_nil] at hlen;simp only[tA]
  repeat' (first
  |with_reducible (first|refine ax rfl ?_|refine aN ?_|refine aF ?_|refine hx0 _ ?_|refine hxL0 _ _ ?_)
  |(with_reducible (first|(refine ah (λK hK=>?_);(first|refine Ez ?_|refine t113r7 ?_))|refine hqr _ ?_);(try simp only[SS,Nat.reduceEqDiff,r113,aQ,ak,aD,am,bz,CV.int.injEq]))
  |(revert hK;intro hK;(first|refine And.intro ?_ ?_|intro _|omega|(with_reducible refine hK _ ?_;clear hK K))))
  rw[List.append_nil] at h3;rw[rW,if_neg (by rw[h3];exact hd)]
 |cons a t=>
  simp only[List.length_cons] at hlen;have hal:l[d.length]?=some a:=by rw[h3];simp
  obtain⟨p,hp1,hp2⟩:=hv.at hal (k:=.i64);have hw:IntKind.i64.wrap ((d.length:Int)+1)=d.length+1:=wI (by omega) (by omega);simp only[tA]
  repeat' (first
  |with_reducible (first|refine ar ?_|refine au rfl ?_|refine bc rfl ?_|refine bn rfl ?_|refine aF ?_|refine bx ?_|refine hr0 _ ?_|refine aj (id:=1) (λQ1 hn1 hx1 hr1 ho1=>?_)|refine hn1 _ ?_|refine hr1 _ ?_|refine hrL0 _ ?_)
  |(with_reducible (first|((first|refine ah (λK hK=>?_)|refine aI (λK hK=>?_));(first|refine Ez ?_|refine t113r3 ?_|refine t113r4 ?_|refine t113r5 ?_|refine t113r6 ?_))|refine hqr _ ?_);(try simp only[SS,Nat.reduceEqDiff,r113,aQ,ak,aD,am,bz,CV.int.injEq,hp1,hp2,hw]))
  |(revert hK;intro hK;(first|refine And.intro ?_ ?_|intro _|omega|(with_reducible refine hK _ ?_;clear hK K))))
  ·rename_i he
   rw[rW,if_pos (by rw[h3,he];simp),h3,he,List.idxOf_append,if_neg (by rw[←he];exact hd),List.idxOf_cons_self];simp
  ·rename_i he
   exact hnL0 t.length _ (by simp) ⟨d++[a],t,by simp[h3],rfl,by simp[hd,he],by simp⟩
theorem x85 (H:List HO) (v:CV) (l:List Int) (x:Int) (hv:RdI H v l) (hl:l.length≤4294967296):FF 85 [v,.int .i64 x] H=some (.bool (decide (x∈l)),H):=by
 have hc:aB An FF 85 (some 7) 113 [v,.int .i64 x] ⟨[],H⟩=some (.int .i64 (rW l x),⟨[],H⟩):=by
  rw[cf rfl (by simp only[List.all_cons,hv.esc];rfl) (x113 H v l x hv hl),pk]
 by_cases hx:x∈l
 ·have h1:0≤rW l x:=by rw[rW,if_pos hx];omega
  refine aL rfl Try.func85 s85 (Nat.le_of_ble_eq_true rfl) (λQ hqr hqn=>?_);rw[show ∀a,cin (An.pure 85) a=a from λ_=>rfl];simp only[aO,Nat.reduceAdd,c85]
  repeat' (first
  |with_reducible refine aF ?_
  |(with_reducible (first|(refine ah (λK hK=>?_);(first|refine t85r0 ?_|refine t85r1 ?_))|refine hqr _ ?_);(try simp only[SS,Nat.reduceEqDiff,r85,aQ,ak,aD,am,hc]))
  |(revert hK;intro hK;(first|refine And.intro ?_ ?_|intro _|omega|(with_reducible refine hK _ ?_;clear hK K))))
  simp[hx]
 ·have h1:¬0≤rW l x:=by rw[rW,if_neg hx];omega
  refine aL rfl Try.func85 s85 (Nat.le_of_ble_eq_true rfl) (λQ hqr hqn=>?_);rw[show ∀a,cin (An.pure 85) a=a from λ_=>rfl];simp only[aO,Nat.reduceAdd,c85]
  repeat' (first
  |with_reducible refine aF ?_
  |(with_reducible (first|(refine ah (λK hK=>?_);(first|refine t85r0 ?_|refine t85r1 ?_))|refine hqr _ ?_);(try simp only[SS,Nat.reduceEqDiff,r85,aQ,ak,aD,am,hc]))
  |(revert hK;intro hK;(first|refine And.intro ?_ ?_|intro _|omega|(with_reducible refine hK _ ?_;clear hK K))))
  simp[hx]
structure PInv (b:Nat) (H0 H:List HO) (l:List (Int×CV)) (f:Int→List Int):Prop where
 len:b<H.length
 map:H[b]?=some (.map 1 (esI .i64 l))
 row:∀y,(al l y=none∧f y=[])∨∃n gn,al l y=some (.ref (.g n) gn 0 (f y).length)∧b<n∧H[n]?=some (.arr gn 1 ((f y).flatMap aX) 0)
 apart:∀y z n gn gn' k k',al l y=some (.ref (.g n) gn 0 k)→al l z=some (.ref (.g n) gn' 0 k')→y=z
 old:∀i,i<b→H[i]?=H0[i]?
theorem PInv.ref {b:Nat}{H0 H:List HO}{l:List (Int×CV)}{f:Int→List Int}(h:PInv b H0 H l f) (y:Int):RefG H ((al l y).getD .nil) (f y):=by
 rcases h.row y with⟨h1,h2⟩|⟨n,gn,h1,_,h2⟩
 ·rw[h1,h2];exact .inl ⟨rfl,rfl⟩
 ·rw[h1];exact .inr ⟨n,gn,0,rfl,h2⟩
theorem PInv.step {b:Nat}{H0 H:List HO}{l:List (Int×CV)}{f:Int→List Int}(h:PInv b H0 H l f) (y a:Int) {gt j jt:Nat}{L:List (Nat×HO)}(ht:aK L jt=some (.arr gt 1 [.int .i64 a] 0)) (hl:(f y).length+1≤4294967296) :
  ∃v H2 H3 l',ej true j 1 8 ((al l y).getD .nil) (.ref (.l jt) gt 0 1) ⟨L,H⟩=some (v,⟨L,H2⟩)∧mB Try.prog 3 (.map (.g b) 1) (.int .i64 y) v ⟨L,H2⟩=some ⟨L,H3⟩∧PInv b H0 H3 l' (λz=>if z=y then f y++[a] else f z):=by
 have hc:content ⟨L,H⟩ 1 (.ref (.l jt) gt 0 1)=some [.int .i64 a]:=by rw[cU,ht,dz];rfl
 have hbl:=h.len;rcases h.row y with⟨h1,h2⟩|⟨n,gn,h1,hbn,h2⟩
 · -- a new row
  have hmap:(H++[HO.arr 1 1 [.int .i64 a] 0])[b]?=some (.map 1 (esI .i64 l)):=by rw[List.getElem?_append_left h.len];exact h.map
  refine⟨.ref (.g H.length) 1 0 1,H++[HO.arr 1 1 [.int .i64 a] 0],(H++[HO.arr 1 1 [.int .i64 a] 0]).set b (.map 1 (esI .i64 (jP l y (.ref (.g H.length) 1 0 1)))),jP l y (.ref (.g H.length) 1 0 1),?_,?_,?_⟩
  ·rw[h1,Option.getD_none,iD,hc,fq,eG (by decide),if_pos (dI (by decide) (by decide))]
   rfl
  ·exact kR (P:=Try.prog) (t:=3) (k:=.i64) (key:=.g b) (g:=1) (a:=y) (v:=.ref (.g H.length) 1 0 1) (m:=⟨L,H++[HO.arr 1 1 [.int .i64 a] 0]⟩) (l:=l) Try.underlying3 rfl hmap
  ·have hfresh:∀z n gn k,al l z=some (.ref (.g n) gn 0 k)→n<H.length:=by
    intro z n gn k hz;rcases h.row z with⟨h3,_⟩|⟨n',gn',h3,_,h4⟩
    ·rw[h3] at hz;cases hz
    ·rw[h3] at hz
     simp only[Option.some.injEq,CV.ref.injEq,Key.g.injEq] at hz;rw[←hz.1];exact(List.getElem?_eq_some_iff.1 h4).1
   refine⟨by simp;omega,by rw[List.getElem?_set_self (by simp;omega)],λz=>?_,λz w n gn gn' k k' hz hw=>?_,λi hi=>?_⟩
   ·rw[kr]
    by_cases hz:y=z
    ·subst hz
     right
     refine⟨H.length,1,?_,hbl,?_⟩
     ·simp[h2]
     ·rw[List.getElem?_set_ne (by omega),List.getElem?_append_right (by omega)]
      simp[h2,aX]
    ·rw[if_neg hz,if_neg (Ne.symm hz)]
     rcases h.row z with h3|⟨n',gn',h3,h4,h5⟩
     ·exact .inl h3
     ·right
      have:=(List.getElem?_eq_some_iff.1 h5).1
      exact⟨n',gn',h3,h4,by rw[List.getElem?_set_ne (by omega),List.getElem?_append_left this,h5]⟩
   ·rw[kr] at hz hw
    split at hz<;>split at hw
    ·rename_i e1 e2;rw[←e1,←e2]
    ·simp only[Option.some.injEq,CV.ref.injEq,Key.g.injEq] at hz
     have:=hfresh w n gn' k' hw;omega
    ·simp only[Option.some.injEq,CV.ref.injEq,Key.g.injEq] at hw
     have:=hfresh z n gn k hz;omega
    ·exact h.apart z w n gn gn' k k' hz hw
   ·rw[List.getElem?_set_ne (by omega),List.getElem?_append_left (by omega)];exact h.old i hi
 · -- a row that is made longer
  have hnl:=(List.getElem?_eq_some_iff.1 h2).1;have hmap:(H.set n (.arr (gn+1) 1 ((f y++[a]).flatMap aX) 0))[b]?=some (.map 1 (esI .i64 l)):=by rw[List.getElem?_set_ne (by omega)];exact h.map
  refine⟨.ref (.g n) (gn+1) 0 ((f y).length+1),H.set n (.arr (gn+1) 1 ((f y++[a]).flatMap aX) 0),(H.set n (.arr (gn+1) 1 ((f y++[a]).flatMap aX) 0)).set b (.map 1 (esI .i64 (jP l y (.ref (.g n) (gn+1) 0 ((f y).length+1))))),jP l y (.ref (.g n) (gn+1) 0 ((f y).length+1)),?_,?_,?_⟩
  ·have htk:((f y).flatMap aX).take ((f y).length*1)=(f y).flatMap aX:=List.take_of_length_le (by rw[dL];omega)
   rw[h1,Option.getD_some,tt,hc,fq];simp only[h2];rw[if_pos ⟨trivial,trivial,by omega,dI (by decide) hl⟩];simp only[jE,List.drop_zero,htk,Nat.zero_sub,List.flatMap_append,List.flatMap_cons,List.flatMap_nil,List.append_nil,aX]
  ·exact kR (P:=Try.prog) (t:=3) (k:=.i64) (key:=.g b) (g:=1) (a:=y) (v:=.ref (.g n) (gn+1) 0 ((f y).length+1)) (m:=⟨L,H.set n (.arr (gn+1) 1 ((f y++[a]).flatMap aX) 0)⟩) (l:=l) Try.underlying3 rfl hmap
  ·refine⟨by simp;omega,by rw[List.getElem?_set_self (by simp;omega)],λz=>?_,λz w n' g1 g2 k k' hz hw=>?_,λi hi=>?_⟩
   ·rw[kr]
    by_cases hz:y=z
    ·subst hz
     right
     refine⟨n,gn+1,?_,hbn,?_⟩
     ·simp
     ·rw[List.getElem?_set_ne (by omega),List.getElem?_set_self hnl]
      simp
    ·rw[if_neg hz,if_neg (Ne.symm hz)]
     rcases h.row z with h3|⟨n',gn',h3,h4,h5⟩
     ·exact .inl h3
     ·right
      have hne:n≠n':=λe=>hz (h.apart y z n gn gn' _ _ h1 (by rw[e];exact h3))
      exact⟨n',gn',h3,h4,by rw[List.getElem?_set_ne (by omega),List.getElem?_set_ne hne,h5]⟩
   ·rw[kr] at hz hw
    split at hz<;>split at hw
    ·rename_i e1 e2;rw[←e1,←e2]
    ·rename_i e1 e2
     simp only[Option.some.injEq,CV.ref.injEq,Key.g.injEq] at hz;rw[←hz.1] at hw;exact e1 ▸ h.apart y w n gn g2 _ _ h1 hw
    ·rename_i e1 e2
     simp only[Option.some.injEq,CV.ref.injEq,Key.g.injEq] at hw;rw[←hw.1] at hz;exact e2 ▸ (h.apart y z n gn g1 _ _ h1 hz).symm
    ·exact h.apart z w n' g1 g2 k k' hz hw
   ·rw[List.getElem?_set_ne (by omega),List.getElem?_set_ne (by omega)];exact h.old i hi
theorem rQ {d:List Int}{p:Int→Bool}{a:Int}:(d++[a]).filter p=d.filter p++(if p a then [a] else []):=by
 rw[List.filter_append]
 by_cases h:p a=true
 ·rw[List.filter_cons_of_pos h,if_pos h];rfl
 ·rw[List.filter_cons_of_neg h,if_neg h];rfl
theorem x119 (g:List (List Int)) (hg:Sm g) (gv:CV) (hgv:IsRows gv g) (H:List HO) (vo:CV) (o:List Int) (hv:RdI H vo o) (hr:∀x∈o,0≤x∧x<g.length) (hol:o.length≤1048576) (hnd:o.Nodup) :
  ∃H' l,FF 119 [gv,vo] H=some (.map (.g H.length) 1,H')∧PInv H.length H H' l (λy=>o.filter λx=>decide (y∈ins g x)):=by
 have hres:∃r,(∃H' l,r=(CV.map (.g H.length) 1,H')∧PInv H.length H H' l (λy=>o.filter λx=>decide (y∈ins g x)))∧FF 119 [gv,vo] H=some r:=by
  refine bA rfl Try.func119 s119 (Nat.le_of_ble_eq_true rfl) (λQ hqr hqn=>?_);rw[show ∀a,cin (An.pure 119) a=a from λ_=>rfl];simp only[aO,Nat.reduceAdd,c119]
  repeat' (first
  |with_reducible (first|refine ai ?_|refine aj (id:=0) (λQ0 hn0 hx0 hr0 ho0=>?_))
  |(with_reducible (refine ah (λK hK=>?_);(first|refine t119r0 ?_|refine t119r1 ?_|refine t119r2 ?_));(try simp only[SS,Nat.reduceEqDiff,lenS,ce,kL,gA,nM,ot,p4,iK,iM,iI,iN,iL,iJ,pR,pS,jE,gQ,fD,List.append_assoc,List.length_append,List.set_cons_succ,List.set_cons_zero,cn,eV,mmX,dK,hv.len]))
  |(with_reducible refine hK _ ?_;clear hK K))
  refine aU (λk s=>∃(d t:List Int) (L:List (Nat×HO)) (H':List HO) (l:List (Int×CV)),o=d++t∧k=t.length∧PInv H.length H H' l (λy=>d.filter λx=>decide (y∈ins g x)) ∧
   s=⟨[(0,gv),(5,.map (.g H.length) 1),(11,vo),(12,.int .i64 o.length),(13,.int .i64 d.length)],⟨L,H'⟩⟩) _ ⟨[],o,[],_,[],rfl,rfl,?_,rfl⟩ ?_
  ·exact⟨by simp,by simp[esI],λy=>.inl ⟨rfl,rfl⟩,(λy z n gn gn' k k' h=>by cases h),λi hi=>List.getElem?_append_left hi⟩
  rintro k s ⟨d,t,L,H',l,h3,rfl,hP,rfl⟩ QL1 hnL1 hxL1 hrL1;have hlen:=congrArg List.length h3;simp only[List.length_append] at hlen
  cases t with
  |nil=>
   simp only[List.length_nil] at hlen;simp only[tC]
   repeat' (first
   |with_reducible (first|refine ax rfl ?_|refine aN ?_|refine aF ?_|refine hx0 _ ?_|refine hxL1 _ _ ?_)
   |(with_reducible (first|(refine ah (λK hK=>?_);(first|refine EC ?_|refine t119r12 ?_))|refine hqr _ ?_);(try simp only[SS,Nat.reduceEqDiff,r119,aQ,ak,aD,am,xA]))
   |(revert hK;intro hK;(first|refine And.intro ?_ ?_|intro _|omega|(with_reducible refine hK _ ?_;clear hK K))))
   rw[List.append_nil] at h3
   exact⟨H',l,rfl,by rw[h3];exact hP⟩
  |cons a t=>
   simp only[List.length_cons] at hlen;have hal:o[d.length]?=some a:=by rw[h3];simp
   have har:=hr a (List.mem_of_getElem? hal);have had:a∉d:=by
    intro h;rw[h3,List.nodup_append] at hnd;exact hnd.2.2 a h a List.mem_cons_self rfl
   have hvH:RdI H' vo o:=by
    rcases hv with h|h|⟨n,gn,vl,h1,h2⟩
    ·exact .inl h
    ·exact .inr (.inl h)
    ·exact .inr (.inr ⟨n,gn,vl,h1,by rw[hP.old n (List.getElem?_eq_some_iff.1 h2).1,h2]⟩)
   obtain⟨p,hp1,hp2⟩:=hvH.at hal (k:=.i64);have hw:IntKind.i64.wrap ((d.length:Int)+1)=d.length+1:=wI (by omega) (by omega);simp only[tC]
   repeat' (first
   |with_reducible (first|refine ar ?_|refine au rfl ?_|refine aj (id:=1) (λQ1 hn1 hx1 hr1 ho1=>?_))
   |(with_reducible (refine ah (λK hK=>?_);(first|refine EC ?_|refine t119r4 ?_|refine t119r5 ?_));(try simp only[SS,Nat.reduceEqDiff,lenS,hp1,hp2]))
   |(revert hK;intro hK;(first|refine And.intro ?_ ?_|intro _|omega|(with_reducible refine hK _ ?_;clear hK K))))
   refine k135 g hg gv hgv a har.1 har.2 rfl λvi m' hO hH' hf=>?_;simp only[hO.len,aJ];refine hK _ ?_;clear hK K;obtain⟨L2,H2⟩:=m'
   (try simp only at hH')
   have hH2:=hH'.symm;subst hH2
   repeat' (first
   |with_reducible refine bl (id:=2) (λQ2 hn2 hx2 hr2 ho2=>?_))
   have hil:(ins g a).length≤17592186044416:=by
    unfold ins;refine Nat.le_trans (List.length_filter_le _ _) ?_;rw[List.getD_eq_getElem?_getD,List.getElem?_eq_getElem (show a.toNat<g.length by omega),Option.getD_some];exact hg.2 _ (List.getElem_mem _)
   refine aU (λk s=>∃(d' t':List Int) (L:List (Nat×HO)) (H':List HO) (l:List (Int×CV)),ins g a=d'++t'∧k=t'.length∧PInv H.length H H' l (λy=>(d.filter λx=>decide (y∈ins g x))++if y∈d' then [a] else [])∧OwnE aX 1 ⟨L,H'⟩ 304 vi (ins g a) ∧
    s=⟨[(0,gv),(5,.map (.g H.length) 1),(7,.int .i64 a),(11,vo),(12,.int .i64 o.length),(13,.int .i64 d.length),(19,vi),(20,.int .i64 (ins g a).length),(21,.int .i64 d'.length)],⟨L,H'⟩⟩) _ ⟨[],ins g a,L2,H',l,rfl,rfl,?_,hO,rfl⟩ ?_
   ·simpa using hP
   rintro k s ⟨d',t',L3,H3,l3,h4,rfl,hP3,hO3,rfl⟩ QL0 hnL0 hxL0 hrL0;have hlen':=congrArg List.length h4;simp only[List.length_append] at hlen'
   cases t' with
   |nil=>
    simp only[List.length_nil] at hlen';simp only[tB]
    repeat' (first
    |with_reducible (first|refine ax rfl ?_|refine aN ?_|refine hn1 _ ?_|refine hx2 _ ?_|refine hxL0 _ _ ?_)
    |(with_reducible ((first|refine ah (λK hK=>?_)|refine aI (λK hK=>?_));(first|refine uq ?_|refine t119r11 ?_));(try simp only[SS,Nat.reduceEqDiff,hw]))
    |(revert hK;intro hK;(first|refine And.intro ?_ ?_|intro _|omega|(with_reducible refine hK _ ?_;clear hK K))))
    rw[List.append_nil] at h4;refine hnL1 t.length _ (by simp) ⟨d++[a],t,L3,H3,l3,by simp[h3],rfl,?_,by simp⟩;have:(λy=>(d++[a]).filter λx=>decide (y∈ins g x))=λy=>(d.filter λx=>decide (y∈ins g x))++if y∈d' then [a] else []:=by
     funext y;rw[rQ,←h4];simp
    rw[this];exact hP3
   |cons b t'=>
    simp only[List.length_cons] at hlen';have hbl:(ins g a)[d'.length]?=some b:=by rw[h4];simp
    obtain⟨q,hq1,hq2⟩:=hO3.at hbl (k:=.i64);have hw':IntKind.i64.wrap ((d'.length:Int)+1)=d'.length+1:=wI (by omega) (by omega);have hlk:=fK (t:=3) (a:=b) (z:=.nil) (ok:=false) Try.underlying3 (jq (m:=⟨L3,H3⟩) hP3.map);simp only[Bool.false_eq_true,if_false] at hlk;have hfl:=List.length_filter_le (λx=>decide (b∈ins g x)) d;have hcl:((d.filter λx=>decide (b∈ins g x))++if b∈d' then [a] else []).length≤1048577:=by
     rw[List.length_append];split<;>simp<;>omega
    have hct:aB An FF 119 (some 29) 85 [(al l3 b).getD .nil,.int .i64 a] ⟨L3,H3⟩=some (.bool (decide (b∈d')),⟨L3,H3⟩):=by
     have hR:=RdI.esc (.inr (hP3.ref b));rw[cf rfl (by simp only[List.all_cons,hR];rfl) (x85 H3 _ _ a (.inr (hP3.ref b)) (by omega)),eY]
     congr 3
     have:a∉d.filter λx=>decide (b∈ins g x):=λh=>had (List.mem_filter.1 h).1
     by_cases hb:b∈d'<;>simp[hb,had]
    simp only[tB]
    by_cases hb:b∈d'
    ·repeat' (first
     |with_reducible (first|refine ar ?_|refine au rfl ?_|refine bn rfl ?_|refine bx ?_|refine aj (id:=3) (λQ3 hn3 hx3 hr3 ho3=>?_)|refine hn3 _ ?_)
     |(with_reducible ((first|refine ah (λK hK=>?_)|refine aI (λK hK=>?_));(first|refine uq ?_|refine ED ?_|refine EF ?_|refine wn ?_));(try simp only[SS,Nat.reduceEqDiff,Bool.not_true,decide_true,hq1,hq2,hlk,hct,hb,hw']))
     |(revert hK;intro hK;(first|refine And.intro ?_ ?_|intro _|omega|(with_reducible refine hK _ ?_;clear hK K))))
     refine hnL0 t'.length _ (by simp) ⟨d'++[b],t',L3,H3,l3,by simp[h4],rfl,?_,hO3,by simp⟩;have:(λy=>(d.filter λx=>decide (y∈ins g x))++if y∈d'++[b] then [a] else [])=λy=>(d.filter λx=>decide (y∈ins g x))++if y∈d' then [a] else []:=by
      funext y
      have:(y∈d'++[b])↔y∈d':=by
       rw[List.mem_append,List.mem_singleton]
       exact⟨λh=>h.elim (λh=>h) (λh=>by rw[h];exact hb),.inl⟩
      simp only[this]
     rw[this];exact hP3
    ·repeat' (first
     |with_reducible (first|refine ar ?_|refine au rfl ?_|refine bc rfl ?_|refine aj (id:=3) (λQ3 hn3 hx3 hr3 ho3=>?_))
     |(with_reducible ((first|refine ah (λK hK=>?_)|refine aI (λK hK=>?_));(first|refine uq ?_|refine ED ?_|refine EF ?_|refine t119r9 ?_));(try simp only[SS,Nat.reduceEqDiff,ap,dj,ef,Bool.not_false,bg,be,bF,ay,cz,List.all_cons,List.all_nil,Bool.and_self,decide_false,hq1,hq2,hlk,hct,hb,hw']))
     |(revert hK;intro hK;(first|refine And.intro ?_ ?_|intro _|omega|(with_reducible refine hK _ ?_;clear hK K))))
     obtain⟨v,H4,H5,l5,a1,a2,a3⟩:=hP3.step b a (j:=608) (jt:=592) (gt:=bj L3 592) (L:=(bi ⟨L3,H3⟩ 592 (.arr (bj L3 592) 1 [.int .i64 a] 0)).L) (by rw[ba,if_pos rfl]) (by omega);refine mQ a1 ?_;refine mQ a2 ?_;refine hK _ ?_;clear hK K
     repeat' (first
     |with_reducible refine hn3 _ ?_
     |(with_reducible (refine aI (λK hK=>?_);refine wn ?_);(try simp only[SS,Nat.reduceEqDiff,hw']))
     |(with_reducible refine hK _ ?_;clear hK K))
     refine hnL0 t'.length _ (by simp) ⟨d'++[b],t',(bi ⟨L3,H3⟩ 592 (.arr (bj L3 592) 1 [.int .i64 a] 0)).L,H5,l5,by simp[h4],rfl,?_,hO3.keep (by rw[ba,if_neg (by decide)]),by simp⟩;have:(λy=>(d.filter λx=>decide (y∈ins g x))++if y∈d'++[b] then [a] else [])=λz=>if z=b then ((d.filter λx=>decide (b∈ins g x))++if b∈d' then [a] else [])++[a] else (d.filter λx=>decide (z∈ins g x))++if z∈d' then [a] else []:=by
      funext y
      by_cases hy:y=b
      ·subst hy;simp[hb]
      ·simp[hy]
     rw[this];exact a3
 obtain⟨_,⟨H',l,rfl,h1⟩,h2⟩:=hres
 exact⟨H',l,h2,h1⟩
end Go.Cm
namespace Go.Cm
open Go.Proofs Go.Gr
def uf (up:List Int) (x:Int):Int:=if 0≤x then up.getD x.toNat (-1) else -1
theorem uP {up:List Int}{x:Int}(h0:0≤x) (h1:x<up.length):up[x.toNat]?=some (uf up x):=by
 have:x.toNat<up.length:=by omega
 simp[uf,h0,List.getD_eq_getElem?_getD,List.getElem?_eq_getElem this]
theorem uf_set {up:List Int}{x m:Int}(h0:0≤x) (h1:x<up.length):uf (up.set x.toNat m)=Go.Gr.upd (uf up) x m:=by
 funext z
 unfold uf Go.Gr.upd
 by_cases hz:z=x
 ·subst hz
  have:z.toNat<up.length:=by omega
  simp[h0,List.getD_eq_getElem?_getD,this]
 ·rw[if_neg hz]
  split
  ·rename_i hz0
   have:x.toNat≠z.toNat:=by omega
   simp[hz0,List.getD_eq_getElem?_getD,List.getElem?_set_ne this]
  ·rename_i hz0
   simp[hz0]
structure PEnv (g:List (List Int)) (p q qu:Nat) (H:List HO) (up:List Int):Prop where
 plc:∃pm lp,H[p]?=some (.var 1 [.map (.g pm) 1] 0)∧H[pm]?=some (.map 1 (esI .i64 lp))∧(∀x∈ord g,al lp x=some (.int .i64 (pl g x)))∧p≠qu∧pm≠qu
 upv:H[q]?=some (.var 1 [.ref (.g qu) 1 0 g.length] 0)∧q≠qu
 upa:H[qu]?=some (.arr 1 1 (up.flatMap aX) 0)
 ul:up.length=g.length
theorem PEnv.at {g:List (List Int)}{p q qu:Nat}{H:List HO}{up:List Int}(h:PEnv g p q qu H up) {x:Int}(hx:x∈ord g):∃pt,bd 1 (.ref (.g qu) 1 0 g.length) (.int .i64 x)=some pt∧∀L,ld1 ⟨L,H⟩ pt=some (.int .i64 (uf up x)):=by
 have hr:=((cu g x).1 hx).range
 refine⟨.ptr (.g qu) 1 x.toNat,?_,λL=>?_⟩
 ·rw[bD,if_pos ⟨hr.1,by omega⟩];simp
 ·rw[ce];simp only[h.upa,bM,fX,uP hr.1 (by rw[h.ul];exact hr.2)];rfl
structure Meet2 (u:Int→Int) (a b m:Int):Prop where
 set:Set u m
 iff:∀c,Ch u m c↔Ch u a c∧Ch u b c
theorem qm {g:List (List Int)}{u:Int→Int}(hV:Val g u) {a b:Int}(ha:Set u a) (h:pl g b<pl g a):u a ≠ -1∧Set u (u a)∧pl g (u a)<pl g a∧∀c,(Ch u (u a) c∧Ch u b c)↔(Ch u a c∧Ch u b c):=by
 have hne:u a ≠ -1:=by
  rcases ha with rfl|h1
  ·exfalso
   obtain⟨r,hr⟩:=iV hV.ne;have:pl g 0=0:=by simp[pl,hr]
   omega
  ·exact h1
 refine⟨hne,hV.set a hne,(hV.up a hne).2.2,λc=>⟨λh1=>⟨.step hne h1.1,h1.2⟩,λh1=>⟨?_,h1.2⟩⟩⟩
 cases h1.1 with
 |self=>exfalso;have:=hV.le' h1.2;omega
 |step _ h2=>exact h2
theorem x120 (g:List (List Int)) (p q qu:Nat) (H:List HO) (up:List Int) (hE:PEnv g p q qu H up) (hV:Val g (uf up)) (a b:Int) (ha:Set (uf up) a) (hb:Set (uf up) b) :
  ∃r,(∃m,r=(CV.int .i64 m,H)∧Meet2 (uf up) a b m)∧FF 120 [.int .i64 a,.int .i64 b,.ptr (.g p) 1 0,.ptr (.g q) 1 0] H=some r:=by
 obtain⟨pm,lp,e1,e2,e3,_,_⟩:=hE.plc;have e4:=hE.upv.1;have hlk:=λL (x:Int) (z:CV)=>fK (t:=3) (a:=x) (z:=z) (ok:=false) Try.underlying3 (jq (m:=⟨L,H⟩) e2);simp only[Bool.false_eq_true,if_false] at hlk;refine bA rfl Try.func120 s120 (Nat.le_of_ble_eq_true rfl) (λQ hqr hqn=>?_);rw[show ∀a,cin (An.pure 120) a=a from λ_=>rfl];simp only[aO,Nat.reduceAdd,c120]
 repeat' (first
 |with_reducible refine aj (id:=0) (λQ0 hn0 hx0 hr0 ho0=>?_)
 |(with_reducible (refine ah (λK hK=>?_);refine t120r0 ?_);(try simp only[SS,Nat.reduceEqDiff]))
 |(with_reducible refine hK _ ?_;clear hK K))
 refine aU (λk s=>∃(x y:Int) (sl:List (Nat×CV)) (L:List (Nat×HO)),Set (uf up) x∧Set (uf up) y∧(∀c,(Ch (uf up) x c∧Ch (uf up) y c)↔(Ch (uf up) a c∧Ch (uf up) b c))∧k=pl g x+pl g y ∧
  s=⟨sl,⟨L,H⟩⟩∧ac sl 0=.int .i64 x∧ac sl 1=.int .i64 y∧ac sl 2=.ptr (.g p) 1 0∧ac sl 3=.ptr (.g q) 1 0) _ ⟨a,b,_,[],ha,hb,λ_=>Iff.rfl,rfl,rfl,rfl,rfl,rfl,rfl⟩ ?_
 rintro k s ⟨x,y,sl0,L,hx,hy,hxy,rfl,rfl,t0,t1,t2,t3⟩ QL2 hnL2 hxL2 hrL2;simp only[zE]
 by_cases hne:x=y
 ·subst hne
  repeat' (first
  |with_reducible (first|refine ai ?_|refine ax rfl ?_|refine aN ?_|refine aF ?_|refine hx0 _ ?_|refine hxL2 _ _ ?_)
  |(with_reducible (first|(refine ah (λK hK=>?_);(first|refine EG ?_|refine t120r6 ?_))|refine hqr _ ?_);(try simp only[SS,Nat.reduceEqDiff,br,r120,aQ,ak,aD,am,bz,CV.int.injEq,t0,t1,t2,t3]))
  |(with_reducible refine hK _ ?_;clear hK K))
  exact⟨x,rfl,hx,λc=>by rw[←hxy];exact(and_self_iff).symm⟩
 ·have hpne:pl g x≠pl g y:=λh=>hne (qU (hV.mem hx) (hV.mem hy) h)
  repeat' (first
  |with_reducible (first|refine ai ?_|refine ar ?_|refine au rfl ?_|refine bl (id:=1) (λQ1 hn1 hx1 hr1 ho1=>?_)|refine aj (id:=2) (λQ2 hn2 hx2 hr2 ho2=>?_))
  |(with_reducible (refine ah (λK hK=>?_);refine EG ?_);(try simp only[SS,br,t0,t1,t2,t3]))
  |(revert hK;intro hK;(first|refine And.intro ?_ ?_|intro _|omega|(with_reducible refine hK _ ?_;clear hK K))))
  clear t0 t1 t2 t3;refine aU (λk s=>∃(x':Int) (sl:List (Nat×CV)) (L:List (Nat×HO)),Set (uf up) x'∧(∀c,(Ch (uf up) x' c∧Ch (uf up) y c)↔(Ch (uf up) a c∧Ch (uf up) b c))∧k=pl g x'∧(x'=x∨pl g x'<pl g x) ∧
   s=⟨sl,⟨L,H⟩⟩∧ac sl 0=.int .i64 x'∧ac sl 1=.int .i64 y∧ac sl 2=.ptr (.g p) 1 0∧ac sl 3=.ptr (.g q) 1 0) _ ⟨x,_,L,hx,hxy,rfl,.inl rfl,rfl,rfl,rfl,rfl,rfl⟩ ?_
  rintro k s ⟨x',sl,L',hx',hxy',rfl,hle,rfl,t0,t1,t2,t3⟩ QL0 hnL0 hxL0 hrL0;have a1:=e3 x' (hV.mem hx');have a2:=e3 y (hV.mem hy);simp only[zC]
  by_cases hgt:(pl g y:Int)<pl g x'
  ·obtain⟨c1,c2,c3,c4⟩:=qm hV hx' (show pl g y<pl g x' by omega)
   obtain⟨pt,g1,g2⟩:=hE.at (hV.mem hx')
   repeat' (first
   |with_reducible (first|refine ai ?_|refine ar ?_|refine au rfl ?_|refine bl (id:=3) (λQ3 hn3 hx3 hr3 ho3=>?_)|refine hn3 _ ?_)
   |(with_reducible ((first|refine ah (λK hK=>?_)|refine aI (λK hK=>?_));(first|refine EH ?_|refine t120r3 ?_));(try simp only[SS,Nat.reduceEqDiff,bq,t0,t1,t2,t3,ce,e1,e4,hlk,a1,a2,Option.getD_some,hgt,g1,g2]))
   |(with_reducible refine hK _ ?_;clear hK K))
   exact hnL0 _ _ c3 ⟨uf up x',_,L',c2,λc=>by rw[c4,hxy'],rfl,.inr (by rcases hle with h|h;rw[←h];exact c3;omega),rfl,rfl,rfl,rfl,rfl⟩
  ·repeat' (first
   |with_reducible (first|refine ai ?_|refine ax rfl ?_|refine aN ?_|refine hx2 _ ?_|refine bl (id:=4) (λQ4 hn4 hx4 hr4 ho4=>?_)|refine hxL0 _ _ ?_)
   |(with_reducible (refine ah (λK hK=>?_);refine EH ?_);(try simp only[SS,bq,t0,t1,t2,t3,ce,e1,e4,hlk,a1,a2,Option.getD_some,hgt]))
   |(with_reducible refine hK _ ?_;clear hK K))
   refine aU (λk s=>∃(y':Int) (sl:List (Nat×CV)) (L:List (Nat×HO)),Set (uf up) y'∧(∀c,(Ch (uf up) x' c∧Ch (uf up) y' c)↔(Ch (uf up) a c∧Ch (uf up) b c))∧k=pl g y'∧(y'=y∨pl g y'<pl g y) ∧
    s=⟨sl,⟨L,H⟩⟩∧ac sl 0=.int .i64 x'∧ac sl 1=.int .i64 y'∧ac sl 2=.ptr (.g p) 1 0∧ac sl 3=.ptr (.g q) 1 0) _ ⟨y,_,L',hy,hxy',rfl,.inl rfl,rfl,rfl,rfl,rfl,rfl⟩ ?_
   rintro k s ⟨y',sl',L2,hy',hxy2,rfl,hle2,rfl,t0,t1,t2,t3⟩ QL1 hnL1 hxL1 hrL1;have a2:=e3 y' (hV.mem hy');simp only[zD]
   by_cases hgt2:(pl g x':Int)<pl g y'
   ·obtain⟨c1,c2,c3,c4⟩:=qm hV hy' (show pl g x'<pl g y' by omega)
    obtain⟨pt,g1,g2⟩:=hE.at (hV.mem hy')
    repeat' (first
    |with_reducible (first|refine ai ?_|refine ar ?_|refine au rfl ?_|refine bl (id:=5) (λQ5 hn5 hx5 hr5 ho5=>?_)|refine hn5 _ ?_)
    |(with_reducible ((first|refine ah (λK hK=>?_)|refine aI (λK hK=>?_));(first|refine EI ?_|refine t120r5 ?_));(try simp only[SS,Nat.reduceEqDiff,bq,t0,t1,t2,t3,ce,e1,e4,hlk,a1,a2,Option.getD_some,hgt2,g1,g2]))
    |(with_reducible refine hK _ ?_;clear hK K))
    exact hnL1 _ _ c3 ⟨uf up y',_,L2,c2,λc=>by rw[←hxy2,and_comm,c4,and_comm],rfl,.inr (by rcases hle2 with h|h;rw[←h];exact c3;omega),rfl,rfl,rfl,rfl,rfl⟩
   ·repeat' (first
    |with_reducible (first|refine ai ?_|refine ax rfl ?_|refine aN ?_|refine hn1 _ ?_|refine hx4 _ ?_|refine hxL1 _ _ ?_)
    |(with_reducible (refine ah (λK hK=>?_);refine EI ?_);(try simp only[SS,bq,t0,t1,t2,t3,ce,e1,e4,hlk,a1,a2,Option.getD_some,hgt2]))
    |(with_reducible refine hK _ ?_;clear hK K))
    refine hnL2 (pl g x'+pl g y') _ ?_ ⟨x',y',_,L2,hx',hy',hxy2,rfl,rfl,rfl,rfl,rfl,rfl⟩;have h1:pl g x'=pl g x∨pl g x'<pl g x:=by
     rcases hle with h|h
     ·left;rw[h]
     ·exact .inr h
    have h2:pl g y'=pl g y∨pl g y'<pl g y:=by
     rcases hle2 with h|h
     ·left;rw[h]
     ·exact .inr h
    omega
end Go.Cm
namespace Go.Cm
open Go.Proofs Go.Gr
def RefN (qu:Nat) (H:List HO) (v:CV) (l:List Int):Prop:=(l=[]∧v=.nil)∨∃n g vl,n≠qu∧v=.ref (.g n) g 0 l.length∧H[n]?=some (.arr g 1 (l.flatMap aX) vl)
theorem RefN.ref {qu:Nat}{H:List HO}{v:CV}{l:List Int}(h:RefN qu H v l):RefG H v l:=by
 rcases h with h|⟨n,g,vl,_,h1,h2⟩
 ·exact .inl h
 ·exact .inr ⟨n,g,vl,h1,h2⟩
theorem RefN.set {qu:Nat}{H:List HO}{v:CV}{l:List Int}(h:RefN qu H v l) {o:HO}:RefN qu (H.set qu o) v l:=by
 rcases h with h|⟨n,g,vl,h0,h1,h2⟩
 ·exact .inl h
 ·exact .inr ⟨n,g,vl,h0,h1,by rw[List.getElem?_set_ne (Ne.symm h0),h2]⟩
structure IEnv (g:List (List Int)) (vo vf:CV) (p q qu:Nat) (H:List HO) (up:List Int):Prop extends PEnv g p q qu H up where
 ordr:RefN qu H vo (ord g)
 frm:∃nf lf,vf=.map (.g nf) 1∧H[nf]?=some (.map 1 (esI .i64 lf))∧nf≠qu∧∀y,RefN qu H ((al lf y).getD .nil) (prd g y)
theorem IEnv.put {g:List (List Int)}{vo vf:CV}{p q qu:Nat}{H:List HO}{up:List Int}(h:IEnv g vo vf p q qu H up) {up':List Int}(hl:up'.length=g.length):IEnv g vo vf p q qu (H.set qu (.arr 1 1 (up'.flatMap aX) 0)) up' where
 plc:=by
  obtain⟨pm,lp,h1,h2,h3,h4,h5⟩:=h.plc
  exact⟨pm,lp,by rw[List.getElem?_set_ne (Ne.symm h4),h1],by rw[List.getElem?_set_ne (Ne.symm h5),h2],h3,h4,h5⟩
 upv:=⟨by rw[List.getElem?_set_ne (Ne.symm h.upv.2),h.upv.1],h.upv.2⟩
 upa:=List.getElem?_set_self (List.getElem?_eq_some_iff.1 h.upa).1
 ul:=hl
 ordr:=h.ordr.set
 frm:=by
  obtain⟨nf,lf,h1,h2,h3,h4⟩:=h.frm
  exact⟨nf,lf,h1,by rw[List.getElem?_set_ne (Ne.symm h3),h2],h3,λy=>(h4 y).set⟩
structure IdomOK (g:List (List Int)) (up:List Int):Prop where
 inv:Go.Gr.Inv g (uf up) (ord g).length
 fin:∀x∈ord g,x≠0→Meets g (uf up) x (uf up x)
set_option maxHeartbeats 2000000 in
theorem x91 (g:List (List Int)) (hg:Sm g) (gv:CV) (hgv:IsRows gv g) (H0:List HO) :
  ∃r,(∃v H' up,r=(v,H')∧(∃n,H0.length≤n∧v=.ref (.g n) 1 0 g.length∧H'[n]?=some (.arr 1 1 (up.flatMap aX) 0))∧up.length=g.length∧(g≠[]→IdomOK g up)∧(∀i:Nat,0≤(i:Int)→(i:Int)∉ord g→uf up i = -1)∧∀i,i<H0.length→H'[i]?=H0[i]?) ∧
   FF 91 [gv] H0=some r:=by
 obtain⟨vo,T,h1,h2⟩:=x112 g hg gv hgv H0;have hol:=qS g;have hgl:=hg.1;generalize hH1:H0++T=H1 at h1 h2;have hc1:aB An FF 91 (some 18) 112 [gv] ⟨[],H0⟩=some (vo,⟨[],H1⟩):=by
  rw[cf rfl (by simp only[List.all_cons,List.all_nil,dQ hgv.esc,Bool.and_self]) h1];rcases h2 with⟨_,rfl⟩|⟨n,gn,vl,rfl,_⟩<;>rfl
 have hmk:=λm=>wd (j:=384) (sz:=1) (b:=8) (z:=[.int .i64 0]) (k:=.i64) (n:=g.length) (m:=m) rfl (by omega) (by omega)
 let Hs:List (Int×CV)→List Int→List HO:=λlp up=>H1++[.map 1 (esI .i64 lp),.var 1 [.map (.g H1.length) 1] 0,.arr 1 1 (up.flatMap aX) 0,.var 1 [.ref (.g (H1.length+2)) 1 0 g.length] 0]
 have hHs:∀lp up,H1++[.map 1 (esI .i64 lp),.var 1 [.map (.g H1.length) 1] 0,.arr 1 1 (up.flatMap aX) 0,.var 1 [.ref (.g (H1.length+2)) 1 0 g.length] 0]=Hs lp up:=λ_ _=>rfl;have g1:∀lp up,(Hs lp up)[H1.length+1]?=some (.var 1 [.map (.g H1.length) 1] 0):=λlp up=>by rw[←hHs,gA];rfl
 have g0:∀lp up,(Hs lp up)[H1.length]?=some (.map 1 (esI .i64 lp)):=λlp up=>by rw[←hHs,nM];rfl
 have g2:∀lp up,(Hs lp up)[H1.length+2]?=some (.arr 1 1 (up.flatMap aX) 0):=λlp up=>by rw[←hHs,gA];rfl
 have g3:∀lp up,(Hs lp up)[H1.length+3]?=some (.var 1 [.ref (.g (H1.length+2)) 1 0 g.length] 0):=λlp up=>by rw[←hHs,gA];rfl
 have gs:∀L lp (up:List Int) (i:Nat) (v:Int),i<up.length→stX 1 ⟨L,Hs lp up⟩ (.ptr (.g (H1.length+2)) 1 i) (.int .i64 v)=some ⟨L,Hs lp (up.set i v)⟩:=λL lp up i v hi=>by
  rw[jz (g2 lp up) (by rw[dL];exact hi) rfl rfl,mN,←hHs,ot];rfl
 have gm:∀L lp up (x v:Int),mB Try.prog 3 (.map (.g H1.length) 1) (.int .i64 x) (.int .i64 v) ⟨L,Hs lp up⟩=some ⟨L,Hs (jP lp x (.int .i64 v)) up⟩:=λL lp up x v=>by
  have:=kR (P:=Try.prog) (t:=3) (k:=.i64) (key:=.g H1.length) (g:=1) (a:=x) (v:=.int .i64 v) (m:=⟨L,Hs lp up⟩) (l:=lp) Try.underlying3 rfl (g0 lp up);rw[this];simp only[Mem.set,←hHs,p4];rfl
 have hi0:H1++[.map 1 [],.var 1 [.map (.g H1.length) 1] 0,.arr 1 1 (List.flatMap aX (List.replicate g.length 0)) 0,.var 1 [.ref (.g (H1.length+2)) 1 0 g.length] 0]=Hs [] (List.replicate g.length 0):=rfl;refine bA rfl Try.func91 s91 (Nat.le_of_ble_eq_true rfl) (λQ hqr hqn=>?_);rw[show ∀a,cin (An.pure 91) a=a from λ_=>rfl];simp only[aO,Nat.reduceAdd,c91]
 repeat' (first
 |with_reducible (first|refine ai ?_|refine aj (id:=0) (λQ0 hn0 hx0 hr0 ho0=>?_))
 |(with_reducible (refine ah (λK hK=>?_);(first|refine t91r0 ?_|refine t91r1 ?_|refine t91r2 ?_|refine t91r3 ?_|refine t91r4 ?_));(try simp only[SS,Nat.reduceEqDiff,ap,Nat.reduceAdd,lenS,bF,ay,cz,List.all_cons,List.all_nil,Bool.and_self,ce,kL,gA,nM,ot,p4,iK,iM,iI,iN,iL,iJ,pR,pS,jE,gQ,fD,List.append_assoc,List.length_append,List.set_cons_succ,List.set_cons_zero,cn,eV,mmX,dK,hgv.len,hc1,h2.len,hmk,Eh]))
 |(with_reducible refine hK _ ?_;clear hK K))
 rw[hi0];clear hi0
 clear_value Hs
 refine aU (λk s=>∃(i:Nat) (up:List Int),i≤g.length∧k=g.length - i∧up.length=g.length∧(∀j,j<i→up[j]?=some (-1)) ∧
  s=⟨[(0,gv),(3,vo),(4,.ptr (.g (H1.length+1)) 1 0),(5,.ptr (.g (H1.length+3)) 1 0),(26,.int .i64 g.length),(27,.int .i64 i)],⟨[],Hs [] up⟩⟩) _ ⟨0,List.replicate g.length 0,by omega,rfl,by simp,λj hj=>by omega,rfl⟩ ?_
 rintro k s ⟨i,up,hi,rfl,hul,huj,rfl⟩ QL0 hnL0 hxL0 hrL0
 by_cases hlt:i<g.length
 ·have hx:bd 1 (.ref (.g (H1.length+2)) 1 0 g.length) (.int .i64 i)=some (.ptr (.g (H1.length+2)) 1 i):=by
   rw[bD,if_pos ⟨by omega,by omega⟩];simp
  have hw:IntKind.i64.wrap ((i:Int)+1)=i+1:=wI (by omega) (by omega);have hs1:=gs [] [] up i (-1) (by omega);simp only[Df]
  repeat' (first
  |with_reducible (first|refine ar ?_|refine au rfl ?_|refine aj (id:=1) (λQ1 hn1 hx1 hr1 ho1=>?_)|refine hn1 _ ?_)
  |(with_reducible ((first|refine ah (λK hK=>?_)|refine aI (λK hK=>?_));(first|refine t91r5 ?_|refine t91r6 ?_|refine t91r7 ?_|refine t91r8 ?_));(try simp only[SS,Nat.reduceEqDiff,ce,g3,hx,hs1,hw]))
  |(revert hK;intro hK;(first|refine And.intro ?_ ?_|intro _|omega|(with_reducible refine hK _ ?_;clear hK K))))
  refine hnL0 (g.length - (i+1)) _ (by omega) ⟨i+1,up.set i (-1),by omega,rfl,by simp[hul],λj hj=>?_,by simp⟩;rw[List.getElem?_set]
  by_cases hji:i=j
  ·subst hji;rw[if_pos rfl,if_pos (by omega)]
  ·rw[if_neg hji];exact huj j (by omega)
 have hie:i=g.length:=by omega
 have hup:up=List.replicate g.length (-1):=by
  refine List.ext_getElem? λj=>?_
  by_cases hj:j<g.length
  ·rw[huj j (by omega),List.getElem?_replicate,if_pos hj]
  ·rw[List.getElem?_eq_none (by omega),List.getElem?_replicate,if_neg hj]
 subst hie;subst hup;simp only[Df]
 repeat' (first
 |with_reducible (first|refine ai ?_|refine ax rfl ?_|refine aN ?_|refine hx0 _ ?_|refine aj (id:=2) (λQ2 hn2 hx2 hr2 ho2=>?_)|refine hxL0 _ _ ?_)
 |(with_reducible (refine ah (λK hK=>?_);(first|refine t91r5 ?_|refine t91r9 ?_));(try simp only[SS,Nat.reduceEqDiff,lenS,h2.len]))
 |(revert hK;intro hK;(first|refine And.intro ?_ ?_|intro _|omega|(with_reducible refine hK _ ?_;clear hK K))))
 refine aU (λk s=>∃(d t:List Int) (lp:List (Int×CV)),ord g=d++t∧k=t.length∧(∀x∈d,al lp x=some (.int .i64 (pl g x))) ∧
  s=⟨[(0,gv),(3,vo),(4,.ptr (.g (H1.length+1)) 1 0),(5,.ptr (.g (H1.length+3)) 1 0),(34,vo),(35,.int .i64 (ord g).length),(36,.int .i64 d.length)],⟨[],Hs lp (List.replicate g.length (-1))⟩⟩) _ ⟨[],ord g,[],rfl,rfl,by simp,rfl⟩ ?_
 rintro k s ⟨d,t,lp,h3,rfl,hlp,rfl⟩ QL1 hnL1 hxL1 hrL1;have hlen:=congrArg List.length h3;simp only[List.length_append] at hlen;have hvH:∀lp up,RefG (Hs lp up) vo (ord g):=λlp up=>by rw[←hHs];exact h2.app
 cases t with
 |cons a t=>
  simp only[List.length_cons] at hlen;have hal:(ord g)[d.length]?=some a:=by rw[h3];simp
  obtain⟨hpl,hao⟩:=lE hal;obtain⟨p,hp1,hp2⟩:=(hvH lp (List.replicate g.length (-1))).at hal (k:=.i64);have hw:IntKind.i64.wrap ((d.length:Int)+1)=d.length+1:=wI (by omega) (by omega);simp only[Dg]
  repeat' (first
  |with_reducible (first|refine ar ?_|refine au rfl ?_|refine aj (id:=3) (λQ3 hn3 hx3 hr3 ho3=>?_)|refine hn3 _ ?_)
  |(with_reducible ((first|refine ah (λK hK=>?_)|refine aI (λK hK=>?_));(first|refine FI ?_|refine t91r11 ?_|refine t91r12 ?_|refine t91r13 ?_));(try simp only[SS,Nat.reduceEqDiff,ce,g1,hp1,hp2,gm,hw]))
  |(revert hK;intro hK;(first|refine And.intro ?_ ?_|intro _|omega|(with_reducible refine hK _ ?_;clear hK K))))
  refine hnL1 t.length _ (by simp) ⟨d++[a],t,jP lp a (.int .i64 d.length),by simp[h3],rfl,λx hx=>?_,by simp⟩;rw[kr]
  by_cases hxa:a=x
  ·subst hxa;rw[if_pos rfl,hpl]
  ·rw[if_neg hxa]
   rcases List.mem_append.1 hx with h|h
   ·exact hlp x h
   ·exact absurd (List.mem_singleton.1 h).symm hxa
 |nil=>
  simp only[List.length_nil] at hlen;rw[List.append_nil] at h3;have hd:=h3.symm;subst hd;obtain⟨H2,lf,hp1,hP⟩:=x119 g hg gv hgv (Hs lp (List.replicate g.length (-1))) vo (ord g) (.inr (hvH _ _)) (λx hx=>((cu g x).1 hx).range) (by omega) (lD g);have hsl:(Hs lp (List.replicate g.length (-1))).length=H1.length+4:=by rw[←hHs];simp
  rw[hsl] at hp1 hP;have hc2:aB An FF 91 (some 47) 119 [gv,vo] ⟨[],Hs lp (List.replicate g.length (-1))⟩=some (.map (.g (H1.length+4)) 1,⟨[],H2⟩):=by
   have hve:eV vo=true:=RdI.esc (.inr h2);rw[cf rfl (by simp only[List.all_cons,List.all_nil,hve,dQ hgv.esc,Bool.and_self]) hp1];rfl
  have hold:∀i,i<H1.length+4→H2[i]?=(Hs lp (List.replicate g.length (-1)))[i]?:=hP.old;have hE:IEnv g vo (.map (.g (H1.length+4)) 1) (H1.length+1) (H1.length+3) (H1.length+2) H2 (List.replicate g.length (-1)):=by
   refine { plc:=⟨H1.length,lp,by rw[hold _ (by omega),g1],by rw[hold _ (by omega),g0],hlp,by omega,by omega⟩,upv:=⟨by rw[hold _ (by omega),g3],by omega⟩,upa:=by rw[hold _ (by omega),g2],ul:=by simp,ordr:=?_,frm:=⟨H1.length+4,lf,rfl,hP.map,by omega,λy=>?_⟩ }
   ·rcases h2 with h|⟨n,gn,vl,k1,k2⟩
    ·exact .inl h
    ·have hn:=(List.getElem?_eq_some_iff.1 k2).1
     refine .inr ⟨n,gn,vl,by omega,k1,?_⟩;rw[hold n (by omega),←hHs,List.getElem?_append_left hn,k2]
   ·rcases hP.row y with⟨k1,k2⟩|⟨n,gn,k1,k2,k3⟩
    ·rw[k1];exact .inl ⟨k2,rfl⟩
    ·rw[k1];exact .inr ⟨n,gn,0,by omega,rfl,k3⟩
  have hold0:∀i,i<H0.length→H2[i]?=H0[i]?:=λi hi=>by
   have hle:H0.length≤H1.length:=by rw[←hH1];simp
   rw[hold i (by omega),←hHs,List.getElem?_append_left (by omega),←hH1,List.getElem?_append_left hi]
  have hle01:H0.length≤H1.length:=by rw[←hH1];simp
  clear hold hP hp1 hlp hH1 h1 hc1 hmk;simp only[Dg]
  repeat' (first
  |with_reducible (first|refine ai ?_|refine ax rfl ?_|refine aN ?_|refine hx2 _ ?_|refine aj (id:=4) (λQ4 hn4 hx4 hr4 ho4=>?_)|refine hxL1 _ _ ?_)
  |(with_reducible (refine ah (λK hK=>?_);(first|refine FI ?_|refine t91r14 ?_|refine t91r15 ?_|refine t91r16 ?_));(try simp only[SS,Nat.reduceEqDiff,hc2]))
  |(revert hK;intro hK;(first|refine And.intro ?_ ?_|intro _|omega|(with_reducible refine hK _ ?_;clear hK K))))
  refine aU (λk s=>∃(more:Bool) (up:List Int) (sl:List (Nat×CV)) (H:List HO),IEnv g vo (.map (.g (H1.length+4)) 1) (H1.length+1) (H1.length+3) (H1.length+2) H up∧(∀i,i<H0.length→H[i]?=H0[i]?) ∧
   (∀i:Nat,(i:Int)∉ord g→uf up i = -1) ∧
   (if more then (g≠[]→Go.Gr.Inv g (uf up) 1)∧k=Go.Gr.sh g (uf up)+1 else (g≠[]→IdomOK g up)∧k=0) ∧
   s=⟨sl,⟨[],H⟩⟩∧ac sl 3=vo∧ac sl 5=.ptr (.g (H1.length+3)) 1 0∧ac sl 9=.map (.g (H1.length+4)) 1 ∧
    ac sl 10=.func (.func 120) [] [.ptr (.g (H1.length+1)) 1 0,.ptr (.g (H1.length+3)) 1 0]∧ac sl 11=.bool more) _ ⟨true,List.replicate g.length (-1),_,H2,hE,hold0,λi _=>?_,⟨λh=>?_,rfl⟩,rfl,rfl,rfl,rfl,rfl,rfl⟩ ?_
  ·unfold uf
   rw[if_pos (by omega),List.getD_eq_getElem?_getD,List.getElem?_replicate]
   split<;>rfl
  ·have:uf (List.replicate g.length (-1))=λ_=>-1:=by
    funext x
    unfold uf;split
    ·rw[List.getD_eq_getElem?_getD,List.getElem?_replicate];split<;>rfl
    ·rfl
   rw[this];exact Go.Gr.Inv.start h
  clear hE hold0;rintro k s ⟨more,up,sl,H,hE,hold0,hun,hmore,rfl,t3,t5,t9,t10,t11⟩ QL4 hnL4 hxL4 hrL4;simp only[c91l4]
  cases more with
  |false=>
   obtain⟨hok,_⟩:=hmore
   repeat' (first
   |with_reducible (first|refine ai ?_|refine ax rfl ?_|refine aN ?_|refine aF ?_|refine hx4 _ ?_|refine hxL4 _ _ ?_)
   |(with_reducible (first|(refine ah (λK hK=>?_);(first|refine FJ ?_|refine t91r35 ?_))|refine hqr _ ?_);(try simp only[SS,Nat.reduceEqDiff,r91,aQ,ak,aD,am,lH,t3,t5,t9,t10,t11,ce,hE.upv.1]))
   |(with_reducible refine hK _ ?_;clear hK K))
   exact⟨_,_,up,⟨rfl,rfl⟩,⟨H1.length+2,by omega,rfl,hE.upa⟩,hE.ul,hok,λi _ h=>hun i h,hold0⟩
  |true=>
   obtain⟨hinv,rfl⟩:=hmore
   repeat' (first
   |with_reducible (first|refine ai ?_|refine ar ?_|refine au rfl ?_|refine bl (id:=5) (λQ5 hn5 hx5 hr5 ho5=>?_)|refine bl (id:=6) (λQ6 hn6 hx6 hr6 ho6=>?_))
   |(with_reducible (refine ah (λK hK=>?_);(first|refine FJ ?_|refine t91r18 ?_|refine t91r19 ?_));(try simp only[SS,Nat.reduceEqDiff,lenS,t3,t5,t9,t10,t11,hE.ordr.ref.len]))
   |(with_reducible refine hK _ ?_;clear hK K))
   clear t3 t5 t9 t10 t11;refine aU (λk s=>∃(d t:List Int) (mo:Bool) (up':List Int) (sl:List (Nat×CV)) (H':List HO),ord g=d++t∧k=t.length∧IEnv g vo (.map (.g (H1.length+4)) 1) (H1.length+1) (H1.length+3) (H1.length+2) H' up'∧(∀i,i<H0.length→H'[i]?=H0[i]?) ∧
    (∀i:Nat,(i:Int)∉ord g→uf up' i = -1)∧(g≠[]→Go.Gr.Inv g (uf up') (max 1 d.length)) ∧
    (if mo then Go.Gr.sh g (uf up')<Go.Gr.sh g (uf up) else uf up'=uf up∧∀x∈d,x≠0→Meets g (uf up) x (uf up x)) ∧
    s=⟨sl,⟨[],H'⟩⟩∧ac sl 3=vo∧ac sl 5=.ptr (.g (H1.length+3)) 1 0∧ac sl 9=.map (.g (H1.length+4)) 1 ∧
     ac sl 10=.func (.func 120) [] [.ptr (.g (H1.length+1)) 1 0,.ptr (.g (H1.length+3)) 1 0]∧ac sl 11=.bool mo∧ac sl 50=vo∧ac sl 51=.int .i64 (ord g).length∧ac sl 52=.int .i64 d.length)
    _ ⟨[],ord g,false,up,_,H,rfl,rfl,hE,hold0,hun,hinv,⟨rfl,by simp⟩,rfl,rfl,rfl,rfl,rfl,rfl,rfl,rfl,rfl⟩ ?_
   clear hE hold0 hun hinv;rintro k s ⟨d,t,mo,up',sl3,H',h3,rfl,hE,hold0,hun,hinv,hmo,rfl,t3,t5,t9,t10,t11,t50,t51,t52⟩ QL3 hnL3 hxL3 hrL3;have hlen:=congrArg List.length h3;simp only[List.length_append] at hlen;simp only[c91l3]
   cases t with
   |nil=>
    simp only[List.length_nil] at hlen
    repeat' (first
    |with_reducible (first|refine ax rfl ?_|refine aN ?_|refine hn5 _ ?_|refine hx6 _ ?_|refine hxL3 _ _ ?_)
    |(with_reducible (refine ah (λK hK=>?_);refine uH ?_);(try simp only[SS,t3,t5,t9,t10,t11,t50,t51,t52]))
    |(revert hK;intro hK;(first|refine And.intro ?_ ?_|intro _|omega|(with_reducible refine hK _ ?_;clear hK K))))
    rw[List.append_nil] at h3;have hinv':g≠[]→Go.Gr.Inv g (uf up') (ord g).length:=λh=>by
     have h1:=hinv h;obtain⟨r,hr⟩:=iV h;have h2:1≤(ord g).length:=by rw[hr];simp
     rwa [←h3,Nat.max_eq_right h2] at h1
    cases mo with
    |true=>
     simp only[if_true] at hmo;exact hnL4 (Go.Gr.sh g (uf up')+1) _ (by omega) ⟨true,up',_,H',hE,hold0,hun,⟨λh=>(hinv' h).again,rfl⟩,rfl,rfl,rfl,rfl,rfl,rfl⟩
    |false=>
     simp only[Bool.false_eq_true,if_false] at hmo;exact hnL4 0 _ (by omega) ⟨false,up',_,H',hE,hold0,hun,⟨λh=>⟨hinv' h,λx hx h0=>by rw[hmo.1];exact hmo.2 x (by rw[←h3];exact hx) h0⟩,rfl⟩,rfl,rfl,rfl,rfl,rfl,rfl⟩
   |cons a t=>
    simp only[List.length_cons] at hlen;have hal:(ord g)[d.length]?=some a:=by rw[h3];simp
    obtain⟨hpl,hao⟩:=lE hal;have hgn:g≠[]:=λh=>by rw[h] at hao;simp[ord] at hao
    have har:=((cu g a).1 hao).range;obtain⟨r0,hr0⟩:=iV hgn;obtain⟨p,hp1,hp2⟩:=hE.ordr.ref.at hal (k:=.i64);have hw:IntKind.i64.wrap ((d.length:Int)+1)=d.length+1:=wI (by omega) (by omega)
    by_cases hd0:d.length=0
    ·have hd:d=[]:=List.eq_nil_of_length_eq_zero hd0
     subst hd;have ha0:a=0:=by rw[hr0] at hal;simpa using hal.symm
     have t52:ac sl3 52=.int .i64 0:=t52;have hp1:bd 1 vo (.int .i64 0)=some p:=hp1;have hw:IntKind.i64.wrap ((0:Int)+1)=1:=wI (by omega) (by omega);have hlt:(0:Int)<(ord g).length:=by omega
     repeat' (first
     |with_reducible (first|refine ai ?_|refine ar ?_|refine au rfl ?_|refine aN ?_|refine aj (id:=7) (λQ7 hn7 hx7 hr7 ho7=>?_)|refine hx7 _ ?_)
     |(with_reducible ((first|refine ah (λK hK=>?_)|refine aI (λK hK=>?_));(first|refine uH ?_|refine FK ?_|refine FL ?_|refine uK ?_));(try simp only[SS,Nat.reduceEqDiff,t3,t5,t9,t10,t11,t50,t51,t52,hp1,hp2,hw,hlt]))
     |(with_reducible refine hK _ ?_;clear hK K))
     refine hnL3 t.length _ (by simp) ⟨[a],t,mo,up',_,H',by simp[h3],rfl,hE,hold0,hun,hinv,?_,rfl,rfl,rfl,rfl,rfl,rfl,rfl,rfl,rfl⟩
     cases mo with
     |true=>exact hmo
     |false=>
      refine⟨hmo.1,λx hx h0=>?_⟩
      rw[List.mem_singleton.1 hx] at h0;exact absurd ha0 h0
    ·have hdi:¬(d.length:Int)=0:=by omega
     obtain⟨nf,lf,f1,f2,f3,f4⟩:=hE.frm;simp only[CV.map.injEq,Key.g.injEq,and_true] at f1;subst f1;have hlk:=fK (t:=3) (a:=a) (z:=.nil) (ok:=false) Try.underlying3 (jq (m:=⟨[],H'⟩) f2);simp only[Bool.false_eq_true,if_false] at hlk;have hpr:=List.length_filter_le (λy=>decide (a∈ins g y)) (ord g);have hprl:(prd g a).length≤1048576:=by unfold prd;omega
     repeat' (first
     |with_reducible (first|refine ai ?_|refine ar ?_|refine au rfl ?_|refine ax rfl ?_|refine aj (id:=7) (λQ7 hn7 hx7 hr7 ho7=>?_)|refine aj (id:=8) (λQ8 hn8 hx8 hr8 ho8=>?_))
     |(with_reducible (refine ah (λK hK=>?_);(first|refine uH ?_|refine FK ?_|refine FL ?_|refine t91r23 ?_|refine t91r24 ?_));(try simp only[SS,Nat.reduceEqDiff,lenS,t3,t5,t9,t10,t11,t50,t51,t52,hp1,hp2,hw,hdi,hlk,(f4 a).ref.len]))
     |(revert hK;intro hK;(first|refine And.intro ?_ ?_|intro _|omega|(with_reducible refine hK _ ?_;clear hK K))))
     have hI:=hinv hgn;rw[Nat.max_eq_right (by omega)] at hI;have hV:=hI.toVal;have hx0:a≠0:=λh=>by
      rw[h] at hpl;have:pl g 0=0:=by simp[pl,hr0]
      omega
     rw[←hpl] at hI;obtain⟨pz,hz1,hz2⟩:=hE.ordr.ref.at (i:=0) (a:=0) (by rw[hr0];rfl) (k:=.i64);have hz1:bd 1 vo (.int .i64 0)=some pz:=hz1;have hup:=hE.upv.1;clear t3 t5 t9 t10 t11 t50 t51 t52;refine aU (λk s=>∃(d' t':List Int) (best:Int) (sl:List (Nat×CV)),prd g a=d'++t'∧k=t'.length ∧
      ((best = -1∧∀y∈d',¬Set (uf up') y)∨(Set (uf up') best∧∀c,Ch (uf up') best c↔∀y∈d',Set (uf up') y→Ch (uf up') y c)) ∧
      s=⟨sl,⟨[],H'⟩⟩∧ac sl 3=vo∧ac sl 5=.ptr (.g (H1.length+3)) 1 0∧ac sl 9=.map (.g (H1.length+4)) 1 ∧
       ac sl 10=.func (.func 120) [] [.ptr (.g (H1.length+1)) 1 0,.ptr (.g (H1.length+3)) 1 0]∧ac sl 11=.bool mo∧ac sl 13=.int .i64 a∧ac sl 14=.int .i64 best∧ac sl 50=vo∧ac sl 51=.int .i64 (ord g).length∧ac sl 52=.int .i64 d.length ∧
       ac sl 61=(al lf a).getD .nil∧ac sl 62=.int .i64 (prd g a).length∧ac sl 63=.int .i64 d'.length)
      _ ⟨[],prd g a,-1,_,rfl,rfl,.inl ⟨rfl,by simp⟩,rfl,rfl,rfl,rfl,rfl,rfl,rfl,rfl,rfl,rfl,rfl,rfl,rfl,rfl⟩ ?_
     rintro k s ⟨d',t',best,sl2,h4,rfl,hbest,rfl,t3,t5,t9,t10,t11,t13,t14,t50,t51,t52,t61,t62,t63⟩ QL2 hnL2 hxL2 hrL2;have hlen':=congrArg List.length h4;simp only[List.length_append] at hlen';simp only[c91l2]
     cases t' with
     |nil=>
      simp only[List.length_nil] at hlen';rw[List.append_nil] at h4;have hM:Meets g (uf up') a best:=by
       rcases hbest with⟨_,h5⟩|⟨h5,h6⟩
       ·exfalso
        obtain⟨y,hy,hlt⟩:=pV hao hx0;exact h5 y (by rw[←h4];exact hy) (hI.pre y (mem_prd.1 hy).1 hlt)
       ·exact⟨h5,by rw[h4];exact h6⟩
      obtain⟨pa,ha1,ha2⟩:=hE.toPEnv.at hao;have hia:bd 1 (.ref (.g (H1.length+2)) 1 0 g.length) (.int .i64 a)=some (.ptr (.g (H1.length+2)) 1 a.toNat):=by
       rw[bD,if_pos ⟨har.1,by omega⟩];simp
      have hst:stX 1 ⟨[],H'⟩ (.ptr (.g (H1.length+2)) 1 a.toNat) (.int .i64 best)=some ⟨[],H'.set (H1.length+2) (.arr 1 1 ((up'.set a.toNat best).flatMap aX) 0)⟩:=by
       rw[jz hE.upa (by rw[dL,hE.ul];omega) rfl rfl,mN]
      have hld:rd1 1 a.toNat H'[H1.length+2]?=some (.int .i64 (uf up' a)):=by
       rw[hE.upa,bM,fX,uP har.1 (by rw[hE.ul];exact har.2)];rfl
      have hus:uf (up'.set a.toNat best)=Go.Gr.upd (uf up') a best:=uf_set har.1 (by rw[hE.ul];exact har.2);have hE2:=hE.put (up':=up'.set a.toNat best) (by simp[hE.ul]);have hold2:∀i,i<H0.length→(H'.set (H1.length+2) (.arr 1 1 ((up'.set a.toNat best).flatMap aX) 0))[i]?=H0[i]?:=λi hi=>by
       rw[List.getElem?_set_ne (by omega)];exact hold0 i hi
      have hun2:∀i:Nat,(i:Int)∉ord g→uf (up'.set a.toNat best) i = -1:=λi hi=>by
       rw[hus,Go.Gr.dS (λe=>hi (by rw[e];exact hao))];exact hun i hi
      have hinv2:g≠[]→Go.Gr.Inv g (uf (up'.set a.toNat best)) (max 1 (d++[a]).length):=λ_=>by
       have h7:=hI.step hao hx0 hM;rw[hus,List.length_append,←hpl];rw[show max 1 (pl g a+[a].length)=pl g a+1 by simp only[List.length_cons,List.length_nil];omega];exact h7
      have hml:best≠uf up' a→Go.Gr.sh g (uf (up'.set a.toNat best))<Go.Gr.sh g (uf up'):=λh7=>by
       rw[hus];exact Go.Gr.most_lt hI hao hx0 hM h7
      have hsm:best=uf up' a→uf (up'.set a.toNat best)=uf up':=λh7=>by
       rw[hus,h7,Go.Gr.upd_same]
      cases mo with
      |false=>
       simp only[Bool.false_eq_true,if_false] at hmo
       repeat' (first
       |with_reducible (first|refine ax rfl ?_|refine aN ?_|refine hn7 _ ?_|refine hx8 _ ?_|refine hxL2 _ _ ?_)
       |(with_reducible ((first|refine ah (λK hK=>?_)|refine aI (λK hK=>?_));(first|refine uI ?_|refine FM ?_|refine FN ?_|refine uK ?_));(try simp only[SS,Nat.reduceEqDiff,br,t3,t5,t9,t10,t11,t13,t14,t50,t51,t52,t61,t62,t63,ce,hup,hia,hst,hw,hld]))
       |(revert hK;intro hK;(first|refine And.intro ?_ ?_|intro _|omega|(with_reducible refine hK _ ?_;clear hK K))))
       ·rename_i he
        refine hnL3 t.length _ (by simp) ⟨d++[a],t,false,up'.set a.toNat best,_,_,by simp[h3],rfl,hE2,hold2,hun2,hinv2,?_,rfl,rfl,rfl,rfl,rfl,rfl,rfl,rfl,by simp[b9]⟩;simp only[Bool.false_eq_true,if_false]
        refine⟨by rw[hsm he];exact hmo.1,λx hx h0=>?_⟩
        rcases List.mem_append.1 hx with hx|hx
        ·exact hmo.2 x hx h0
        ·rw[List.mem_singleton.1 hx,←hmo.1,←he];exact hM
       ·rename_i he
        refine hnL3 t.length _ (by simp) ⟨d++[a],t,true,up'.set a.toNat best,_,_,by simp[h3],rfl,hE2,hold2,hun2,hinv2,?_,rfl,rfl,rfl,rfl,rfl,rfl,rfl,rfl,by simp[b9]⟩;simp only[if_true];rw[←hmo.1];exact hml he
      |true=>
       simp only[if_true] at hmo
       repeat' (first
       |with_reducible (first|refine ax rfl ?_|refine aN ?_|refine hn7 _ ?_|refine hx8 _ ?_|refine hxL2 _ _ ?_)
       |(with_reducible ((first|refine ah (λK hK=>?_)|refine aI (λK hK=>?_));(first|refine uI ?_|refine FM ?_|refine FN ?_|refine uK ?_));(try simp only[SS,Nat.reduceEqDiff,t3,t5,t9,t10,t11,t13,t14,t50,t51,t52,t61,t62,t63,ce,hup,hia,hst,hw]))
       |(revert hK;intro hK;(first|refine And.intro ?_ ?_|intro _|omega|(with_reducible refine hK _ ?_;clear hK K))))
       refine hnL3 t.length _ (by simp) ⟨d++[a],t,true,up'.set a.toNat best,_,_,by simp[h3],rfl,hE2,hold2,hun2,hinv2,?_,rfl,rfl,rfl,rfl,rfl,rfl,rfl,rfl,by simp[b9]⟩;simp only[if_true]
       by_cases he:best=uf up' a
       ·rw[hsm he];exact hmo
       ·have:=hml he;omega
     |cons y t'=>
      simp only[List.length_cons] at hlen';have hyl:(prd g a)[d'.length]?=some y:=by rw[h4];simp
      have hyp:=mem_prd.1 (List.mem_of_getElem? hyl);obtain⟨py,hy1,hy2⟩:=(f4 a).ref.at hyl (k:=.i64);obtain⟨pu,hu1,hu2⟩:=hE.toPEnv.at hyp.1;have hw':IntKind.i64.wrap ((d'.length:Int)+1)=d'.length+1:=wI (by omega) (by omega);have hneg:∀z,Set (uf up') z→0≤z:=λz hz=>((cu g z).1 (hV.mem hz)).range.1;have hys:(y=0∨¬uf up' y<0)→Set (uf up') y:=λh=>by
       rcases h with h|h
       ·exact .inl h
       ·exact .inr (by omega)
      have hyn:¬y=0→uf up' y<0→¬Set (uf up') y:=λh h' hs=>by
       rcases hs with hs|hs
       ·exact h hs
       ·have:=((cu g _).1 (hV.up y hs).2.1).range;omega
      have B1:(y=0∨¬uf up' y<0)→best<0→(Set (uf up') y∧∀c,Ch (uf up') y c↔∀z∈d'++[y],Set (uf up') z→Ch (uf up') z c):=λh h'=>by
       rcases hbest with⟨_,hb⟩|⟨hb,_⟩
       ·refine⟨hys h,λc=>⟨λhc z hz hzs=>?_,λhc=>hc y (by simp) (hys h)⟩⟩
        rcases List.mem_append.1 hz with hz|hz
        ·exact absurd hzs (hb z hz)
        ·rw[List.mem_singleton.1 hz];exact hc
       ·have:=hneg best hb;omega
      have B0:¬best<0→Set (uf up') best:=λh=>by
       rcases hbest with⟨hb,_⟩|⟨hb,_⟩
       ·omega
       ·exact hb
      have B2:(y=0∨¬uf up' y<0)→¬best<0→∀m,Meet2 (uf up') best y m→(Set (uf up') m∧∀c,Ch (uf up') m c↔∀z∈d'++[y],Set (uf up') z→Ch (uf up') z c):=λh h' m hm=>by
       rcases hbest with⟨hb,_⟩|⟨_,hb⟩
       ·omega
       ·refine⟨hm.set,λc=>?_⟩
        rw[hm.iff,hb];constructor
        ·rintro⟨k1,k2⟩ z hz hzs
         rcases List.mem_append.1 hz with hz|hz
         ·exact k1 z hz hzs
         ·rw[List.mem_singleton.1 hz];exact k2
        ·exact λk1=>⟨λz hz hzs=>k1 z (by simp[hz]) hzs,k1 y (by simp) (hys h)⟩
      have B3:¬y=0→uf up' y<0→((best = -1∧∀z∈d'++[y],¬Set (uf up') z)∨(Set (uf up') best∧∀c,Ch (uf up') best c↔∀z∈d'++[y],Set (uf up') z→Ch (uf up') z c)):=λh h'=>by
       have hn:=hyn h h';rcases hbest with⟨hb,hb2⟩|⟨hb,hb2⟩
       ·refine .inl ⟨hb,λz hz=>?_⟩
        rcases List.mem_append.1 hz with hz|hz
        ·exact hb2 z hz
        ·rw[List.mem_singleton.1 hz];exact hn
       ·refine .inr ⟨hb,λc=>?_⟩
        rw[hb2]
        refine⟨λk1 z hz hzs=>?_,λk1 z hz hzs=>k1 z (by simp[hz]) hzs⟩
        rcases List.mem_append.1 hz with hz|hz
        ·exact k1 z hz hzs
        ·rw[List.mem_singleton.1 hz] at hzs;exact absurd hzs hn
      have hmeet:(y=0∨¬uf up' y<0)→¬best<0→∃m,Meet2 (uf up') best y m∧dx An FF 91 (some 85) (.func (.func 120) [] [.ptr (.g (H1.length+1)) 1 0,.ptr (.g (H1.length+3)) 1 0]) [.int .i64 best,.int .i64 y] ⟨[],H'⟩=some (.int .i64 m,⟨[],H'⟩):=λh h'=>by
       obtain⟨_,⟨m,rfl,hm⟩,hr⟩:=x120 g (H1.length+1) (H1.length+3) (H1.length+2) H' up' hE.toPEnv hV best y (B0 h') (hys h)
       exact⟨m,hm,by rw[dK];exact(cf rfl rfl hr).trans (by rw[pk])⟩
      have E1:∀best':Int,((best' = -1∧∀z∈d'++[y],¬Set (uf up') z)∨(Set (uf up') best'∧∀c,Ch (uf up') best' c↔∀z∈d'++[y],Set (uf up') z→Ch (uf up') z c))→QL2 .normal ⟨[(3,vo),(5,.ptr (.g (H1.length+3)) 1 0),(9,.map (.g (H1.length+4)) 1),(10,.func (.func 120) [] [.ptr (.g (H1.length+1)) 1 0,.ptr (.g (H1.length+3)) 1 0]),(11,.bool mo),(13,.int .i64 a),(14,.int .i64 best'),(50,vo),(51,.int .i64 (ord g).length),(52,.int .i64 d.length),(61,(al lf a).getD .nil),(62,.int .i64 (prd g a).length),(63,.int .i64 ((d'.length:Int)+1))],⟨[],H'⟩⟩:=λbest' hb=>
       hnL2 t'.length _ (by simp) ⟨d'++[y],t',best',_,by simp[h4],rfl,hb,rfl,rfl,rfl,rfl,rfl,rfl,rfl,rfl,rfl,rfl,rfl,rfl,rfl,by simp[b9]⟩
      repeat' (first
      |with_reducible (first|refine ai ?_|refine ar ?_|refine au rfl ?_|refine ax rfl ?_|refine bc rfl ?_|refine bn rfl ?_|refine aN ?_|refine aj (id:=9) (λQ9 hn9 hx9 hr9 ho9=>?_)|refine hn9 _ ?_|refine hx9 _ ?_)
      |(with_reducible ((first|refine ah (λK hK=>?_)|refine aI (λK hK=>?_));(first|refine uI ?_|refine t91r26 ?_|refine t91r27 ?_|refine t91r28 ?_|refine t91r29 ?_|refine t91r30 ?_|refine uJ ?_));(try simp only[SS,Nat.reduceEqDiff,br,t3,t5,t9,t10,t11,t13,t14,t50,t51,t52,t61,t62,t63,hy1,hy2,hz1,hz2,ce,hup,hu1,hu2,hw']))
      |(revert hK;intro hK;(first|refine And.intro ?_ ?_|intro _|omega|(with_reducible refine hK _ ?_;clear hK K))))
      all_goals first
       |exact E1 _ (B3 (by assumption) (by assumption))
       |exact E1 _ (.inr (B1 (.inr (by assumption)) (by assumption)))
       |exact E1 _ (.inr (B1 (.inl (by assumption)) (by assumption)))
       |(obtain⟨m,hm,hr⟩:=hmeet (.inr (by assumption)) (by assumption)
         refine mQ hr ?_;refine hK _ ?_;clear hK K
         repeat' (first
         |with_reducible refine hn9 _ ?_
         |(with_reducible (refine aI (λK hK=>?_);refine uJ ?_);(try simp only[SS,Nat.reduceEqDiff,hw']))
         |(with_reducible refine hK _ ?_;clear hK K))
         exact E1 _ (.inr (B2 (.inr (by assumption)) (by assumption) m hm)))
       |(obtain⟨m,hm,hr⟩:=hmeet (.inl (by assumption)) (by assumption)
         refine mQ hr ?_;refine hK _ ?_;clear hK K
         repeat' (first
         |with_reducible refine hn9 _ ?_
         |(with_reducible (refine aI (λK hK=>?_);refine uJ ?_);(try simp only[SS,Nat.reduceEqDiff,hw']))
         |(with_reducible refine hK _ ?_;clear hK K))
         exact E1 _ (.inr (B2 (.inl (by assumption)) (by assumption) m hm)))
end Go.Cm
namespace Go.Cm
open Go.Proofs Go.Gr
open Classical in
noncomputable def mz (g:List (List Int)) (a b:Int):Bool:=decide (Dom g a b)
theorem DT {g:List (List Int)}{a b:Int}:mz g a b=true↔Dom g a b:=by simp[mz]
theorem tO {g:List (List Int)}{a b:Int}(h:¬Dom g a b):mz g a b=false:=by simp[mz,h]
theorem oj {g:List (List Int)}{x:Int}(h0:0≤x) (h1:x<g.length):(bO g)[x.toNat]?=some (decide (x∈ord g)):=by
 have:((x.toNat:Nat):Int)=x:=by omega
 rw[bO,List.getElem?_map,List.getElem?_range (by omega)];simp[this]
theorem fO {α:Type}{e:α→List CV}{sz d:Nat}{gl:Bool}{l:List α}{m:Mem}(hg:gl=false):adopt gl d (mC e sz l) m=(.ref (.l (16*d)) (bj m.L (16*d)) 0 l.length,bi m (16*d) (.arr (bj m.L (16*d)) sz (l.flatMap e) 0)):=by
 subst hg;rfl
end Go.Cm
