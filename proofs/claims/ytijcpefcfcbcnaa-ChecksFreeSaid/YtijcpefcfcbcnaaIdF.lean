import Derived.Test.YtijcpefcfcbcnaaIdB
set_option linter.unusedSimpArgs false
set_option linter.unusedVariables false
namespace Go.Cm
open Go.Proofs Go.Gr
def RefN (qu:Nat) (H:List HO) (v:CV) (l:List Int):Prop:=(l=[]∧v=.nil)∨∃ n g vl,n≠qu∧v=.ref (.g n) g 0 l.length∧H[n]?=some (.arr g 1 (l.flatMap aX) vl)
theorem RefN.ref {qu:Nat}{H:List HO}{v:CV}{l:List Int}(h:RefN qu H v l):RefG H v l:=by
 rcases h with h|⟨n,g,vl,_,h1,h2⟩
 ·exact .inl h
 ·exact .inr ⟨n,g,vl,h1,h2⟩
theorem RefN.set {qu:Nat}{H:List HO}{v:CV}{l:List Int}(h:RefN qu H v l) {o:HO}:RefN qu (H.set qu o) v l:=by
 rcases h with h|⟨n,g,vl,h0,h1,h2⟩
 ·exact .inl h
 ·exact .inr ⟨n,g,vl,h0,h1,by rw[List.getElem?_set_ne (Ne.symm h0),h2]⟩
structure IEnv (g:List (List Int)) (vo vf:CV) (p q qu:Nat) (H:List HO) (up:List Int):Prop extends PEnv g p q qu H up where
 ordr:RefN qu H vo (ord g)
 frm:∃ nf lf,vf=.map (.g nf) 1∧H[nf]?=some (.map 1 (esI .i64 lf))∧nf≠qu∧∀ y,RefN qu H ((al lf y).getD .nil) (prd g y)
theorem IEnv.put {g:List (List Int)}{vo vf:CV}{p q qu:Nat}{H:List HO}{up:List Int}(h:IEnv g vo vf p q qu H up) {up':List Int}(hl:up'.length=g.length):IEnv g vo vf p q qu (H.set qu (.arr 1 1 (up'.flatMap aX) 0)) up' where
 plc:=by
  obtain⟨pm,lp,h1,h2,h3,h4,h5⟩:=h.plc
  exact⟨pm,lp,by rw[List.getElem?_set_ne (Ne.symm h4),h1],by rw[List.getElem?_set_ne (Ne.symm h5),h2],h3,h4,h5⟩
 upv:=⟨by rw[List.getElem?_set_ne (Ne.symm h.upv.2),h.upv.1],h.upv.2⟩
 upa:=List.getElem?_set_self (List.getElem?_eq_some_iff.1 h.upa).1
 ul:=hl
 ordr:=h.ordr.set
 frm:=by
  obtain⟨nf,lf,h1,h2,h3,h4⟩:=h.frm
  exact⟨nf,lf,h1,by rw[List.getElem?_set_ne (Ne.symm h3),h2],h3,fun y=>(h4 y).set⟩
structure IdomOK (g:List (List Int)) (up:List Int):Prop where
 inv:Go.Gr.Inv g (uf up) (ord g).length
 fin:∀ x ∈ ord g,x≠0→Meets g (uf up) x (uf up x)
set_option maxHeartbeats 2000000 in
theorem x91 (g:List (List Int)) (hg:Sm g) (gv:CV) (hgv:IsRows gv g) (H0:List HO) :
  ∃ r,(∃ v H' up,r=(v,H')∧(∃ n,H0.length≤n∧v=.ref (.g n) 1 0 g.length∧H'[n]?=some (.arr 1 1 (up.flatMap aX) 0))∧up.length=g.length∧(g≠[]→IdomOK g up)∧(∀ i:Nat,0≤(i:Int)→(i:Int) ∉ ord g→uf up i = -1)∧∀ i,i<H0.length→H'[i]?=H0[i]?) ∧
   FF 91 [gv] H0=some r:=by
 obtain⟨vo,T,h1,h2⟩:=x112 g hg gv hgv H0
 have hol:=qS g
 have hgl:=hg.1
 generalize hH1:H0++T=H1 at h1 h2
 have hc1:aB An FF 91 (some 18) 112 [gv] ⟨[],H0⟩=some (vo,⟨[],H1⟩):=by
  rw[cf rfl (by simp only[List.all_cons,List.all_nil,dQ hgv.esc,Bool.and_self]) h1]
  rcases h2 with⟨_,rfl⟩|⟨n,gn,vl,rfl,_⟩<;>rfl
 have hmk:=fun m=>wd (j:=384) (sz:=1) (b:=8) (z:=[.int .i64 0]) (k:=.i64) (n:=g.length) (m:=m) rfl (by omega) (by omega)
 let Hs:List (Int×CV)→List Int→List HO:=fun lp up=>H1++[.map 1 (esI .i64 lp),.var 1 [.map (.g H1.length) 1] 0,.arr 1 1 (up.flatMap aX) 0,.var 1 [.ref (.g (H1.length+2)) 1 0 g.length] 0]
 have hHs:∀ lp up,H1++[.map 1 (esI .i64 lp),.var 1 [.map (.g H1.length) 1] 0,.arr 1 1 (up.flatMap aX) 0,.var 1 [.ref (.g (H1.length+2)) 1 0 g.length] 0]=Hs lp up:=fun _ _=>rfl
 have g1:∀ lp up,(Hs lp up)[H1.length+1]?=some (.var 1 [.map (.g H1.length) 1] 0):=fun lp up=>by rw[←hHs,gA];rfl
 have g0:∀ lp up,(Hs lp up)[H1.length]?=some (.map 1 (esI .i64 lp)):=fun lp up=>by rw[←hHs,nM];rfl
 have g2:∀ lp up,(Hs lp up)[H1.length+2]?=some (.arr 1 1 (up.flatMap aX) 0):=fun lp up=>by rw[←hHs,gA];rfl
 have g3:∀ lp up,(Hs lp up)[H1.length+3]?=some (.var 1 [.ref (.g (H1.length+2)) 1 0 g.length] 0):=fun lp up=>by rw[←hHs,gA];rfl
 have gs:∀ L lp (up:List Int) (i:Nat) (v:Int),i<up.length→stX 1 ⟨L,Hs lp up⟩ (.ptr (.g (H1.length+2)) 1 i) (.int .i64 v)=some ⟨L,Hs lp (up.set i v)⟩:=fun L lp up i v hi=>by
  rw[jz (g2 lp up) (by rw[dL];exact hi) rfl rfl,mN,←hHs,ot];rfl
 have gm:∀ L lp up (x v:Int),mB Try.prog 3 (.map (.g H1.length) 1) (.int .i64 x) (.int .i64 v) ⟨L,Hs lp up⟩=some ⟨L,Hs (jP lp x (.int .i64 v)) up⟩:=fun L lp up x v=>by
  have:=kR (P:=Try.prog) (t:=3) (k:=.i64) (key:=.g H1.length) (g:=1) (a:=x) (v:=.int .i64 v) (m:=⟨L,Hs lp up⟩) (l:=lp) Try.underlying3 rfl (g0 lp up)
  rw[this]
  simp only[Mem.set,←hHs,p4];rfl
 have hi0:H1++[.map 1 [],.var 1 [.map (.g H1.length) 1] 0,.arr 1 1 (List.flatMap aX (List.replicate g.length 0)) 0,.var 1 [.ref (.g (H1.length+2)) 1 0 g.length] 0]=Hs [] (List.replicate g.length 0):=rfl
 refine bA rfl Try.func91 s91 (Nat.le_of_ble_eq_true rfl) (fun Q hqr hqn=>?_)
 rw[show ∀ a,cin (An.pure 91) a=a from fun _=>rfl]
 simp only[aO,Nat.reduceAdd,c91]
 repeat' (first
 |with_reducible (first|refine ai ?_|refine aj (id:=0) (fun Q0 hn0 hx0 hr0 ho0=>?_))
 |(with_reducible (refine ah (fun K hK=>?_);(first|refine t91r0 ?_|refine t91r1 ?_|refine t91r2 ?_|refine t91r3 ?_|refine t91r4 ?_));(try simp only[SS,Nat.reduceEqDiff,ap,Nat.reduceAdd,lenS,bF,ay,cz,List.all_cons,List.all_nil,Bool.and_self,ce,kL,gA,nM,ot,p4,iK,iM,iI,iN,iL,iJ,pR,pS,jE,gQ,fD,List.append_assoc,List.length_append,List.set_cons_succ,List.set_cons_zero,cn,eV,mmX,dK,hgv.len,hc1,h2.len,hmk,Eh]))
 |(revert hK;intro hK;(with_reducible refine hK _ ?_;clear hK K)))
 rw[hi0]
 clear hi0
 clear_value Hs
 refine aU (fun k s=>∃ (i:Nat) (up:List Int),i≤g.length∧k=g.length - i∧up.length=g.length∧(∀ j,j<i→up[j]?=some (-1)) ∧
  s=⟨[(0,gv),(3,vo),(4,.ptr (.g (H1.length+1)) 1 0),(5,.ptr (.g (H1.length+3)) 1 0),(26,.int .i64 g.length),(27,.int .i64 i)],⟨[],Hs [] up⟩⟩) _ ⟨0,List.replicate g.length 0,by omega,rfl,by simp,fun j hj=>by omega,rfl⟩ ?_
 rintro k s ⟨i,up,hi,rfl,hul,huj,rfl⟩ QL0 hnL0 hxL0 hrL0
 by_cases hlt:i<g.length
 ·have hx:bd 1 (.ref (.g (H1.length+2)) 1 0 g.length) (.int .i64 i)=some (.ptr (.g (H1.length+2)) 1 i):=by
   rw[bD,if_pos ⟨by omega,by omega⟩];simp
  have hw:IntKind.i64.wrap ((i:Int)+1)=i+1:=wI (by omega) (by omega)
  have hs1:=gs [] [] up i (-1) (by omega)
  simp only[Df]
  repeat' (first
  |with_reducible (first|refine ar ?_|refine au rfl ?_|refine aj (id:=1) (fun Q1 hn1 hx1 hr1 ho1=>?_)|refine hn1 _ ?_)
  |(with_reducible ((first|refine ah (fun K hK=>?_)|refine aI (fun K hK=>?_));(first|refine t91r5 ?_|refine t91r6 ?_|refine t91r7 ?_|refine t91r8 ?_));(try simp only[SS,Nat.reduceEqDiff,ce,g3,hx,hs1,hw]))
  |(revert hK;intro hK;(first|refine And.intro ?_ ?_|intro _|omega|(with_reducible refine hK _ ?_;clear hK K))))
  refine hnL0 (g.length - (i+1)) _ (by omega) ⟨i+1,up.set i (-1),by omega,rfl,by simp[hul],fun j hj=>?_,by simp⟩
  rw[List.getElem?_set]
  by_cases hji:i=j
  ·subst hji;rw[if_pos rfl,if_pos (by omega)]
  ·rw[if_neg hji];exact huj j (by omega)
 have hie:i=g.length:=by omega
 have hup:up=List.replicate g.length (-1):=by
  refine List.ext_getElem? fun j=>?_
  by_cases hj:j<g.length
  ·rw[huj j (by omega),List.getElem?_replicate,if_pos hj]
  ·rw[List.getElem?_eq_none (by omega),List.getElem?_replicate,if_neg hj]
 subst hie
 subst hup
 simp only[Df]
 repeat' (first
 |with_reducible (first|refine ai ?_|refine ax rfl ?_|refine aN ?_|refine hx0 _ ?_|refine aj (id:=2) (fun Q2 hn2 hx2 hr2 ho2=>?_)|refine hxL0 _ _ ?_)
 |(with_reducible (refine ah (fun K hK=>?_);(first|refine t91r5 ?_|refine t91r9 ?_));(try simp only[SS,Nat.reduceEqDiff,lenS,h2.len]))
 |(revert hK;intro hK;(first|refine And.intro ?_ ?_|intro _|omega|(with_reducible refine hK _ ?_;clear hK K))))
 refine aU (fun k s=>∃ (d t:List Int) (lp:List (Int×CV)),ord g=d++t∧k=t.length∧(∀ x ∈ d,al lp x=some (.int .i64 (pl g x))) ∧
  s=⟨[(0,gv),(3,vo),(4,.ptr (.g (H1.length+1)) 1 0),(5,.ptr (.g (H1.length+3)) 1 0),(34,vo),(35,.int .i64 (ord g).length),(36,.int .i64 d.length)],⟨[],Hs lp (List.replicate g.length (-1))⟩⟩) _ ⟨[],ord g,[],rfl,rfl,by simp,rfl⟩ ?_
 rintro k s ⟨d,t,lp,h3,rfl,hlp,rfl⟩ QL1 hnL1 hxL1 hrL1
 have hlen:=congrArg List.length h3
 simp only[List.length_append] at hlen
 have hvH:∀ lp up,RefG (Hs lp up) vo (ord g):=fun lp up=>by rw[←hHs];exact h2.app
 cases t with
 |cons a t=>
  simp only[List.length_cons] at hlen
  have hal:(ord g)[d.length]?=some a:=by rw[h3];simp
  obtain⟨hpl,hao⟩:=lE hal
  obtain⟨p,hp1,hp2⟩:=(hvH lp (List.replicate g.length (-1))).at hal (k:=.i64)
  have hw:IntKind.i64.wrap ((d.length:Int)+1)=d.length+1:=wI (by omega) (by omega)
  simp only[Dg]
  repeat' (first
  |with_reducible (first|refine ar ?_|refine au rfl ?_|refine aj (id:=3) (fun Q3 hn3 hx3 hr3 ho3=>?_)|refine hn3 _ ?_)
  |(with_reducible ((first|refine ah (fun K hK=>?_)|refine aI (fun K hK=>?_));(first|refine FI ?_|refine t91r11 ?_|refine t91r12 ?_|refine t91r13 ?_));(try simp only[SS,Nat.reduceEqDiff,ce,g1,hp1,hp2,gm,hw]))
  |(revert hK;intro hK;(first|refine And.intro ?_ ?_|intro _|omega|(with_reducible refine hK _ ?_;clear hK K))))
  refine hnL1 t.length _ (by simp) ⟨d++[a],t,jP lp a (.int .i64 d.length),by simp[h3],rfl,fun x hx=>?_,by simp⟩
  rw[kr]
  by_cases hxa:a=x
  ·subst hxa;rw[if_pos rfl,hpl]
  ·rw[if_neg hxa]
   rcases List.mem_append.1 hx with h|h
   ·exact hlp x h
   ·exact absurd (List.mem_singleton.1 h).symm hxa
 |nil=>
  simp only[List.length_nil] at hlen
  rw[List.append_nil] at h3
  have hd:=h3.symm
  subst hd
  obtain⟨H2,lf,hp1,hP⟩:=x119 g hg gv hgv (Hs lp (List.replicate g.length (-1))) vo (ord g) (.inr (hvH _ _)) (fun x hx=>((cu g x).1 hx).range) (by omega) (lD g)
  have hsl:(Hs lp (List.replicate g.length (-1))).length=H1.length+4:=by rw[←hHs];simp
  rw[hsl] at hp1 hP
  have hc2:aB An FF 91 (some 47) 119 [gv,vo] ⟨[],Hs lp (List.replicate g.length (-1))⟩=some (.map (.g (H1.length+4)) 1,⟨[],H2⟩):=by
   have hve:eV vo=true:=RdI.esc (.inr h2)
   rw[cf rfl (by simp only[List.all_cons,List.all_nil,hve,dQ hgv.esc,Bool.and_self]) hp1];rfl
  have hold:∀ i,i<H1.length+4→H2[i]?=(Hs lp (List.replicate g.length (-1)))[i]?:=hP.old
  have hE:IEnv g vo (.map (.g (H1.length+4)) 1) (H1.length+1) (H1.length+3) (H1.length+2) H2 (List.replicate g.length (-1)):=by
   refine { plc:=⟨H1.length,lp,by rw[hold _ (by omega),g1],by rw[hold _ (by omega),g0],hlp,by omega,by omega⟩,upv:=⟨by rw[hold _ (by omega),g3],by omega⟩,upa:=by rw[hold _ (by omega),g2],ul:=by simp,ordr:=?_,frm:=⟨H1.length+4,lf,rfl,hP.map,by omega,fun y=>?_⟩ }
   ·rcases h2 with h|⟨n,gn,vl,k1,k2⟩
    ·exact .inl h
    ·have hn:=(List.getElem?_eq_some_iff.1 k2).1
     refine .inr ⟨n,gn,vl,by omega,k1,?_⟩
     rw[hold n (by omega),←hHs,List.getElem?_append_left hn,k2]
   ·rcases hP.row y with⟨k1,k2⟩|⟨n,gn,k1,k2,k3⟩
    ·rw[k1];exact .inl ⟨k2,rfl⟩
    ·rw[k1];exact .inr ⟨n,gn,0,by omega,rfl,k3⟩
  have hold0:∀ i,i<H0.length→H2[i]?=H0[i]?:=fun i hi=>by
   have hle:H0.length≤H1.length:=by rw[←hH1];simp
   rw[hold i (by omega),←hHs,List.getElem?_append_left (by omega),←hH1,List.getElem?_append_left hi]
  have hle01:H0.length≤H1.length:=by rw[←hH1];simp
  clear hold hP hp1 hlp hH1 h1 hc1 hmk
  simp only[Dg]
  repeat' (first
  |with_reducible (first|refine ai ?_|refine ax rfl ?_|refine aN ?_|refine hx2 _ ?_|refine aj (id:=4) (fun Q4 hn4 hx4 hr4 ho4=>?_)|refine hxL1 _ _ ?_)
  |(with_reducible (refine ah (fun K hK=>?_);(first|refine FI ?_|refine t91r14 ?_|refine t91r15 ?_|refine t91r16 ?_));(try simp only[SS,Nat.reduceEqDiff,hc2]))
  |(revert hK;intro hK;(first|refine And.intro ?_ ?_|intro _|omega|(with_reducible refine hK _ ?_;clear hK K))))
  refine aU (fun k s=>∃ (more:Bool) (up:List Int) (sl:List (Nat×CV)) (H:List HO),IEnv g vo (.map (.g (H1.length+4)) 1) (H1.length+1) (H1.length+3) (H1.length+2) H up∧(∀ i,i<H0.length→H[i]?=H0[i]?) ∧
   (∀ i:Nat,(i:Int) ∉ ord g→uf up i = -1) ∧
   (if more then (g≠[]→Go.Gr.Inv g (uf up) 1)∧k=Go.Gr.sh g (uf up)+1 else (g≠[]→IdomOK g up)∧k=0) ∧
   s=⟨sl,⟨[],H⟩⟩∧ac sl 3=vo∧ac sl 5=.ptr (.g (H1.length+3)) 1 0∧ac sl 9=.map (.g (H1.length+4)) 1 ∧
    ac sl 10=.func (.func 120) [] [.ptr (.g (H1.length+1)) 1 0,.ptr (.g (H1.length+3)) 1 0]∧ac sl 11=.bool more) _ ⟨true,List.replicate g.length (-1),_,H2,hE,hold0,fun i _=>?_,⟨fun h=>?_,rfl⟩,rfl,rfl,rfl,rfl,rfl,rfl⟩ ?_
  ·unfold uf
   rw[if_pos (by omega),List.getD_eq_getElem?_getD,List.getElem?_replicate]
   split<;>rfl
  ·have:uf (List.replicate g.length (-1))=fun _=>-1:=by
    funext x
    unfold uf
    split
    ·rw[List.getD_eq_getElem?_getD,List.getElem?_replicate];split<;>rfl
    ·rfl
   rw[this];exact Go.Gr.Inv.start h
  clear hE hold0
  rintro k s ⟨more,up,sl,H,hE,hold0,hun,hmore,rfl,t3,t5,t9,t10,t11⟩ QL4 hnL4 hxL4 hrL4
  simp only[c91l4]
  cases more with
  |false=>
   obtain⟨hok,_⟩:=hmore
   repeat' (first
   |with_reducible (first|refine ai ?_|refine ax rfl ?_|refine aN ?_|refine aF ?_|refine hx4 _ ?_|refine hxL4 _ _ ?_)
   |(with_reducible (first|(refine ah (fun K hK=>?_);(first|refine FJ ?_|refine t91r35 ?_))|refine hqr _ ?_);(try simp only[SS,Nat.reduceEqDiff,r91,aQ,ak,aD,am,lH,t3,t5,t9,t10,t11,ce,hE.upv.1]))
   |(revert hK;intro hK;(with_reducible refine hK _ ?_;clear hK K)))
   exact⟨_,_,up,⟨rfl,rfl⟩,⟨H1.length+2,by omega,rfl,hE.upa⟩,hE.ul,hok,fun i _ h=>hun i h,hold0⟩
  |true=>
   obtain⟨hinv,rfl⟩:=hmore
   repeat' (first
   |with_reducible (first|refine ai ?_|refine ar ?_|refine au rfl ?_|refine bl (id:=5) (fun Q5 hn5 hx5 hr5 ho5=>?_)|refine bl (id:=6) (fun Q6 hn6 hx6 hr6 ho6=>?_))
   |(with_reducible (refine ah (fun K hK=>?_);(first|refine FJ ?_|refine t91r18 ?_|refine t91r19 ?_));(try simp only[SS,Nat.reduceEqDiff,lenS,t3,t5,t9,t10,t11,hE.ordr.ref.len]))
   |(revert hK;intro hK;(with_reducible refine hK _ ?_;clear hK K)))
   clear t3 t5 t9 t10 t11
   refine aU (fun k s=>∃ (d t:List Int) (mo:Bool) (up':List Int) (sl:List (Nat×CV)) (H':List HO),ord g=d++t∧k=t.length∧IEnv g vo (.map (.g (H1.length+4)) 1) (H1.length+1) (H1.length+3) (H1.length+2) H' up'∧(∀ i,i<H0.length→H'[i]?=H0[i]?) ∧
    (∀ i:Nat,(i:Int) ∉ ord g→uf up' i = -1)∧(g≠[]→Go.Gr.Inv g (uf up') (max 1 d.length)) ∧
    (if mo then Go.Gr.sh g (uf up')<Go.Gr.sh g (uf up) else uf up'=uf up∧∀ x ∈ d,x≠0→Meets g (uf up) x (uf up x)) ∧
    s=⟨sl,⟨[],H'⟩⟩∧ac sl 3=vo∧ac sl 5=.ptr (.g (H1.length+3)) 1 0∧ac sl 9=.map (.g (H1.length+4)) 1 ∧
     ac sl 10=.func (.func 120) [] [.ptr (.g (H1.length+1)) 1 0,.ptr (.g (H1.length+3)) 1 0]∧ac sl 11=.bool mo∧ac sl 50=vo∧ac sl 51=.int .i64 (ord g).length∧ac sl 52=.int .i64 d.length)
    _ ⟨[],ord g,false,up,_,H,rfl,rfl,hE,hold0,hun,hinv,⟨rfl,by simp⟩,rfl,rfl,rfl,rfl,rfl,rfl,rfl,rfl,rfl⟩ ?_
   clear hE hold0 hun hinv
   rintro k s ⟨d,t,mo,up',sl3,H',h3,rfl,hE,hold0,hun,hinv,hmo,rfl,t3,t5,t9,t10,t11,t50,t51,t52⟩ QL3 hnL3 hxL3 hrL3
   have hlen:=congrArg List.length h3
   simp only[List.length_append] at hlen
   simp only[c91l3]
   cases t with
   |nil=>
    simp only[List.length_nil] at hlen
    repeat' (first
    |with_reducible (first|refine ax rfl ?_|refine aN ?_|refine hn5 _ ?_|refine hx6 _ ?_|refine hxL3 _ _ ?_)
    |(with_reducible (refine ah (fun K hK=>?_);refine uH ?_);(try simp only[dg,eN,t3,t5,t9,t10,t11,t50,t51,t52]))
    |(revert hK;intro hK;(first|refine And.intro ?_ ?_|intro _|omega|(with_reducible refine hK _ ?_;clear hK K))))
    rw[List.append_nil] at h3
    have hinv':g≠[]→Go.Gr.Inv g (uf up') (ord g).length:=fun h=>by
     have h1:=hinv h
     obtain⟨r,hr⟩:=iV h
     have h2:1≤(ord g).length:=by rw[hr];simp
     rwa [←h3,Nat.max_eq_right h2] at h1
    cases mo with
    |true=>
     simp only[if_true] at hmo
     exact hnL4 (Go.Gr.sh g (uf up')+1) _ (by omega) ⟨true,up',_,H',hE,hold0,hun,⟨fun h=>(hinv' h).again,rfl⟩,rfl,rfl,rfl,rfl,rfl,rfl⟩
    |false=>
     simp only[Bool.false_eq_true,if_false] at hmo
     exact hnL4 0 _ (by omega) ⟨false,up',_,H',hE,hold0,hun,⟨fun h=>⟨hinv' h,fun x hx h0=>by rw[hmo.1];exact hmo.2 x (by rw[←h3];exact hx) h0⟩,rfl⟩,rfl,rfl,rfl,rfl,rfl,rfl⟩
   |cons a t=>
    simp only[List.length_cons] at hlen
    have hal:(ord g)[d.length]?=some a:=by rw[h3];simp
    obtain⟨hpl,hao⟩:=lE hal
    have hgn:g≠[]:=fun h=>by rw[h] at hao;simp[ord] at hao
    have har:=((cu g a).1 hao).range
    obtain⟨r0,hr0⟩:=iV hgn
    obtain⟨p,hp1,hp2⟩:=hE.ordr.ref.at hal (k:=.i64)
    have hw:IntKind.i64.wrap ((d.length:Int)+1)=d.length+1:=wI (by omega) (by omega)
    by_cases hd0:d.length=0
    ·have hd:d=[]:=List.eq_nil_of_length_eq_zero hd0
     subst hd
     have ha0:a=0:=by rw[hr0] at hal;simpa using hal.symm
     have t52:ac sl3 52=.int .i64 0:=t52
     have hp1:bd 1 vo (.int .i64 0)=some p:=hp1
     have hw:IntKind.i64.wrap ((0:Int)+1)=1:=wI (by omega) (by omega)
     have hlt:(0:Int)<(ord g).length:=by omega
     repeat' (first
     |with_reducible (first|refine ai ?_|refine ar ?_|refine au rfl ?_|refine aN ?_|refine aj (id:=7) (fun Q7 hn7 hx7 hr7 ho7=>?_)|refine hx7 _ ?_)
     |(with_reducible ((first|refine ah (fun K hK=>?_)|refine aI (fun K hK=>?_));(first|refine uH ?_|refine FK ?_|refine FL ?_|refine uK ?_));(try simp only[SS,Nat.reduceEqDiff,t3,t5,t9,t10,t11,t50,t51,t52,hp1,hp2,hw,hlt]))
     |(revert hK;intro hK;(with_reducible refine hK _ ?_;clear hK K)))
     refine hnL3 t.length _ (by simp) ⟨[a],t,mo,up',_,H',by simp[h3],rfl,hE,hold0,hun,hinv,?_,rfl,rfl,rfl,rfl,rfl,rfl,rfl,rfl,rfl⟩
     cases mo with
     |true=>exact hmo
     |false=>
      refine⟨hmo.1,fun x hx h0=>?_⟩
      rw[List.mem_singleton.1 hx] at h0
      exact absurd ha0 h0
    ·have hdi:¬ (d.length:Int)=0:=by omega
     obtain⟨nf,lf,f1,f2,f3,f4⟩:=hE.frm
     simp only[CV.map.injEq,Key.g.injEq,and_true] at f1
     subst f1
     have hlk:=fK (t:=3) (a:=a) (z:=.nil) (ok:=false) Try.underlying3 (jq (m:=⟨[],H'⟩) f2)
     simp only[Bool.false_eq_true,if_false] at hlk
     have hpr:=List.length_filter_le (fun y=>decide (a ∈ ins g y)) (ord g)
     have hprl:(prd g a).length≤1048576:=by unfold prd;omega
     repeat' (first
     |with_reducible (first|refine ai ?_|refine ar ?_|refine au rfl ?_|refine ax rfl ?_|refine aj (id:=7) (fun Q7 hn7 hx7 hr7 ho7=>?_)|refine aj (id:=8) (fun Q8 hn8 hx8 hr8 ho8=>?_))
     |(with_reducible (refine ah (fun K hK=>?_);(first|refine uH ?_|refine FK ?_|refine FL ?_|refine t91r23 ?_|refine t91r24 ?_));(try simp only[SS,Nat.reduceEqDiff,lenS,t3,t5,t9,t10,t11,t50,t51,t52,hp1,hp2,hw,hdi,hlk,(f4 a).ref.len]))
     |(revert hK;intro hK;(first|refine And.intro ?_ ?_|intro _|omega|(with_reducible refine hK _ ?_;clear hK K))))
     have hI:=hinv hgn
     rw[Nat.max_eq_right (by omega)] at hI
     have hV:=hI.toVal
     have hx0:a≠0:=fun h=>by
      rw[h] at hpl
      have:pl g 0=0:=by simp[pl,hr0]
      omega
     rw[←hpl] at hI
     obtain⟨pz,hz1,hz2⟩:=hE.ordr.ref.at (i:=0) (a:=0) (by rw[hr0];rfl) (k:=.i64)
     have hz1:bd 1 vo (.int .i64 0)=some pz:=hz1
     have hup:=hE.upv.1
     clear t3 t5 t9 t10 t11 t50 t51 t52
     refine aU (fun k s=>∃ (d' t':List Int) (best:Int) (sl:List (Nat×CV)),prd g a=d'++t'∧k=t'.length ∧
      ((best = -1∧∀ y ∈ d',¬ Set (uf up') y)∨(Set (uf up') best∧∀ c,Ch (uf up') best c↔∀ y ∈ d',Set (uf up') y→Ch (uf up') y c)) ∧
      s=⟨sl,⟨[],H'⟩⟩∧ac sl 3=vo∧ac sl 5=.ptr (.g (H1.length+3)) 1 0∧ac sl 9=.map (.g (H1.length+4)) 1 ∧
       ac sl 10=.func (.func 120) [] [.ptr (.g (H1.length+1)) 1 0,.ptr (.g (H1.length+3)) 1 0]∧ac sl 11=.bool mo∧ac sl 13=.int .i64 a∧ac sl 14=.int .i64 best∧ac sl 50=vo∧ac sl 51=.int .i64 (ord g).length∧ac sl 52=.int .i64 d.length ∧
       ac sl 61=(al lf a).getD .nil∧ac sl 62=.int .i64 (prd g a).length∧ac sl 63=.int .i64 d'.length)
      _ ⟨[],prd g a,-1,_,rfl,rfl,.inl ⟨rfl,by simp⟩,rfl,rfl,rfl,rfl,rfl,rfl,rfl,rfl,rfl,rfl,rfl,rfl,rfl,rfl⟩ ?_
     rintro k s ⟨d',t',best,sl2,h4,rfl,hbest,rfl,t3,t5,t9,t10,t11,t13,t14,t50,t51,t52,t61,t62,t63⟩ QL2 hnL2 hxL2 hrL2
     have hlen':=congrArg List.length h4
     simp only[List.length_append] at hlen'
     simp only[c91l2]
     cases t' with
     |nil=>
      simp only[List.length_nil] at hlen'
      rw[List.append_nil] at h4
      have hM:Meets g (uf up') a best:=by
       rcases hbest with⟨_,h5⟩|⟨h5,h6⟩
       ·exfalso
        obtain⟨y,hy,hlt⟩:=pV hao hx0
        exact h5 y (by rw[←h4];exact hy) (hI.pre y (mem_prd.1 hy).1 hlt)
       ·exact⟨h5,by rw[h4];exact h6⟩
      obtain⟨pa,ha1,ha2⟩:=hE.toPEnv.at hao
      have hia:bd 1 (.ref (.g (H1.length+2)) 1 0 g.length) (.int .i64 a)=some (.ptr (.g (H1.length+2)) 1 a.toNat):=by
       rw[bD,if_pos ⟨har.1,by omega⟩];simp
      have hst:stX 1 ⟨[],H'⟩ (.ptr (.g (H1.length+2)) 1 a.toNat) (.int .i64 best)=some ⟨[],H'.set (H1.length+2) (.arr 1 1 ((up'.set a.toNat best).flatMap aX) 0)⟩:=by
       rw[jz hE.upa (by rw[dL,hE.ul];omega) rfl rfl,mN]
      have hld:rd1 1 a.toNat H'[H1.length+2]?=some (.int .i64 (uf up' a)):=by
       rw[hE.upa,bM,fX,uP har.1 (by rw[hE.ul];exact har.2)];rfl
      have hus:uf (up'.set a.toNat best)=Go.Gr.upd (uf up') a best:=uf_set har.1 (by rw[hE.ul];exact har.2)
      have hE2:=hE.put (up':=up'.set a.toNat best) (by simp[hE.ul])
      have hold2:∀ i,i<H0.length→(H'.set (H1.length+2) (.arr 1 1 ((up'.set a.toNat best).flatMap aX) 0))[i]?=H0[i]?:=fun i hi=>by
       rw[List.getElem?_set_ne (by omega)];exact hold0 i hi
      have hun2:∀ i:Nat,(i:Int) ∉ ord g→uf (up'.set a.toNat best) i = -1:=fun i hi=>by
       rw[hus,Go.Gr.dS (fun e=>hi (by rw[e];exact hao))];exact hun i hi
      have hinv2:g≠[]→Go.Gr.Inv g (uf (up'.set a.toNat best)) (max 1 (d++[a]).length):=fun _=>by
       have h7:=hI.step hao hx0 hM
       rw[hus,List.length_append,←hpl]
       rw[show max 1 (pl g a+[a].length)=pl g a+1 by simp only[List.length_cons,List.length_nil];omega]
       exact h7
      have hml:best≠uf up' a→Go.Gr.sh g (uf (up'.set a.toNat best))<Go.Gr.sh g (uf up'):=fun h7=>by
       rw[hus];exact Go.Gr.most_lt hI hao hx0 hM h7
      have hsm:best=uf up' a→uf (up'.set a.toNat best)=uf up':=fun h7=>by
       rw[hus,h7,Go.Gr.upd_same]
      cases mo with
      |false=>
       simp only[Bool.false_eq_true,if_false] at hmo
       repeat' (first
       |with_reducible (first|refine ax rfl ?_|refine aN ?_|refine hn7 _ ?_|refine hx8 _ ?_|refine hxL2 _ _ ?_)
       |(with_reducible ((first|refine ah (fun K hK=>?_)|refine aI (fun K hK=>?_));(first|refine uI ?_|refine FM ?_|refine FN ?_|refine uK ?_));(try simp only[SS,Nat.reduceEqDiff,br,t3,t5,t9,t10,t11,t13,t14,t50,t51,t52,t61,t62,t63,ce,hup,hia,hst,hw,hld]))
       |(revert hK;intro hK;(first|refine And.intro ?_ ?_|intro _|omega|(with_reducible refine hK _ ?_;clear hK K))))
       ·rename_i he
        refine hnL3 t.length _ (by simp) ⟨d++[a],t,false,up'.set a.toNat best,_,_,by simp[h3],rfl,hE2,hold2,hun2,hinv2,?_,rfl,rfl,rfl,rfl,rfl,rfl,rfl,rfl,by simp[b9]⟩
        simp only[Bool.false_eq_true,if_false]
        refine⟨by rw[hsm he];exact hmo.1,fun x hx h0=>?_⟩
        rcases List.mem_append.1 hx with hx|hx
        ·exact hmo.2 x hx h0
        ·rw[List.mem_singleton.1 hx,←hmo.1,←he];exact hM
       ·rename_i he
        refine hnL3 t.length _ (by simp) ⟨d++[a],t,true,up'.set a.toNat best,_,_,by simp[h3],rfl,hE2,hold2,hun2,hinv2,?_,rfl,rfl,rfl,rfl,rfl,rfl,rfl,rfl,by simp[b9]⟩
        simp only[if_true]
        rw[←hmo.1];exact hml he
      |true=>
       simp only[if_true] at hmo
       repeat' (first
       |with_reducible (first|refine ax rfl ?_|refine aN ?_|refine hn7 _ ?_|refine hx8 _ ?_|refine hxL2 _ _ ?_)
       |(with_reducible ((first|refine ah (fun K hK=>?_)|refine aI (fun K hK=>?_));(first|refine uI ?_|refine FM ?_|refine FN ?_|refine uK ?_));(try simp only[SS,Nat.reduceEqDiff,t3,t5,t9,t10,t11,t13,t14,t50,t51,t52,t61,t62,t63,ce,hup,hia,hst,hw]))
       |(revert hK;intro hK;(first|refine And.intro ?_ ?_|intro _|omega|(with_reducible refine hK _ ?_;clear hK K))))
       refine hnL3 t.length _ (by simp) ⟨d++[a],t,true,up'.set a.toNat best,_,_,by simp[h3],rfl,hE2,hold2,hun2,hinv2,?_,rfl,rfl,rfl,rfl,rfl,rfl,rfl,rfl,by simp[b9]⟩
       simp only[if_true]
       by_cases he:best=uf up' a
       ·rw[hsm he];exact hmo
       ·have:=hml he;omega
     |cons y t'=>
      simp only[List.length_cons] at hlen'
      have hyl:(prd g a)[d'.length]?=some y:=by rw[h4];simp
      have hyp:=mem_prd.1 (List.mem_of_getElem? hyl)
      obtain⟨py,hy1,hy2⟩:=(f4 a).ref.at hyl (k:=.i64)
      obtain⟨pu,hu1,hu2⟩:=hE.toPEnv.at hyp.1
      have hw':IntKind.i64.wrap ((d'.length:Int)+1)=d'.length+1:=wI (by omega) (by omega)
      have hneg:∀ z,Set (uf up') z→0≤z:=fun z hz=>((cu g z).1 (hV.mem hz)).range.1
      have hys:(y=0∨¬ uf up' y<0)→Set (uf up') y:=fun h=>by
       rcases h with h|h
       ·exact .inl h
       ·exact .inr (by omega)
      have hyn:¬ y=0→uf up' y<0→¬ Set (uf up') y:=fun h h' hs=>by
       rcases hs with hs|hs
       ·exact h hs
       ·have:=((cu g _).1 (hV.up y hs).2.1).range;omega
      have B1:(y=0∨¬ uf up' y<0)→best<0→(Set (uf up') y∧∀ c,Ch (uf up') y c↔∀ z ∈ d'++[y],Set (uf up') z→Ch (uf up') z c):=fun h h'=>by
       rcases hbest with⟨_,hb⟩|⟨hb,_⟩
       ·refine⟨hys h,fun c=>⟨fun hc z hz hzs=>?_,fun hc=>hc y (by simp) (hys h)⟩⟩
        rcases List.mem_append.1 hz with hz|hz
        ·exact absurd hzs (hb z hz)
        ·rw[List.mem_singleton.1 hz];exact hc
       ·have:=hneg best hb;omega
      have B0:¬ best<0→Set (uf up') best:=fun h=>by
       rcases hbest with⟨hb,_⟩|⟨hb,_⟩
       ·omega
       ·exact hb
      have B2:(y=0∨¬ uf up' y<0)→¬ best<0→∀ m,Meet2 (uf up') best y m→(Set (uf up') m∧∀ c,Ch (uf up') m c↔∀ z ∈ d'++[y],Set (uf up') z→Ch (uf up') z c):=fun h h' m hm=>by
       rcases hbest with⟨hb,_⟩|⟨_,hb⟩
       ·omega
       ·refine⟨hm.set,fun c=>?_⟩
        rw[hm.iff,hb]
        constructor
        ·rintro⟨k1,k2⟩ z hz hzs
         rcases List.mem_append.1 hz with hz|hz
         ·exact k1 z hz hzs
         ·rw[List.mem_singleton.1 hz];exact k2
        ·exact fun k1=>⟨fun z hz hzs=>k1 z (by simp[hz]) hzs,k1 y (by simp) (hys h)⟩
      have B3:¬ y=0→uf up' y<0→((best = -1∧∀ z ∈ d'++[y],¬ Set (uf up') z)∨(Set (uf up') best∧∀ c,Ch (uf up') best c↔∀ z ∈ d'++[y],Set (uf up') z→Ch (uf up') z c)):=fun h h'=>by
       have hn:=hyn h h'
       rcases hbest with⟨hb,hb2⟩|⟨hb,hb2⟩
       ·refine .inl ⟨hb,fun z hz=>?_⟩
        rcases List.mem_append.1 hz with hz|hz
        ·exact hb2 z hz
        ·rw[List.mem_singleton.1 hz];exact hn
       ·refine .inr ⟨hb,fun c=>?_⟩
        rw[hb2]
        refine⟨fun k1 z hz hzs=>?_,fun k1 z hz hzs=>k1 z (by simp[hz]) hzs⟩
        rcases List.mem_append.1 hz with hz|hz
        ·exact k1 z hz hzs
        ·rw[List.mem_singleton.1 hz] at hzs;exact absurd hzs hn
      have hmeet:(y=0∨¬ uf up' y<0)→¬ best<0→∃ m,Meet2 (uf up') best y m∧dx An FF 91 (some 85) (.func (.func 120) [] [.ptr (.g (H1.length+1)) 1 0,.ptr (.g (H1.length+3)) 1 0]) [.int .i64 best,.int .i64 y] ⟨[],H'⟩=some (.int .i64 m,⟨[],H'⟩):=fun h h'=>by
       obtain⟨_,⟨m,rfl,hm⟩,hr⟩:=x120 g (H1.length+1) (H1.length+3) (H1.length+2) H' up' hE.toPEnv hV best y (B0 h') (hys h)
       exact⟨m,hm,by rw[dK];exact(cf rfl rfl hr).trans (by rw[pk])⟩
      have E1:∀ best':Int,((best' = -1∧∀ z ∈ d'++[y],¬ Set (uf up') z)∨(Set (uf up') best'∧∀ c,Ch (uf up') best' c↔∀ z ∈ d'++[y],Set (uf up') z→Ch (uf up') z c))→QL2 .normal ⟨[(3,vo),(5,.ptr (.g (H1.length+3)) 1 0),(9,.map (.g (H1.length+4)) 1),(10,.func (.func 120) [] [.ptr (.g (H1.length+1)) 1 0,.ptr (.g (H1.length+3)) 1 0]),(11,.bool mo),(13,.int .i64 a),(14,.int .i64 best'),(50,vo),(51,.int .i64 (ord g).length),(52,.int .i64 d.length),(61,(al lf a).getD .nil),(62,.int .i64 (prd g a).length),(63,.int .i64 ((d'.length:Int)+1))],⟨[],H'⟩⟩:=fun best' hb=>
       hnL2 t'.length _ (by simp) ⟨d'++[y],t',best',_,by simp[h4],rfl,hb,rfl,rfl,rfl,rfl,rfl,rfl,rfl,rfl,rfl,rfl,rfl,rfl,rfl,by simp[b9]⟩
      repeat' (first
      |with_reducible (first|refine ai ?_|refine ar ?_|refine au rfl ?_|refine ax rfl ?_|refine bc rfl ?_|refine bn rfl ?_|refine aN ?_|refine aj (id:=9) (fun Q9 hn9 hx9 hr9 ho9=>?_)|refine hn9 _ ?_|refine hx9 _ ?_)
      |(with_reducible ((first|refine ah (fun K hK=>?_)|refine aI (fun K hK=>?_));(first|refine uI ?_|refine t91r26 ?_|refine t91r27 ?_|refine t91r28 ?_|refine t91r29 ?_|refine t91r30 ?_|refine uJ ?_));(try simp only[SS,Nat.reduceEqDiff,br,t3,t5,t9,t10,t11,t13,t14,t50,t51,t52,t61,t62,t63,hy1,hy2,hz1,hz2,ce,hup,hu1,hu2,hw']))
      |(revert hK;intro hK;(first|refine And.intro ?_ ?_|intro _|omega|(with_reducible refine hK _ ?_;clear hK K))))
      all_goals first
       |exact E1 _ (B3 (by assumption) (by assumption))
       |exact E1 _ (.inr (B1 (.inr (by assumption)) (by assumption)))
       |exact E1 _ (.inr (B1 (.inl (by assumption)) (by assumption)))
       |(obtain⟨m,hm,hr⟩:=hmeet (.inr (by assumption)) (by assumption)
         refine mQ hr ?_
         refine hK _ ?_
         clear hK K
         repeat' (first
         |with_reducible refine hn9 _ ?_
         |(with_reducible (refine aI (fun K hK=>?_);refine uJ ?_);(try simp only[SS,Nat.reduceEqDiff,hw']))
         |(revert hK;intro hK;(with_reducible refine hK _ ?_;clear hK K)))
         exact E1 _ (.inr (B2 (.inr (by assumption)) (by assumption) m hm)))
       |(obtain⟨m,hm,hr⟩:=hmeet (.inl (by assumption)) (by assumption)
         refine mQ hr ?_
         refine hK _ ?_
         clear hK K
         repeat' (first
         |with_reducible refine hn9 _ ?_
         |(with_reducible (refine aI (fun K hK=>?_);refine uJ ?_);(try simp only[SS,Nat.reduceEqDiff,hw']))
         |(revert hK;intro hK;(with_reducible refine hK _ ?_;clear hK K)))
         exact E1 _ (.inr (B2 (.inl (by assumption)) (by assumption) m hm)))
end Go.Cm
namespace Go.Cm
open Go.Proofs Go.Gr
open Classical in
noncomputable def mz (g:List (List Int)) (a b:Int):Bool:=decide (Dom g a b)
theorem DT {g:List (List Int)}{a b:Int}:mz g a b=true↔Dom g a b:=by simp[mz]
theorem tO {g:List (List Int)}{a b:Int}(h:¬ Dom g a b):mz g a b=false:=by simp[mz,h]
theorem oj {g:List (List Int)}{x:Int}(h0:0≤x) (h1:x<g.length):(bO g)[x.toNat]?=some (decide (x ∈ ord g)):=by
 have:((x.toNat:Nat):Int)=x:=by omega
 rw[bO,List.getElem?_map,List.getElem?_range (by omega)]
 simp[this]
theorem fO {α:Type}{e:α→List CV}{sz d:Nat}{gl:Bool}{l:List α}{m:Mem}(hg:gl=false):adopt gl d (mC e sz l) m=(.ref (.l (16*d)) (bj m.L (16*d)) 0 l.length,bi m (16*d) (.arr (bj m.L (16*d)) sz (l.flatMap e) 0)):=by
 subst hg;rfl
end Go.Cm
