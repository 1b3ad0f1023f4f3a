import Derived.Test.YtijcpefcfcbcnaaCvU
set_option linter.unusedSimpArgs false
set_option linter.unusedVariables false
namespace Go.Cm
section
variable {P:Program}{A:Ann}{F:aW}{fid:FuncId}{nt:Nat}
variable {K0:KM}{m0:Mem}{Q0:PM}{w0:World}
def Post (nt:Nat) (K0:KM) (m0:Mem) (Q0:PM) (w0:World) (r:CE×CS):Exit→Act→World→Prop
 |.normal,a,w=>r.1=.normal∧At nt K0 m0 Q0 w0 r.2 a w
 |.exit id,a,w=>r.1=.exit id∧At nt K0 m0 Q0 w0 r.2 a w
 |.ret,a,w=>r.1=.ret∧At nt K0 m0 Q0 w0 r.2 a w
 |_,_,_=>False
theorem xq {c:Code}{f:CS→Option (CE×CS)}(hb:∀s r a w,At nt K0 m0 Q0 w0 s a w→f s=some r→c.wp P (Post nt K0 m0 Q0 w0 r) a w) (b:Frame) (k:List Item) (cs:List Frame) :
  ∀(n:Nat) (s:CS) (r:CE×CS) (a:Act) (w:World),At nt K0 m0 Q0 w0 s a w→ly n f s=some r →
   ∃e a' w',Post nt K0 m0 Q0 w0 r e a' w'∧Arrives P (lone (b.at a (.code c::.inLoop c::k)) cs w) b k cs e a' w':=by
 intro n
 induction n with
 |zero=>intro s r a w _ h;simp[ly] at h
 |succ n ih=>
  intro s r a w hA h;simp only[ly,Option.bind_eq_some_iff] at h;obtain⟨r1,h1,h2⟩:=h;obtain⟨e,a1,w1,hq,harr⟩:=hb s r1 a w hA h1 b (.inLoop c::k) cs
  cases e with
  |normal=>
   obtain⟨hn,hA1⟩:=hq;rw[hn] at h2;obtain⟨e2,a2,w2,hq2,harr2⟩:=ih r1.2 r a1 w1 hA1 h2
   exact⟨e2,a2,w2,hq2,.of_steps (Steps.trans harr (.one step_inLoop)) harr2⟩
  |exit id=>
   have hq':=hq;obtain⟨hn,hA1⟩:=hq';rw[hn] at h2;simp only[Option.some.injEq] at h2;subst h2
   exact⟨.exit id,a1,w1,⟨rfl,hA1⟩,.pass (x:=.inLoop c) rfl (λ_ _=>.inl (by simp)) harr⟩
  |ret=>
   obtain⟨hn,hA1⟩:=hq;rw[hn] at h2;simp only[Option.some.injEq] at h2;subst h2
   exact⟨.ret,a1,w1,⟨rfl,hA1⟩,.pass (x:=.inLoop c) rfl (λ_ _=>.inl (by simp)) harr⟩
  |goto l=>exact hq.elim
  |panic ch=>exact hq.elim
  |outgrown=>exact hq.elim
theorem tH (hS:Sim P F) (hN:cm P=true) (hM:P.follows .mixedOrders=true) (n:Nat):∀(c:Code) (s:CS) (r:CE×CS) (a:Act) (w:World),
  At nt K0 m0 Q0 w0 s a w→cG P A F fid nt n c s=some r→c.wp P (Post nt K0 m0 Q0 w0 r) a w:=by
 intro c
 induction c with
 |skip=>
  intro s r a w hA h;simp only[cG,Option.some.injEq] at h;subst h;exact wp_skip ⟨rfl,hA⟩
 |label l=>
  intro s r a w hA h;simp only[cG,Option.some.injEq] at h;subst h;exact wp_label ⟨rfl,hA⟩
 |region id ops draw=>
  intro s r a w hA h;simp only[cG] at h
  cases draw with
  |true=>
   simp only[if_true,Option.map_eq_some_iff] at h;obtain⟨s',h,rfl⟩:=h;exact tG hS hN hM hA h λa w hA=>⟨rfl,hA.keep _⟩
  |false=>
   simp only[Bool.false_eq_true,if_false,Option.map_eq_some_iff] at h;obtain⟨s',h,rfl⟩:=h;have:=xd (Qx:=Post nt K0 m0 Q0 w0 (.normal,{ sl:=dC (A.keep fid id) s'.sl,m:=s'.m })) hS hN (s':=s') (λa w hA=>⟨rfl,hA.keep _⟩) ops.toList 0 s a w (by simp) hA h;exact wp_region (by simpa using this)
 |seq x y ihx ihy=>
  intro s r a w hA h;simp only[cG,Option.bind_eq_some_iff] at h;obtain⟨r1,h1,h2⟩:=h;refine wp_seq (wp_mono (ihx s r1 a w hA h1) λe a' w' hp=>?_)
  cases e with
  |normal=>
   obtain⟨hn,hA1⟩:=hp;rw[hn] at h2;exact ihy _ r a' w' hA1 h2
  |exit id=>
   obtain⟨hn,hA1⟩:=hp;rw[hn] at h2;simp only[Option.some.injEq] at h2;subst h2
   exact⟨rfl,hA1⟩
  |ret=>
   obtain⟨hn,hA1⟩:=hp;rw[hn] at h2;simp only[Option.some.injEq] at h2;subst h2
   exact⟨rfl,hA1⟩
  |goto l=>exact hp.elim
  |panic ch=>exact hp.elim
  |outgrown=>exact hp.elim
 |cond c x y ihx ihy=>
  intro s r a w hA h;obtain⟨K,Q,hT,hs,_⟩:=hA;have hv:=ev_V hs c;simp only[cG] at h
  split at h
  ·rename_i hc
   rw[hc] at hv;simp only[Vt,V] at hv;exact wp_cond_true hv (ihx s r a w ⟨K,Q,hT,hs,by assumption⟩ h)
  ·rename_i hc
   rw[hc] at hv;simp only[Vt,V] at hv;exact wp_cond_false hv (ihy s r a w ⟨K,Q,hT,hs,by assumption⟩ h)
  ·simp at h
 |block id c ih=>
  intro s r a w hA h;simp only[cG,Option.map_eq_some_iff] at h;obtain⟨r1,h1,h2⟩:=h;refine wp_block (wp_mono (ih s r1 a w hA h1) λe a' w' hp=>?_)
  cases e with
  |normal=>
   obtain⟨hn,hA1⟩:=hp;rw[hn] at h2;simp only at h2;subst h2
   exact⟨hn,hA1⟩
  |exit i=>
   obtain⟨hn,hA1⟩:=hp;rw[hn] at h2;simp only at h2;simp only[Exit.inBlock]
   split at h2
   ·rename_i he
    rw[if_pos he];subst h2
    exact⟨rfl,hA1⟩
   ·rename_i he
    rw[if_neg he];subst h2
    exact⟨hn,hA1⟩
  |ret=>
   obtain⟨hn,hA1⟩:=hp;rw[hn] at h2;simp only at h2;subst h2
   exact⟨hn,hA1⟩
  |goto l=>exact hp.elim
  |panic ch=>exact hp.elim
  |outgrown=>exact hp.elim
 |loop c ih=>
  intro s r a w hA h;simp only[cG] at h;intro b k cs;obtain⟨e,a',w',hq,harr⟩:=xq (P:=P) (λs r a w=>ih s r a w) b k cs n s r a w hA h
  exact⟨e,a',w',hq,.of_steps (.one step_loop) harr⟩
 |exit id=>
  intro s r a w hA h;simp only[cG,Option.some.injEq] at h;subst h;exact wp_exit ⟨rfl,hA⟩
 |ret=>
  intro s r a w hA h;simp only[cG,Option.some.injEq] at h;subst h;exact wp_ret ⟨rfl,hA⟩
 |rangeFunc=>intro s r a w hA h;simp[cG] at h
 |scope=>intro s r a w hA h;simp[cG] at h
 |goto=>intro s r a w hA h;simp[cG] at h
 |refuse=>intro s r a w hA h;simp[cG] at h
end
section
variable {K K':KM}{M:MM}{Q Q':PM}{P:Program}{w w0:World}{m m':Mem}
theorem mS {c:CV}{v:Value}(h:V K M Q false c v):RV1 K M Q w0 w c v none:=by
 cases c
 case own=>simp[V] at h
 all_goals exact⟨rfl,h⟩
theorem pe:∀{cs:List CV}{vs:List Value}{used:List Nat},Vs K M Q false cs vs→RVs K M Q w0 w cs vs used
 |[],vs,used,h=>by simpa[RVs,Vs] using h
 |c::cs,vs,used,h=>by
  simp only[Vs] at h;obtain⟨v,r,rfl,h1,h2⟩:=h;simp only[RVs]
  exact⟨v,r,none,rfl,mS h1,by simp,pe h2⟩
theorem RV_of_V {c:CV}{v:Value}(h:V K M Q false c v):RV K M Q w0 w c v:=by
 cases c
 case tuple cs=>
  simp only[V] at h;obtain⟨vs,rfl,h⟩:=h
  exact⟨vs,rfl,pe h⟩
 all_goals exact⟨none,mS h⟩
structure Off (K:KM) (m:Mem) (Q:PM) (K':KM) (m':Mem) (Q':PM) (w:World):Prop where
 mr:MR K' m'.get Q' w
 kk:∀b o v,K b o=some v→K' b o=some v
 kn:∀b o v,K' b o=some v→K b o=some v∨∃k q,Q k=some q∧q.blk=b
 grow:Grow true m.get Q m'.get Q'
 sub:∀k q,Q' k=some q→Q k=some q
 glob:∀n,Q' (.g n)=Q (.g n)
 hh:m'.H=m.H
theorem Off.trans {K'':KM}{m'':Mem}{Q'':PM}(h:Off K m Q K' m' Q' w) (h':Off K' m' Q' K'' m'' Q'' w):Off K m Q K'' m'' Q'' w:=
 ⟨h'.mr,λb o v hv=>h'.kk _ _ _ (h.kk _ _ _ hv),λb o v hv=>(h'.kn b o v hv).elim (h.kn b o v) λ⟨k,q,hq,he⟩=>.inr ⟨k,q,h.sub k q hq,he⟩,
  h.grow.trans h'.grow,λk q hq=>h.sub k q (h'.sub k q hq),λn=>(h'.glob n).trans (h.glob n),h'.hh.trans h.hh⟩
theorem Look.off (h:Look K m K' m' Q w):Off K m Q K' m' Q w:=⟨h.mr,h.kk,h.kn,h.grow,λ_ _ h=>h,λ_=>rfl,h.hh⟩
theorem Off.refl (h:MR K m.get Q w):Off K m Q K m Q w:=(Look.refl h).off
theorem RV1.off {c:CV}{v:Value}{o:Option Nat}(h:RV1 K m.get Q w0 w c v o) (hO:Off K m Q K' m' Q' w):RV1 K' m'.get Q' w0 w c v o:=by
 have hup:∀c v,V K m.get Q false c v→V K' m'.get Q' false c v:=λc v hv=>V_mono hO.kk hO.grow.sub (λh=>h) hO.grow.sub c v hv;cases c
 case own n sz cs vl=>
  simp only[RV1] at h ⊢;rcases h with h|⟨q,cap,h1,h2,h3,h4,h5,h6,h7,⟨⟨es,t,e1,e2,e3⟩,e4,e5⟩⟩
  ·exact .inl h
  ·refine .inr ⟨q,cap,h1,h2,λk p hp=>h3 k p (hO.sub k p hp),h4,h5,h6,h7,⟨⟨es,t,e1,e2,λi c hc=>?_⟩,e4,λo ho=>?_⟩⟩
   ·obtain⟨l1,u,hu,hVu⟩:=e3 i c hc
    exact⟨l1,u,hu,hup c u hVu⟩
   ·cases hk:K' q.blk o with
    |none=>rfl
    |some v=>
     rcases hO.kn _ _ _ hk with hk'|⟨k,p,hp,he⟩
     ·rw[e5 o ho] at hk';cases hk'
     ·exact absurd he (h3 k p hp)
 all_goals
  simp only[RV1] at h ⊢
  exact⟨h.1,hup _ _ h.2⟩
theorem El (hR:MR K m.get Q w) (hloc:∀j q,Q (.l j)=some q→w0.heap.size≤q.blk) {c c':CV}{v:Value}(hV:V K m.get Q true c v) (h:gD c m=some (c',m')) :
  ∃K' Q' o,Off K m Q K' m' Q' w∧RV1 K' m'.get Q' w0 w c' v o∧(∀b,o=some b→(∃k q,Q k=some q∧q.blk=b)∧∀k q,Q' k=some q→q.blk≠b):=by
 have hesc:esc iC c m=some (c',m')→∃K' Q' o,Off K m Q K' m' Q' w∧RV1 K' m'.get Q' w0 w c' v o∧(∀b,o=some b→(∃k q,Q k=some q∧q.blk=b)∧∀k q,Q' k=some q→q.blk≠b):=by
  intro h;obtain⟨K',hl,hv,_⟩:=vW (K:=K) iC K c c' m m' v hR hV h
  exact⟨K',Q,none,hl.off,mS hv,by simp⟩
 unfold gD at h
 split at h
 ·rename_i j gn off len
  split at h
  ·rename_i g sz cs vl hget
   split at h
   ·rename_i hg
    subst hg;simp only[Option.some.injEq,Prod.mk.injEq] at h;obtain⟨rfl,rfl⟩:=h;have hget':m.get (.l j)=some (.arr g sz cs vl):=hget;simp only[V] at hV;obtain⟨_,y,a,cap,hy,_,rfl,hlc,_,hra⟩:=hV;rw[hget'] at hy;simp only[Option.some.injEq] at hy;subst hy;obtain⟨sz',cs',vl',he,hra⟩:=hra rfl;simp only[HO.arr.injEq,true_and] at he;obtain⟨rfl,rfl,rfl⟩:=he;have hgen:∀y,m.get (.l j)=some y→y.gn<(HO.arr (g+1) sz [] 0).gn:=by
     intro y hy;rw[hget'] at hy;simp only[Option.some.injEq] at hy;subst hy;exact Nat.lt_succ_self g
    have hG:Grow true m.get Q (m.set (.l j) (.arr (g+1) sz [] 0)).get (bB Q (.l j) none):=by
     rw[bQ m _ _ _ hget'];exact Grow.upd λy hy=>⟨Nat.le_of_lt (hgen y hy),λhe=>absurd he (Nat.ne_of_lt (hgen y hy))⟩
    have hsub:∀k q,bB Q (.l j) none k=some q→Q k=some q:=by
     intro k q hq;simp only[bB] at hq
     split at hq
     ·cases hq
     ·exact hq
    have hO:Off K m Q K (m.set (.l j) (.arr (g+1) sz [] 0)) (bB Q (.l j) none) w:=by
     refine⟨?_,λ_ _ _ h=>h,λ_ _ _ h=>.inl h,hG,hsub,λn=>by simp[bB],rfl⟩
     rw[bQ m _ _ _ hget'];exact hR.place hgen (by simp) (by intro q hq;simp[bB] at hq)
    rcases hra with hc0|⟨q,hq,rfl,hb1,hb2⟩
    ·refine⟨K,_,none,hO,.inl ⟨rfl,by omega,?_,a,?_⟩,by simp⟩
     ·have:len=0:=by omega
      subst this;simp
     ·have:len=0:=by omega
      subst this hc0;rfl
    ·have hcell:CellsOK K m.get Q w (en (.l j) (.arr g sz cs vl)) cs vl q:=hR.objs (.l j) _ hget' q hq
     have hne:∀k p,bB Q (.l j) none k=some p→p.blk≠q.blk:=by
      intro k p hp he;have h1:=hR.inj _ _ _ _ (hsub k p hp) hq he;subst h1;simp[bB] at hp
     have hlen:((cs.drop off).take (len*sz)).length=len*sz:=by simp;omega
     obtain⟨⟨es,t,e1,e2,e3⟩,e4,e5⟩:=hcell
     refine⟨K,_,some q.blk,hO,.inr ⟨⟨q.blk,q.base+off,q.bsz⟩,cap,rfl,hloc j q hq,hne,rfl,hlc,hb1,by omega,⟨⟨es,t,e1,e2,λi c hc=>?_⟩,?_,λo ho=>e5 o (by simp only at ho;omega)⟩⟩,?_⟩
     ·rw[List.getElem?_take] at hc
      split at hc
      ·rw[List.getElem?_drop] at hc
       obtain⟨l1,u,hu,hVu⟩:=e3 _ c hc
       exact⟨l1,u,by simp only;rw[Nat.add_assoc];exact hu,V_mono (λ_ _ _ h=>h) hG.sub (λh=>h) hG.sub c u hVu⟩
      ·cases hc
     ·have:=Nat.mul_le_mul_right sz hlc
      simp only;omega
     ·intro b hb
      simp only[Option.some.injEq] at hb;subst hb
      exact⟨⟨_,q,hq,rfl⟩,hne⟩
   ·simp at h
  ·simp at h
 ·exact hesc h
theorem p0 (w0:World):∀(cs:List CV) (cs':List CV) (vs:List Value) (K:KM) (m m':Mem) (Q:PM) (used:List Nat),MR K m.get Q w→(∀j q,Q (.l j)=some q→w0.heap.size≤q.blk)→(∀b∈used,∀k q,Q k=some q→q.blk≠b) →
  Vs K m.get Q true cs vs→am gD cs m=some (cs',m')→∃K' Q',Off K m Q K' m' Q' w∧RVs K' m'.get Q' w0 w cs' vs used
 |[],cs',vs,K,m,m',Q,used,hR,_,_,hV,h=>by
  simp only[am,Option.some.injEq,Prod.mk.injEq] at h;obtain⟨rfl,rfl⟩:=h;simp only[Vs] at hV;subst hV
  exact⟨K,Q,Off.refl hR,rfl⟩
 |c::cs,cs',vs,K,m,m',Q,used,hR,hloc,hu,hV,h=>by
  simp only[am,Option.bind_eq_some_iff,Option.map_eq_some_iff,Prod.mk.injEq] at h;obtain⟨⟨c1,m1⟩,h1,⟨cs1,m2⟩,h2,rfl,rfl⟩:=h;simp only[Vs] at hV;obtain⟨v,r,rfl,hv,hr⟩:=hV;obtain⟨K1,Q1,o,hO,hRV,ho⟩:=El hR hloc hv h1;have hu':∀b∈o.toList++used,∀k q,Q1 k=some q→q.blk≠b:=by
   intro b hb k q hq;simp only[List.mem_append,Option.mem_toList] at hb;rcases hb with hb|hb
   ·exact(ho b hb).2 k q hq
   ·exact hu b hb k q (hO.sub _ _ hq)
  obtain⟨K2,Q2,hO2,hRs⟩:=p0 w0 cs cs1 r K1 m1 m2 Q1 (o.toList++used) hO.mr (λj q hq=>hloc j q (hO.sub _ _ hq)) hu'
   (Vs_mono hO.kk hO.grow.sub (λh=>h) hO.grow cs r hr) h2
  refine⟨K2,Q2,hO.trans hO2,?_⟩
  simp only[RVs]
  refine⟨v,r,o,rfl,hRV.off hO2,λb hb hm=>?_,hRs⟩
  obtain⟨⟨k,q,hq,he⟩,_⟩:=ho b hb;exact hu b hm k q hq he
def kd (tmps:Array Value):ResultVar→Sem Value
 |.tmp t=>pure (tmps.getD t undef)
 |.cell b t=>do loadVar t (←asAddr (tmps.getD b undef))
theorem ue (fn:Func) (tmps:Array Value):results fn tmps=(do let vs ←fn.results.mapM (kd tmps);pure (if h:vs.size=1 then vs[0] else .tuple vs)):=by
 unfold results
 congr 1
theorem om {sl:List CV}{a:Act}(hR:MR K m.get Q w) (hs:Slots K m Q sl a):∀(rs:List ResultVar) (vs:List CV),ii P sl m rs=some vs →
  ∃us:List Value,us.length=rs.length∧(∀(i:Nat) (r:ResultVar),rs[i]?=some r→∃u,us[i]?=some u∧(kd a.tmps r).run P w=.ok u w)∧Vs K m.get Q true vs us
 |[],vs,h=>by
  simp only[ii,Option.some.injEq] at h;subst h
  exact⟨[],rfl,λi r hr=>by simp at hr,by simp[Vs]⟩
 |r::rs,vs,h=>by
  simp only[ii,Option.bind_eq_some_iff,Option.map_eq_some_iff] at h;obtain⟨c,hc,cs,h,rfl⟩:=h;obtain⟨us,h1,h2,h3⟩:=om hR hs rs cs h;have key:∃u,(kd a.tmps r).run P w=.ok u w∧V K m.get Q true c u:=by
   cases r with
   |tmp t=>
    simp only[Ei,Option.some.injEq] at hc;subst hc
    exact⟨_,rfl,hs t⟩
   |cell b t=>
    simp only[Ei] at hc;have hp:∃x,a.tmps.getD b undef=.pointer (some x):=by
     have hb:=hs b;have hex:(∃k g o,bH sl b=.ptr k g o)∨∃cs,bH sl b=.rptr cs:=by
      generalize bH sl b=p at hc;unfold eW at hc
      split at hc
      ·simp only[Option.bind_eq_some_iff,Option.map_eq_some_iff] at hc
       obtain⟨n,_,cs,hc,_⟩:=hc
       cases p<;>simp[bN] at hc ⊢
      ·simp only[Option.bind_eq_some_iff] at hc
       obtain⟨cs,hc,_⟩:=hc
       cases p<;>simp[bN] at hc ⊢
      ·simp at hc
     rcases hex with⟨k,g,o,he⟩|⟨cs,he⟩
     ·rw[he] at hb
      simp only[Vt,V] at hb;obtain⟨_,_,x,_,_,hx,_⟩:=hb
      exact⟨x,hx⟩
     ·rw[he] at hb
      simp only[Vt,V] at hb;obtain⟨_,_,_,hx,_⟩:=hb
      exact⟨_,hx⟩
    obtain⟨x,hx⟩:=hp;obtain⟨u,h1,h2⟩:=pE hR (hs b) hc
    refine⟨u,?_,h2⟩
    rw[hx] at h1;simp only[kd,hx];simpa[Instr.loadAt,Instr.sureAddr,asAddr] using h1
  obtain⟨u,hu1,hu2⟩:=key
  refine⟨u::us,by simp[h1],λi r' hr'=>?_,?_⟩
  ·cases i with
   |zero=>simp only[List.getElem?_cons_zero,Option.some.injEq] at hr';subst hr';exact⟨u,rfl,hu1⟩
   |succ i=>simp only[List.getElem?_cons_succ] at hr' ⊢;exact h2 i r' hr'
  ·simp only[Vs]
   exact⟨u,us,rfl,hu2,h3⟩
end
end Go.Cm
namespace Go.Cm
section
variable {P:Program}{A:Ann}
theorem mJ (H:List HO):({ L:=[],H:=H }:Mem).get=gm H:=by
 funext k
 cases k<;>simp[Mem.get,gm,aK]
theorem pw {F:aW}(hS:Sim P F) (hN:cm P=true) (hM:P.follows .mixedOrders=true) {f:FuncId}{fn:Func}{c:Code}{n:Nat}{args:List CV}{H:List HO}{r:CE×CS}{vs xs:List CV}{m':Mem}
  (hf:P.funcs[f]?=some fn) (hb:fn.body=some c) (hlen:args.length≤fn.ntmps) (he:cG P A F f fn.ntmps n c { sl:=args,m:={ L:=[],H:=H } }=some r) (hne:∀i,r.1≠.exit i)
  (hv:ii P r.2.sl r.2.m fn.results.toList=some vs) (hx:am gD vs r.2.m=some (xs,m')):SimAt P f args H (tup xs) m'.H:=by
 refine⟨⟨fn,hf,by rw[hb];rfl⟩,λK Q w us hR hV=>?_⟩
 have hl:=bT hV;simp only[Array.length_toList] at hl;have hA:At fn.ntmps K { L:=[],H:=H } Q w { sl:=args,m:={ L:=[],H:=H } } { tmps:=us++Array.replicate (fn.ntmps - us.size) undef,defers:=[] } w:=by
  refine⟨K,Q,Trans.refl (by rw[mJ];exact hR),λt=>?_,by simp;omega,rfl⟩
  show Vt K { L:=[],H:=H } Q (bH args t) _;have hget:∀(l:List CV) (t:Nat),bH l t=(l[t]?).getD .dead:=by
   intro l
   induction l with
   |nil=>intro t;simp[bH]
   |cons x l ih=>intro t;cases t<;>simp[bH,ih]
  rw[hget]
  cases ht:args[t]? with
  |none=>simp[Vt,V]
  |some x=>
   obtain⟨v,h1,h2⟩:=dX hV ht;have hlt:t<us.size:=by
    have:=(List.getElem?_eq_some_iff.1 ht).1;omega
   have:(us++Array.replicate (fn.ntmps - us.size) undef).getD t undef=v:=by
    rw[Array.getD_eq_getD_getElem?,Array.getElem?_append_left hlt];rw[Array.getElem?_toList] at h1;rw[h1];rfl
   simp only[this,Option.getD_some,Vt];rw[mJ];exact rx h2
 refine calls_of_wp hf hb (wp_mono (tH hS hN hM n c _ r _ w hA he) λe a w' hp=>?_);have fin:At fn.ntmps K { L:=[],H:=H } Q w r.2 a w'→a.defers=[]∧∃v,(results fn a.tmps).run P w'=.ok v w'∧(λe w'=>∃v K' Q',e=Ending.returned v∧MR K' (gm m'.H) Q' w'∧Since w H K Q w' m'.H K' Q'∧RV K' (gm m'.H) Q' w w' (tup xs) v) (.returned v) w':=by
  rintro⟨K1,Q1,hT,hs,hsz,hd⟩
  refine⟨hd,?_⟩
  have hQl:∀j,Q (.l j)=none:=by
   intro j
   cases hq:Q (.l j) with
   |none=>rfl
   |some q=>obtain⟨⟨x,hx⟩,_⟩:=hR.dom _ _ hq;simp[gm] at hx
  have hloc:∀j q,Q1 (.l j)=some q→w.heap.size≤q.blk:=by
   intro j q hq;rcases hT.pn _ _ hq with⟨q0,h0,_⟩|⟨h1,_⟩
   ·rw[hQl] at h0;cases h0
   ·exact h1
  obtain⟨ul,hu1,hu2,hu3⟩:=om hT.mr hs _ _ hv;obtain⟨K2,Q2,hO,hRs⟩:=p0 w vs xs ul K1 r.2.m m' Q1 [] hT.mr hloc (by simp) hu3 hx;have hmap:(fn.results.mapM (kd a.tmps)).run P w'=.ok ul.toArray w':=by
   rw[Array.mapM_eq_mapM_toList];have key:∀(rs:List ResultVar) (ul:List Value),ul.length=rs.length→(∀(i:Nat) (r:ResultVar),rs[i]?=some r→∃u,ul[i]?=some u∧(kd a.tmps r).run P w'=.ok u w') →
     (rs.mapM (kd a.tmps)).run P w'=.ok ul w':=by
    intro rs
    induction rs with
    |nil=>intro ul hl _;have:ul=[]:=List.eq_nil_of_length_eq_zero hl;subst this;rfl
    |cons r rs ih=>
     intro ul hl h;obtain⟨u,h1,h2⟩:=h 0 r (by simp)
     cases ul with
     |nil=>simp at hl
     |cons u' ul=>
      simp only[List.getElem?_cons_zero,Option.some.injEq] at h1;subst h1;have ih':=ih ul (by simpa using hl) λi r' hr'=>by simpa using h (i+1) r' (by simpa using hr')
      rw[List.mapM_cons,Sem.run_bind,h2,Result.andThen_ok,Sem.run_bind,ih',Result.andThen_ok,Sem.run_pure]
   rw[Sem.run_map,key fn.results.toList ul hu1 λi r hr=>by
    obtain⟨u,h1,h2⟩:=hu2 i r hr
    exact⟨u,h1,h2⟩]
   rfl
  have hrun:(results fn a.tmps).run P w'=.ok (if h:ul.toArray.size=1 then ul.toArray[0] else .tuple ul.toArray) w':=by
   rw[ue,Sem.run_bind,hmap,Result.andThen_ok,Sem.run_pure]
  refine⟨_,hrun,_,K2,gp Q2,rfl,hO.mr.glob,⟨?_,?_,?_,?_,?_,?_,hT.io⟩,?_⟩
  ·exact λb hb hne=>hT.frame b hb hne
  ·exact hT.size
  ·exact λb o v h=>hO.kk _ _ _ (hT.kk _ _ _ h)
  ·intro b o v h
   rcases hO.kn _ _ _ h with h|⟨k,q,hq,he⟩
   ·exact hT.kn _ _ _ h
   ·rcases hT.pn _ _ hq with⟨q0,h0,he0⟩|⟨h1,_⟩
    ·exact .inr (.inl ⟨k,q0,h0,by omega⟩)
    ·exact .inr (.inr (by omega))
  ·have hg1:=hT.grow.trans hO.grow
   rw[mJ] at hg1;intro k x hk hx
   cases k with
   |l j=>simp[keyOK] at hk
   |g n=>
    obtain⟨x',hx',hle,hp⟩:=hg1 (.g n) x trivial hx
    exact⟨x',hx',hle,hp⟩
  ·intro k q hq
   cases k with
   |l j=>simp[gp] at hq
   |g n=>
    have hq1:=hO.sub _ _ hq;have:=hT.pn' hO.grow hq1;rw[mJ] at this;rcases this with h|⟨h1,h2⟩
    ·exact .inl h
    ·exact .inr ⟨h1,λh hh=>h2 h hh⟩
  ·have hG:=Grow.glob (m:=m') (Q:=Q2)
   have hRs':RVs K2 (gm m'.H) (gp Q2) w w' xs ul []:=hRs.mono (λc v hg hv=>by
    rcases hg with hg|hg
    ·exact noG_V c v hg hv
    ·exact V_mono (λ_ _ _ h=>h) hg (λh=>h) hg c v hv) (.inr hG) (λb _ hne k p hp=>by
     cases k with
     |l j=>simp[gp] at hp
     |g n=>exact hne _ p hp)
   have hxl:xs.length=ul.length:=by
    clear hrun hmap;have:∀(xs:List CV) (ul:List Value) (used:List Nat),RVs K2 (gm m'.H) (gp Q2) w w' xs ul used→xs.length=ul.length:=by
     intro xs
     induction xs with
     |nil=>intro ul used h;simp only[RVs] at h;simp[h]
     |cons c cs ih=>
      intro ul used h;simp only[RVs] at h;obtain⟨v,r,o,rfl,_,_,h⟩:=h;simp[ih _ _ h]
    exact this _ _ _ hRs'
   by_cases h1:ul.length=1
   ·obtain⟨u,rfl⟩:=List.length_eq_one_iff.1 h1
    obtain⟨x,rfl⟩:=List.length_eq_one_iff.1 (hxl.trans h1);simp only[RVs] at hRs';obtain⟨v,r,o,hvr,hr1,_⟩:=hRs';simp only[List.cons.injEq] at hvr;obtain⟨rfl,_⟩:=hvr;show RV _ _ _ _ _ (tup [x]) u;simp only[tup];cases x
    case tuple cs=>
     simp only[RV1] at hr1;exact RV_of_V hr1.2
    all_goals exact⟨o,hr1⟩
   ·have h2:¬ul.toArray.size=1:=by simpa using h1
    rw[dif_neg h2];have htup:tup xs=.tuple xs:=by
     unfold tup;split
     ·simp at hxl;omega
     ·rfl
    rw[htup]
    exact⟨_,rfl,hRs'⟩
 cases e with
 |normal=>exact fin hp.2
 |ret=>exact fin hp.2
 |exit i=>exact absurd hp.1 (hne i)
 |goto l=>exact hp.elim
 |panic ch=>exact hp.elim
 |outgrown=>exact hp.elim
theorem wY {E:aW}(hE:Sim P E) (hN:cm P=true) (hM:P.follows .mixedOrders=true):∀n,Sim P (kz P A E n):=by
 intro n
 induction n with
 |zero=>intro f args H r H' h;simp[kz] at h
 |succ n ih=>
  intro f args H r H' h;simp only[kz] at h
  split at h
  ·rename_i r' hr
   simp only[Option.some.injEq] at h;subst h;exact hE _ _ _ _ _ hr
  ·split at h
   ·simp at h
   ·rename_i fn hfn
    split at h
    ·simp at h
    ·rename_i c hc
     split at h
     ·rename_i hlen
      simp only[Option.bind_eq_some_iff] at h;obtain⟨r1,he,h⟩:=h
      split at h
      ·simp at h
      ·rename_i hne
       simp only[Option.bind_eq_some_iff,Option.map_eq_some_iff,Prod.mk.injEq] at h;obtain⟨vs,hv,⟨xs,m'⟩,hx,rfl,rfl⟩:=h;exact pw ih hN hM hfn hc hlen he (λi hi=>hne i hi) hv hx
     ·simp at h
end
end Go.Cm
