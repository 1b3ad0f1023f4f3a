import Derived.Test.YtjhndbgokapikaaCvM
set_option linter.unusedSimpArgs false
set_option linter.unusedVariables false
namespace Go.Cm
def gm (H:List HO):MM:=λk=>match k with
 |.g n=>H[n]?
 |.l _=>none
def gp (Q:PM):PM:=λk=>match k with
 |.g n=>Q (.g n)
 |.l _=>none
def RV1 (K:KM) (M:MM) (Q:PM) (w0 w:World) (c:CV) (v:Value) (o:Option Nat):Prop:=
 match c with
 |.own n sz cs vl=>(o=none∧n=0∧cs=[]∧∃a,v=.slice a 0 0) ∨
   ∃q cap,o=some q.blk∧w0.heap.size≤q.blk∧(∀k p,Q k=some p→p.blk≠q.blk)∧v=.slice (some ⟨q.blk,q.base,none⟩) n cap∧n≤cap∧q.base+cap*sz≤q.bsz∧n*sz≤cs.length∧CellsOK K M Q w false cs vl q
 |c=>o=none∧V K M Q false c v
def RVs (K:KM) (M:MM) (Q:PM) (w0 w:World):List CV→List Value→List Nat→Prop
 |[],vs,_=>vs=[]
 |c::cs,vs,used=>∃v r o,vs=v::r∧RV1 K M Q w0 w c v o∧(∀b,o=some b→b∉used)∧RVs K M Q w0 w cs r (o.toList++used)
def RV (K:KM) (M:MM) (Q:PM) (w0 w:World) (c:CV) (v:Value):Prop:=
 match c with
 |.tuple cs=>∃vs:Array Value,v=.tuple vs∧RVs K M Q w0 w cs vs.toList []
 |c=>∃o,RV1 K M Q w0 w c v o
structure Since (w0:World) (H0:List HO) (K0:KM) (P0:PM) (w:World) (H:List HO) (K:KM) (P:PM):Prop where
 frame:∀b,b<w0.heap.size→(∀k q,P0 k=some q→q.blk≠b)→w.heap[b]?=w0.heap[b]?
 size:w0.heap.size≤w.heap.size
 kk:∀b o v,K0 b o=some v→K b o=some v
 kn:∀b o v,K b o=some v→K0 b o=some v∨(∃k q,P0 k=some q∧q.blk=b)∨w0.heap.size≤b
 grow:Grow false (gm H0) P0 (gm H) P
 pn:∀k q,P k=some q→(∃q0,P0 k=some q0∧q0.blk=q.blk)∨(w0.heap.size≤q.blk∧∀h,gm H0 k=some h→∃h',gm H k=some h'∧h.gn<h'.gn)
 io:Kept w0 w
def SimAt (P:Program) (f:FuncId) (args:List CV) (H:List HO) (r:CV) (H':List HO):Prop:=
 (∃fn,P.funcs[f]?=some fn∧fn.body.isSome=true) ∧
 ∀K Q (w:World) (vs:Array Value),MR K (gm H) Q w→Vs K (gm H) Q false args vs.toList →
  Calls P f vs w λe w'=>∃v K' Q',e=.returned v∧MR K' (gm H') Q' w'∧Since w H K Q w' H' K' Q'∧RV K' (gm H') Q' w w' r v
def Sim (P:Program) (F:aW):Prop:=∀f args H r H',F f args H=some (r,H')→SimAt P f args H r H'
section
variable {K K':KM}{Q Q':PM}{P:Program}{w w' w0:World}{m m':Mem}{M M':MM}
mutual
theorem noG_V {loc loc':Bool}:∀(c:CV) (v:Value),noG c=true→V K M Q loc c v→V K M' Q' loc' c v
 |.dead,_,h,_=>by simp[noG] at h
 |.bool b,_,_,hv=>by simpa[V] using hv
 |.int k n,_,_,hv=>by simpa[V] using hv
 |.str s,_,_,hv=>by simpa[V] using hv
 |.agg cs,v,h,hv=>by
  simp only[V] at hv ⊢;obtain⟨h0,vs,h1,h2⟩:=hv
  exact⟨h0,vs,h1,noGs_V cs _ (by simpa[noG] using h) h2⟩
 |.nil,_,_,hv=>by simpa[V] using hv
 |.imm n cs,v,h,hv=>by
  simp only[V] at hv ⊢;obtain⟨h0,a,cap,h1,h2,h3⟩:=hv
  refine⟨h0,a,cap,h1,h2,?_⟩
  rcases h3 with h3|⟨b,o,ha,hk⟩
  ·exact .inl h3
  ·exact .inr ⟨b,o,ha,noGs_Vk cs b o (by simpa[noG] using h) hk⟩
 |.own _ _ _ _,_,_,hv=>by simp[V] at hv
 |.ref _ _ _ _,_,h,_=>by simp[noG] at h
 |.pnil,_,_,hv=>by simpa[V] using hv
 |.ptr _ _ _,_,h,_=>by simp[noG] at h
 |.rptr cs,v,h,hv=>by
  simp only[V] at hv ⊢;obtain⟨h0,b,o,h1,hk⟩:=hv
  exact⟨h0,b,o,h1,noGs_Vk cs b o (by simpa[noG] using h) hk⟩
 |.mnil,_,_,hv=>by simpa[V] using hv
 |.map _ _,_,h,_=>by simp[noG] at h
 |.func f a b,v,h,hv=>by
  simp only[V] at hv ⊢;simp only[noG,Bool.and_eq_true] at h;obtain⟨x,y,h1,h2,h3⟩:=hv
  exact⟨x,y,h1,noGs_V a _ h.1 h2,noGs_V b _ h.2 h3⟩
 |.nilf,_,_,hv=>by simpa[V] using hv
 |.inil,_,_,hv=>by simpa[V] using hv
 |.iface t c,v,h,hv=>by
  simp only[V] at hv ⊢;obtain⟨u,h1,h2⟩:=hv
  exact⟨u,h1,noG_V c u (by simpa[noG] using h) h2⟩
 |.tuple cs,v,h,hv=>by
  simp only[V] at hv ⊢;obtain⟨vs,h1,h2⟩:=hv
  exact⟨vs,h1,noGs_V cs _ (by simpa[noG] using h) h2⟩
theorem noGs_V {loc loc':Bool}:∀(cs:List CV) (vs:List Value),noGs cs=true→Vs K M Q loc cs vs→Vs K M' Q' loc' cs vs
 |[],_,_,hv=>by simpa[Vs] using hv
 |c::cs,vs,h,hv=>by
  simp only[Vs] at hv ⊢;simp only[noGs,Bool.and_eq_true] at h;obtain⟨v,r,h1,h2,h3⟩:=hv
  exact⟨v,r,h1,noG_V c v h.1 h2,noGs_V cs r h.2 h3⟩
theorem noGs_Vk:∀(cs:List CV) (b o:Nat),noGs cs=true→Vk K M Q b o cs→Vk K M' Q' b o cs
 |[],_,_,_,_=>by simp[Vk]
 |c::cs,b,o,h,hv=>by
  simp only[Vk] at hv ⊢;simp only[noGs,Bool.and_eq_true] at h;obtain⟨⟨v,h1,h2⟩,h3⟩:=hv
  exact⟨⟨v,h1,noG_V c v h.1 h2⟩,noGs_Vk cs b (o+1) h.2 h3⟩
end
theorem sj:∀{cs:List CV}{c:CV},noGs cs=true→c∈cs→noG c=true
 |x::cs,c,h,hc=>by
  simp only[noGs,Bool.and_eq_true] at h
  cases hc with
  |head=>exact h.1
  |tail _ hm=>exact sj h.2 hm
theorem RV1.mono {c:CV}{v:Value}{o:Option Nat}(h:RV1 K M Q w0 w c v o) (hV:∀c v,(noG c=true∨Grow false M Q M' Q')→V K M Q false c v→V K M' Q' false c v)
  (hg:noG c=true∨Grow false M Q M' Q') (hQ:∀b,o=some b→∀k p,Q' k=some p→p.blk≠b):RV1 K M' Q' w0 w c v o:=by
 cases c
 case own n sz cs vl=>
  simp only[RV1] at h ⊢;rcases h with h|⟨q,cap,h1,h2,h3,h4,h5,h6,h7,⟨⟨es,t,e1,e2,e3⟩,e4,e5⟩⟩
  ·exact .inl h
  ·refine .inr ⟨q,cap,h1,h2,hQ _ h1,h4,h5,h6,h7,⟨⟨es,t,e1,e2,λi c hc=>?_⟩,e4,e5⟩⟩
   obtain⟨l1,u,hu,hVu⟩:=e3 i c hc
   refine⟨l1,u,hu,hV c u ?_ hVu⟩
   rcases hg with hg|hg
   ·exact .inl (sj (by simpa[noG] using hg) (List.mem_of_getElem? hc))
   ·exact .inr hg
 all_goals
  simp only[RV1] at h ⊢
  exact⟨h.1,hV _ _ hg h.2⟩
theorem wW {K1 K2:KM}{Q2:PM}{w2:World}{m1:Mem}{H2:List HO}(h1:MR K1 m1.get Q w) (h2:MR K2 (gm H2) Q2 w2) (hs:Since w m1.H K1 (gp Q) w2 H2 K2 Q2) :
  Trans K1 m1 Q w K2 { L:=m1.L,H:=H2 } (λk=>match k with|.l j=>Q (.l j)|.g n=>Q2 (.g n)) w2:=by
 have hnl:∀j,Q2 (.l j)=none:=by
  intro j
  cases hq:Q2 (.l j) with
  |none=>rfl
  |some q=>obtain⟨⟨x,hx⟩,_⟩:=h2.dom _ _ hq;simp[gm] at hx
 have hgrow:Grow true m1.get Q ({ L:=m1.L,H:=H2 }:Mem).get (λk=>match k with|.l j=>Q (.l j)|.g n=>Q2 (.g n)):=by
  intro k x _ hx
  cases k with
  |l j=>exact⟨x,hx,Nat.le_refl _,λ_=>⟨λq hq=>hq,λg sz cs vl he=>⟨cs,vl,he,Nat.le_refl _⟩⟩⟩
  |g n=>
   obtain⟨x',hx',hle,hp⟩:=hs.grow (.g n) x trivial hx
   exact⟨x',hx',hle,λhe=>hp he⟩
 have hgrow2:Grow false (gm H2) Q2 ({ L:=m1.L,H:=H2 }:Mem).get (λk=>match k with|.l j=>Q (.l j)|.g n=>Q2 (.g n)):=by
  intro k x hk hx
  cases k with
  |l j=>simp[keyOK] at hk
  |g n=>exact⟨x,hx,Nat.le_refl _,λ_=>⟨λq hq=>hq,λg sz cs vl he=>⟨cs,vl,he,Nat.le_refl _⟩⟩⟩
 have hloc:∀j q,Q (.l j)=some q→w2.heap[q.blk]?=w.heap[q.blk]?∧∀o,K1 q.blk o=none→K2 q.blk o=none:=by
  intro j q hq;have hne:∀k q',gp Q k=some q'→q'.blk≠q.blk:=by
   intro k q' hq' he
   cases k with
   |l i=>simp[gp] at hq'
   |g n=>have:=h1.inj _ _ _ _ hq hq' he.symm;cases this
  refine⟨hs.frame _ (h1.dom _ _ hq).2 hne,λo ho=>?_⟩
  cases hk:K2 q.blk o with
  |none=>rfl
  |some v=>
   rcases hs.kn _ _ _ hk with h|⟨k,q',hq',he⟩|h
   ·rw[ho] at h;cases h
   ·exact absurd he (hne k q' hq')
   ·have:=(h1.dom _ _ hq).2;omega
 refine⟨⟨h2.stab,λk x hx=>?_,λk k' q q' hq hq' he=>?_,λk q hq=>?_,λk g cs vl q hx hq=>by
  cases k with
  |l j=>exact h1.v0 (.l j) g cs vl q hx hq
  |g n=>exact h2.v0 (.g n) g cs vl q hx hq⟩,hs.kk,hgrow,hs.size,λb hb hne=>hs.frame b hb λk q hq=>?_,λb o v hv=>?_,λk q hq=>?_,hs.io⟩
 ·cases k with
  |l j=>exact(h1.objs (.l j) x hx).mono hs.kk hgrow (λq hq=>hq) (λq hq=>(hloc j q hq).1) (λq hq o _ ho=>(hloc j q hq).2 o ho)
  |g n=>
   intro q hq;have:=h2.objs (.g n) x hx q hq
   cases x with
   |map g es=>
    obtain⟨xs,clk,a,b,c,st⟩:=this
    refine⟨xs,clk,a,b,λi e he=>?_,st⟩
    obtain⟨y,hy,ha,hb⟩:=c i e he
    exact⟨y,hy,V_mono (λ_ _ _ h=>h) hgrow2 (λh=>h) hgrow2 _ _ ha,V_mono (λ_ _ _ h=>h) hgrow2 (λh=>h) hgrow2 _ _ hb⟩
   |var g cs vl=>
    obtain⟨⟨es,t,a,b,c⟩,d,e⟩:=this
    refine⟨⟨es,t,a,b,λi c0 hc=>?_⟩,d,e⟩
    obtain⟨l1,u,hu,hVu⟩:=c i c0 hc
    exact⟨l1,u,hu,V_mono (λ_ _ _ h=>h) hgrow2 (λh=>h) hgrow2 _ _ hVu⟩
   |arr g sz cs vl=>
    obtain⟨⟨es,t,a,b,c⟩,d,e⟩:=this
    refine⟨⟨es,t,a,b,λi c0 hc=>?_⟩,d,e⟩
    obtain⟨l1,u,hu,hVu⟩:=c i c0 hc
    exact⟨l1,u,hu,V_mono (λ_ _ _ h=>h) hgrow2 (λh=>h) hgrow2 _ _ hVu⟩
 ·have cross:∀j n q q',Q (.l j)=some q→Q2 (.g n)=some q'→q.blk≠q'.blk:=by
   intro j n q q' ha hb he;rcases hs.pn _ _ hb with⟨q0,h0,he0⟩|⟨hge,_⟩
   ·have:=h1.inj (.l j) (.g n) q q0 ha (by simpa[gp] using h0) (by omega);cases this
   ·have:=(h1.dom _ _ ha).2;omega
  cases k with
  |l j=>
   cases k' with
   |l j'=>exact h1.inj _ _ _ _ hq hq' he
   |g n=>exact absurd he (cross j n q q' hq hq')
  |g n=>
   cases k' with
   |l j'=>exact absurd he.symm (cross j' n q' q hq' hq)
   |g n'=>exact h2.inj _ _ _ _ hq hq' he
 ·cases k with
  |l j=>
   obtain⟨hx,hlt⟩:=h1.dom (.l j) q hq
   exact⟨hx,Nat.lt_of_lt_of_le hlt hs.size⟩
  |g n=>exact h2.dom (.g n) q hq
 ·cases k with
  |l j=>simp[gp] at hq
  |g n=>exact hne (.g n) q hq
 ·rcases hs.kn b o v hv with h|⟨k,q,hq,he⟩|h
  ·exact .inl h
  ·cases k with
   |l j=>simp[gp] at hq
   |g n=>exact .inr (.inl ⟨.g n,q,hq,he⟩)
  ·exact .inr (.inr h)
 ·cases k with
  |l j=>exact .inl ⟨q,hq,rfl⟩
  |g n=>
   rcases hs.pn (.g n) q hq with⟨q0,h0,he⟩|⟨hge,hgn⟩
   ·exact .inl ⟨q0,by simpa[gp] using h0,he⟩
   ·exact .inr ⟨hge,λh hh=>hgn h hh⟩
theorem MR.glob (h:MR K m.get Q w):MR K (gm m.H) (gp Q) w:=by
 have hg:Grow false m.get Q (gm m.H) (gp Q):=by
  intro k x hk hx
  cases k with
  |l j=>simp[keyOK] at hk
  |g n=>exact⟨x,hx,Nat.le_refl _,λ_=>⟨λq hq=>hq,λg sz cs vl he=>⟨cs,vl,he,Nat.le_refl _⟩⟩⟩
 refine⟨h.stab,λk x hx=>?_,λk k' q q' hq hq' he=>?_,λk q hq=>?_,λk g cs vl q hx hq=>by
  cases k with
  |l j=>simp[gm] at hx
  |g n=>exact h.v0 (.g n) g cs vl q hx hq⟩
 ·cases k with
  |l j=>simp[gm] at hx
  |g n=>
   intro q hq;have:=h.objs (.g n) x hx q hq
   cases x with
   |map g es=>
    obtain⟨xs,clk,a,b,c,st⟩:=this
    refine⟨xs,clk,a,b,λi e he=>?_,st⟩
    obtain⟨y,hy,ha,hb⟩:=c i e he
    exact⟨y,hy,V_mono (λ_ _ _ h=>h) hg (λh=>h) hg _ _ ha,V_mono (λ_ _ _ h=>h) hg (λh=>h) hg _ _ hb⟩
   |var g cs vl=>
    obtain⟨⟨es,t,a,b,c⟩,d,e⟩:=this
    refine⟨⟨es,t,a,b,λi c0 hc=>?_⟩,d,e⟩
    obtain⟨l1,u,hu,hVu⟩:=c i c0 hc
    exact⟨l1,u,hu,V_mono (λ_ _ _ h=>h) hg (λh=>h) hg _ _ hVu⟩
   |arr g sz cs vl=>
    obtain⟨⟨es,t,a,b,c⟩,d,e⟩:=this
    refine⟨⟨es,t,a,b,λi c0 hc=>?_⟩,d,e⟩
    obtain⟨l1,u,hu,hVu⟩:=c i c0 hc
    exact⟨l1,u,hu,V_mono (λ_ _ _ h=>h) hg (λh=>h) hg _ _ hVu⟩
 ·cases k with
  |l j=>simp[gp] at hq
  |g n=>
   cases k' with
   |l j=>simp[gp] at hq'
   |g n'=>exact h.inj _ _ _ _ hq hq' he
 ·cases k with
  |l j=>simp[gp] at hq
  |g n=>exact h.dom (.g n) q hq
theorem Grow.glob:Grow false m.get Q (gm m.H) (gp Q):=by
 intro k x hk hx
 cases k with
 |l j=>simp[keyOK] at hk
 |g n=>exact⟨x,hx,Nat.le_refl _,λ_=>⟨λq hq=>hq,λg sz cs vl he=>⟨cs,vl,he,Nat.le_refl _⟩⟩⟩
end
end Go.Cm
namespace Go.Cm
section
variable {K K' K2:KM}{Q Q' Q2:PM}{P:Program}{w w' w0 w2:World}{m m' m2:Mem}{M M':MM}
theorem MR.place (h:MR K M Q w) {k:Key}{x:HO}{q:Option Pl}(hgen:∀y,M k=some y→y.gn<x.gn)
  (hnew:∀p,q=some p→(∀k' p',Q k'=some p'→p'.blk≠p.blk)∧p.blk<w.heap.size)
  (hok:OK1 K (upd M k x) (bB Q k q) w k x)
  (hv0:∀g cs vl p,x=HO.var g cs vl→q=some p→p.base=0:=by intro _ _ _ _ h1 h2;first|(cases h2;done)|(cases h2;rfl)|(cases h1;done)):MR K (upd M k x) (bB Q k q) w:=by
 have hG:Grow true M Q (upd M k x) (bB Q k q):=Grow.upd λy hy=>⟨Nat.le_of_lt (hgen y hy),λhe=>absurd he (Nat.ne_of_lt (hgen y hy))⟩
 refine⟨h.stab,λk' y hy=>?_,λk1 k2 q1 q2 h1 h2 he=>?_,λk' q1 h1=>?_,MR.v0_upd h.v0 hv0⟩
 ·by_cases he:k=k'
  ·subst he
   simp only[upd,if_true,Option.some.injEq] at hy;subst hy;exact hok
  ·simp only[upd,he,if_false] at hy
   exact(h.objs k' y hy).mono (λ_ _ _ h=>h) hG (λq1 h1=>by simpa[bB,he] using h1) (λq1 _=>rfl) (λ_ _ _ _ h=>h)
 ·simp only[bB] at h1 h2
  split at h1<;>split at h2
  ·rename_i a b;rw[←a,←b]
  ·exact absurd he.symm ((hnew _ h1).1 _ _ h2)
  ·exact absurd he ((hnew _ h2).1 _ _ h1)
  ·exact h.inj _ _ _ _ h1 h2 he
 ·simp only[bB] at h1
  split at h1
  ·rename_i a
   exact⟨⟨x,by simp[upd,a]⟩,(hnew _ h1).2⟩
  ·rename_i a
   obtain⟨⟨y,hy⟩,hlt⟩:=h.dom k' q1 h1
   exact⟨⟨y,by simp[upd,a,hy]⟩,hlt⟩
theorem mZ {glob:Bool}{j:Nat}{c:CV}{v:Value}{o:Option Nat}(hT:Trans K m Q w K2 m2 Q2 w2) (h:RV1 K2 m2.get Q2 w w2 c v o) :
  ∃Q3,Trans K m Q w K2 (adopt1 glob j c m2).2 Q3 w2∧Grow true m2.get Q2 (adopt1 glob j c m2).2.get Q3∧Vt K2 (adopt1 glob j c m2).2 Q3 (adopt1 glob j c m2).1 v ∧
   ∀k q,Q3 k=some q→Q2 k=some q∨o=some q.blk:=by
 cases c
 case own n sz cs vl=>
  simp only[adopt1];obtain⟨hget,hgen⟩:=fN m2 glob j (λg=>HO.arr g sz cs vl) (λ_=>rfl);have hgetk:(m2.add glob j λg=>HO.arr g sz cs vl).2.2.get (m2.add glob j λg=>HO.arr g sz cs vl).1=some (.arr (m2.add glob j λg=>HO.arr g sz cs vl).2.1 sz cs vl):=by rw[hget];simp[upd]
  generalize (m2.add glob j λg=>HO.arr g sz cs vl).1=key at *;generalize (m2.add glob j λg=>HO.arr g sz cs vl).2.1=gn at *;generalize (m2.add glob j λg=>HO.arr g sz cs vl).2.2=m3 at *;have hflag:∀gg cc vv s,en key (.arr gg s cc vv)=false:=by intro gg cc vv s;cases key<;>rfl
  simp only[RV1] at h;have hG:∀q,Grow true m2.get Q2 m3.get (bB Q2 key q):=λq=>by
   rw[hget];exact Grow.upd λy hy=>⟨Nat.le_of_lt (hgen y hy),λhe=>absurd he (Nat.ne_of_lt (hgen y hy))⟩
  rcases h with⟨rfl,rfl,rfl,a,rfl⟩|⟨q,cap,rfl,hq1,hq2,rfl,hcap,hc1,hc2,hcell⟩
  ·have hmr:MR K2 m3.get (bB Q2 key none) w2:=by
    rw[hget];exact hT.mr.place (x:=.arr gn sz [] vl) hgen (by simp) (by intro q hq;simp[bB] at hq)
   refine⟨bB Q2 key none,⟨hmr,hT.kk,hT.grow.trans (hG none),hT.size,hT.frame,hT.kn,λk q hq=>?_,hT.io⟩,hG none,?_,λk q hq=>?_⟩
   ·simp only[bB] at hq
    split at hq
    ·simp at hq
    ·exact hT.pn' (hG none) hq
   ·simp only[Vt,V]
    exact⟨by cases key<;>simp[keyOK],_,a,0,hgetk,Nat.le_refl _,rfl,Nat.le_refl _,.inl rfl,λ_=>⟨_,_,_,rfl,.inl rfl⟩⟩
   ·simp only[bB] at hq
    split at hq
    ·simp at hq
    ·exact .inl hq
  ·have hlt:q.blk<w2.heap.size:=by
    obtain⟨es,t,h1,_⟩:=hcell.row;rcases Nat.lt_or_ge q.blk w2.heap.size with h|h
    ·exact h
    ·rw[Array.getElem?_eq_none h] at h1;cases h1
   have hmr:MR K2 m3.get (bB Q2 key (some q)) w2:=by
    rw[hget];refine hT.mr.place (x:=.arr gn sz cs vl) hgen (λp hp=>by simp only[Option.some.injEq] at hp;subst hp;exact⟨hq2,hlt⟩) ?_;intro p hp;simp only[bB,if_true,Option.some.injEq] at hp;subst hp;have hG':=hG (some q);rw[hget] at hG'
    refine(show CellsOK _ _ _ _ _ _ _ _ from ?_)
    rw[hflag];exact hcell.mono (λ_ _ _ h=>h) hG' rfl hcell.free
   refine⟨bB Q2 key (some q),⟨hmr,hT.kk,hT.grow.trans (hG _),hT.size,hT.frame,hT.kn,λk p hp=>?_,hT.io⟩,hG _,?_,λk p hp=>?_⟩
   ·simp only[bB] at hp
    split at hp
    ·rename_i he;subst he
     simp only[Option.some.injEq] at hp;subst hp;exact .inr ⟨hq1,λh hh=>⟨_,hgetk,hT.gen hh hgen⟩⟩
    ·exact hT.pn' (hG (some q)) hp
   ·exact Kz hgetk (by simp[bB]) hcap hc1 hc2
   ·simp only[bB] at hp
    split at hp
    ·simp only[Option.some.injEq] at hp;subst hp;exact .inr rfl
    ·exact .inl hp
 all_goals
  simp only[RV1] at h
  exact⟨Q2,hT,Grow.refl _ _ _,rx h.2,λk q hq=>.inl hq⟩
theorem tm {glob:Bool}:∀(cs:List CV) (j:Nat) (vs:List Value) (used:List Nat) {m2:Mem}{Q2:PM},Trans K m Q w K2 m2 Q2 w2→RVs K2 m2.get Q2 w w2 cs vs used →
  ∃Q3,Trans K m Q w K2 (adopts glob j cs m2).2 Q3 w2∧Grow true m2.get Q2 (adopts glob j cs m2).2.get Q3∧Vs K2 (adopts glob j cs m2).2.get Q3 true (adopts glob j cs m2).1 vs:=by
 intro cs
 induction cs with
 |nil=>
  intro j vs used m2 Q2 hT h;simp only[RVs] at h;subst h
  exact⟨Q2,hT,Grow.refl _ _ _,by simp[adopts,Vs]⟩
 |cons c cs ih=>
  intro j vs used m2 Q2 hT h;simp only[RVs] at h;obtain⟨v,r,o,rfl,h1,h2,h3⟩:=h;obtain⟨Q3,hT3,hG3,hV3,hb3⟩:=mZ (glob:=glob) (j:=j) hT h1;have h3':RVs K2 (adopt1 glob j c m2).2.get Q3 w w2 cs r (o.toList++used):=by
   have key:∀(cs:List CV) (r:List Value) (u:List Nat),(∀b,o=some b→b∈u)→RVs K2 m2.get Q2 w w2 cs r u→RVs K2 (adopt1 glob j c m2).2.get Q3 w w2 cs r u:=by
    intro cs
    induction cs with
    |nil=>intro r u _ h;exact h
    |cons c' cs ih'=>
     intro r u hu h;simp only[RVs] at h ⊢;obtain⟨v',r',o',rfl,a1,a2,a3⟩:=h
     refine⟨v',r',o',rfl,?_,a2,ih' r' _ (λb hb=>List.mem_append_right _ (hu b hb)) a3⟩
     refine a1.mono (λc v _ hv=>V_mono (λ_ _ _ h=>h) hG3.sub (λh=>h) hG3.sub c v hv) (.inr hG3.sub) λb hb k p hp he=>?_;rcases hb3 k p hp with hq|hq
     ·cases c'<;>simp only[RV1] at a1
      case own=>
       rcases a1 with⟨rfl,_⟩|⟨q,cap,hq1,_,hq2,_⟩
       ·cases hb
       ·rw[hb] at hq1;simp only[Option.some.injEq] at hq1
        exact hq2 k p hq (by omega)
      all_goals (rw[a1.1] at hb;cases hb)
     ·exact a2 b hb (by rw[←he];exact hu _ hq)
   exact key cs r _ (λb hb=>by simp[hb]) h3
  obtain⟨Q4,hT4,hG4,hV4⟩:=ih (j+1) r _ hT3 h3'
  refine⟨Q4,hT4,hG3.trans hG4,?_⟩
  simp only[adopts,Vs]
  exact⟨v,r,rfl,V_mono (λ_ _ _ h=>h) hG4.sub (λh=>h) hG4 _ _ hV3,hV4⟩
theorem wQ {glob:Bool}{d:Nat}{c:CV}{v:Value}(hT:Trans K m Q w K2 m2 Q2 w2) (h:RV K2 m2.get Q2 w w2 c v) :
  ∃Q3,Trans K m Q w K2 (adopt glob d c m2).2 Q3 w2∧Vt K2 (adopt glob d c m2).2 Q3 (adopt glob d c m2).1 v:=by
 cases c
 case tuple cs=>
  simp only[RV] at h;obtain⟨vs,rfl,h⟩:=h;obtain⟨Q3,h1,_,h2⟩:=tm (glob:=glob) cs (16*d+1) _ _ hT h
  refine⟨Q3,by simpa[adopt] using h1,?_⟩
  simp only[adopt,Vt,V]
  exact⟨vs,rfl,h2⟩
 all_goals
  simp only[RV] at h;obtain⟨o,h⟩:=h;obtain⟨Q3,h1,_,h2,_⟩:=mZ (glob:=glob) (j:=16*d) hT h
  exact⟨Q3,by simpa[adopt] using h1,by simpa[adopt] using h2⟩
theorem RVs.mono {cs:List CV}{vs:List Value}{used:List Nat}(h:RVs K M Q w0 w cs vs used) (hV:∀c v,(noG c=true∨Grow false M Q M' Q')→V K M Q false c v→V K M' Q' false c v)
  (hg:noGs cs=true∨Grow false M Q M' Q') (hQ:∀b,w0.heap.size≤b→(∀k p,Q k=some p→p.blk≠b)→∀k p,Q' k=some p→p.blk≠b):RVs K M' Q' w0 w cs vs used:=by
 induction cs generalizing vs used with
 |nil=>exact h
 |cons c cs ih=>
  simp only[RVs] at h ⊢;obtain⟨v,r,o,rfl,a1,a2,a3⟩:=h;have hgc:noG c=true∨Grow false M Q M' Q':=by
   rcases hg with hg|hg
   ·simp only[noGs,Bool.and_eq_true] at hg;exact .inl hg.1
   ·exact .inr hg
  have hgs:noGs cs=true∨Grow false M Q M' Q':=by
   rcases hg with hg|hg
   ·simp only[noGs,Bool.and_eq_true] at hg;exact .inl hg.2
   ·exact .inr hg
  refine⟨v,r,o,rfl,a1.mono hV hgc λb hb=>?_,a2,ih a3 hgs⟩
  cases c<;>simp only[RV1] at a1
  case own=>
   rcases a1 with⟨rfl,_⟩|⟨q,cap,hq1,hq0,hq2,_⟩
   ·cases hb
   ·rw[hb] at hq1;simp only[Option.some.injEq] at hq1
    exact hQ b (by omega) (λk p hp=>by rw[hq1];exact hq2 k p hp)
  all_goals (rw[a1.1] at hb;cases hb)
theorem RV.mono {c:CV}{v:Value}(h:RV K M Q w0 w c v) (hV:∀c v,(noG c=true∨Grow false M Q M' Q')→V K M Q false c v→V K M' Q' false c v)
  (hg:noG c=true∨Grow false M Q M' Q') (hQ:∀b,w0.heap.size≤b→(∀k p,Q k=some p→p.blk≠b)→∀k p,Q' k=some p→p.blk≠b):RV K M' Q' w0 w c v:=by
 cases c
 case tuple cs=>
  simp only[RV] at h ⊢;obtain⟨vs,rfl,h⟩:=h
  refine⟨vs,rfl,h.mono hV ?_ hQ⟩
  rcases hg with hg|hg
  ·exact .inl (by simpa[noG] using hg)
  ·exact .inr hg
 case own n sz cs vl=>
  simp only[RV] at h ⊢;obtain⟨o,a1⟩:=h
  refine⟨o,a1.mono hV hg λb hb=>?_⟩
  simp only[RV1] at a1;rcases a1 with⟨rfl,_⟩|⟨q,cap,hq1,hq0,hq2,_⟩
  ·cases hb
  ·rw[hb] at hq1;simp only[Option.some.injEq] at hq1
   exact hQ b (by omega) (λk p hp=>by rw[hq1];exact hq2 k p hp)
 all_goals
  simp only[RV] at h ⊢;obtain⟨o,a1⟩:=h
  refine⟨o,a1.mono hV hg λb hb=>?_⟩
  simp only[RV1] at a1;rw[a1.1] at hb;cases hb
theorem mT {K':KM}{M':MM}{Q':PM}:∀(cs:List CV) (l:List Value) (u:List Nat),fa (.tuple cs)=true→RVs K M Q w0 w cs l u→RVs K' M' Q' w0 w cs l u
 |[],_,_,_,h=>by simpa[RVs] using h
 |c::cs,l,u,hs,h=>by
  simp only[fa,List.all_cons,Bool.and_eq_true] at hs;simp only[RVs] at h ⊢;obtain⟨v,r,o,rfl,a1,a2,a3⟩:=h
  refine⟨v,r,o,rfl,?_,a2,mT cs r _ (by simpa[fa] using hs.2) a3⟩
  cases c<;>simp only[Bool.false_eq_true,false_and,and_false] at hs<;>simpa only[RV1,V] using a1
theorem wP {c:CV}{v:Value}(hs:fa c=true) (h:RV K M Q w0 w c v) {K':KM}{M':MM}{Q':PM}:RV K' M' Q' w0 w c v:=by
 cases c<;>first
  |(simp only[RV] at h ⊢
    obtain⟨vs,rfl,h⟩:=h
    exact⟨vs,rfl,mT _ _ _ hs h⟩)
  |(simp only[RV,RV1,V] at h ⊢
    exact h)
  |(simp only[fa,Bool.false_eq_true] at hs)
theorem MR.apart (h:MR K M Q w) (hkk:∀b o v,K b o=some v→K' b o=some v) (hstab:∀b o v,K' b o=some v→w'.cell? ⟨b,o,none⟩=some v)
  (hkn:∀k q o,Q k=some q→K q.blk o=none→K' q.blk o=none) (hw:∀b,b<w.heap.size→w'.heap[b]?=w.heap[b]?) (hs:w.heap.size≤w'.heap.size):MR K' M Q w':=by
 refine⟨hstab,λk x hx=>?_,h.inj,λk q hq=>?_,h.v0⟩
 ·exact(h.objs k x hx).mono hkk (Grow.refl _ _ _) (λ_ h=>h) (λq hq=>hw _ (h.dom _ _ hq).2) (λq hq o _ ho=>hkn k q o hq ho)
 ·obtain⟨a,b⟩:=h.dom k q hq
  exact⟨a,Nat.lt_of_lt_of_le b hs⟩
theorem MR.none (h:∀b o v,K b o=some v→w.cell? ⟨b,o,none⟩=some v):MR K (gm []) (λ_=>none) w:=
 ⟨h,λk x hx=>by cases k<;>simp[gm] at hx,λ_ _ _ _ hq=>by simp at hq,λ_ _ hq=>by simp at hq,λ_ _ _ _ _ _ hq=>by simp at hq⟩
theorem pA {F:aW}(hS:Sim P F) {A:Ann}{fid f:FuncId}{d:Option Tmp}(hR:MR K m.get Q w) {args:List CV}{vs:Array Value}{c:CV}(hV:Vs K m.get Q true args vs.toList)
  (h:cd A F fid d f args m=some (c,m')):(∃fn,P.funcs[f]?=some fn∧fn.body.isSome=true) ∧
  Calls P f vs w λe w'=>∃v K' Q',e=.returned v∧Trans K m Q w K' m' Q' w'∧Vt K' m' Q' c v:=by
 simp only[cd,Option.bind_eq_some_iff] at h;obtain⟨⟨xs,m1⟩,hx,h⟩:=h;obtain⟨K1,hl,hV1,_,_⟩:=eb hR hV hx;simp only at h;have fin:∀{K2:KM}{Q2:PM}{w2:World}{m2:Mem}{r:CV}{v:Value},Trans K m Q w K2 m2 Q2 w2→RV K2 m2.get Q2 w w2 r v →
   jf (A.glob fid) d r m2=some (c,m')→∃v' K' Q',Ending.returned v=Ending.returned v'∧Trans K m Q w K' m' Q' w2∧Vt K' m' Q' c v':=by
  intro K2 Q2 w2 m2 r v hT hRV he
  cases d with
  |none=>
   simp only[jf,Option.some.injEq,Prod.mk.injEq] at he;obtain⟨rfl,rfl⟩:=he
   exact⟨v,K2,Q2,rfl,hT,by simp[Vt,V]⟩
  |some d=>
   simp only[jf,Option.some.injEq] at he;obtain⟨Q3,h1,h2⟩:=wQ (glob:=(A.glob fid).contains d) (d:=d) hT hRV;rw[he] at h1 h2
   exact⟨v,K2,Q3,rfl,h1,h2⟩
 split at h
 ·split at h
  ·rename_i hng
   simp only[Option.bind_eq_some_iff] at h;obtain⟨⟨r,H'⟩,hr,h⟩:=h;simp only at h
   split at h
   ·rename_i hngr
    obtain⟨hex,hsim⟩:=hS _ _ _ _ _ hr
    refine⟨hex,(hsim K1 (λ_=>none) w vs (MR.none hl.mr.stab) (noGs_V _ _ hng hV1)).mono ?_⟩
    rintro e w2 ⟨v,K2,Q2,rfl,hmr2,hsi,hrv⟩;have hw:∀b,b<w.heap.size→w2.heap[b]?=w.heap[b]?:=λb hb=>hsi.frame b hb (by simp)
    by_cases hsc:fa r=true
    ·rw[if_pos hsc] at h
     refine fin (K2:=K) (Q2:=Q) (m2:=m) ?_ (wP hsc hrv) h
     refine⟨hR.apart (λ_ _ _ h=>h) (λb o v hv=>?_) (λ_ _ _ _ h=>h) hw hsi.size,λ_ _ _ h=>h,Grow.refl _ _ _,hsi.size,λb hb _=>hw b hb,λ_ _ _ h=>.inl h,λk q hq=>.inl ⟨q,hq,rfl⟩,hsi.io⟩
     have hc:=hR.stab b o v hv;rw[cQ (hw b (World.block_lt_of_cell? _ _ hc))];exact hc
    ·rw[if_neg hsc] at h
     have hkn:∀k q o,Q k=some q→K1 q.blk o=none→K2 q.blk o=none:=by
      intro k q o hq ho
      cases hk:K2 q.blk o with
      |none=>rfl
      |some v=>
       rcases hsi.kn _ _ _ hk with h1|⟨_,_,h1,_⟩|h1
       ·rw[ho] at h1;cases h1
       ·cases h1
       ·have:=(hR.dom _ _ hq).2;omega
     refine fin (K2:=K2) (Q2:=Q) (m2:=m1) (hl.toTrans.trans ?_) (hrv.mono (λc v hg hv=>?_) (.inl hngr) (λb hb _ k p hp=>?_)) h
     ·refine⟨hl.mr.apart hsi.kk hmr2.stab hkn hw hsi.size,hsi.kk,Grow.refl _ _ _,hsi.size,λb hb _=>hw b hb,λb o v hv=>?_,λk q hq=>.inl ⟨q,hq,rfl⟩,hsi.io⟩
      rcases hsi.kn _ _ _ hv with h1|⟨_,_,h1,_⟩|h1
      ·exact .inl h1
      ·cases h1
      ·exact .inr (.inr h1)
     ·rcases hg with hg|hg
      ·exact noG_V c v hg hv
      ·exact V_mono (λ_ _ _ h=>h) hg (λh=>h) hg c v hv
     ·have:=(hR.dom _ _ hp).2;omega
   ·cases h
  ·cases h
 ·simp only[Option.bind_eq_some_iff] at h
  obtain⟨⟨r,H'⟩,hr,h⟩:=h;simp only at h;obtain⟨hex,hsim⟩:=hS _ _ _ _ _ hr;have hG:=Grow.glob (m:=m1) (Q:=Q)
  refine⟨hex,(hsim K1 (gp Q) w vs hl.mr.glob (Vs_mono (λ_ _ _ h=>h) hG (λh=>h) hG _ _ hV1)).mono ?_⟩
  rintro e w2 ⟨v,K2,Q2,rfl,hmr2,hsi,hrv⟩;have hT:=hl.toTrans.trans (wW hl.mr hmr2 hsi);refine fin hT (hrv.mono (λc v hg hv=>?_) (.inr ?_) (λb hb hne k p hp=>?_)) h
  ·rcases hg with hg|hg
   ·exact noG_V c v hg hv
   ·exact V_mono (λ_ _ _ h=>h) hg (λh=>h) hg c v hv
  ·intro k x hk hx
   cases k with
   |l j=>simp[keyOK] at hk
   |g n=>exact⟨x,hx,Nat.le_refl _,λ_=>⟨λq hq=>hq,λg sz cs vl he=>⟨cs,vl,he,Nat.le_refl _⟩⟩⟩
  ·cases k with
   |l j=>have:=(hR.dom _ _ hp).2;omega
   |g n=>exact hne _ _ hp
end
end Go.Cm
namespace Go.Cm
section
variable {K K' K2:KM}{Q Q' Q2:PM}{P:Program}{w w' w0 w2:World}{m m' m2:Mem}{M M':MM}
theorem jp (hR:MR K m.get Q w) (glob:Bool) (j:Nat) (mk:Nat→HO) (hg:∀g,(mk g).gn=g) (hm:∀g,(mk g).isMap=false) (hv0:∀g,(mk g).vl=0)
  {cs:List CV}(hcs:∀g,(mk g).cells=cs) {es:Array Value}{t:TypeId}(hall:cs.all bE=true) (loc:Bool) (hloc:∀g,loc=true→en (m.add glob j mk).1 (mk g)=true)
  (hV:Vs K m.get Q loc cs es.toList) (hw:Pushed w w' (.cells es t (0,0))) :
  ∃Q',Trans K m Q w K (m.add glob j mk).2.2 Q' w'∧Vt K (m.add glob j mk).2.2 Q' (.ptr (m.add glob j mk).1 (m.add glob j mk).2.1 0) (.pointer (some ⟨w.heap.size,0,none⟩)):=by
 obtain⟨Q',hT,hq⟩:=lA hR glob j mk hg hm hv0 hcs hall loc hloc hV (λi v hv=>by simpa using hv) hw;obtain⟨hget,_⟩:=fN m glob j mk hg
 refine⟨Q',hT,?_⟩
 have:=new_ptr hT (h:=mk (m.add glob j mk).2.1) (by rw[hget];simp[upd]) hq
 rwa [hg] at this
theorem pN (hR:MR K m.get Q w) (glob:Bool) (j:Nat) {sz n:Nat}{cs:List CV}{es:Array Value}{t:TypeId}(hall:cs.all bE=true)
  (hV:Vs K m.get Q false cs es.toList) (hw:Pushed w w' (.cells es t (0,0))) (hn:n*sz=cs.length) :
  ∃Q',Trans K m Q w K (m.add glob j λg=>.arr g sz cs 0).2.2 Q' w' ∧
   Vt K (m.add glob j λg=>.arr g sz cs 0).2.2 Q' (.ref (m.add glob j λg=>.arr g sz cs 0).1 (m.add glob j λg=>.arr g sz cs 0).2.1 0 n) (.slice (some ⟨w.heap.size,0,none⟩) n n):=by
 obtain⟨Q',hT,hq⟩:=lA hR glob j (λg=>.arr g sz cs 0) (λ_=>rfl) (λ_=>rfl) (λ_=>rfl) (cs:=cs) (λ_=>rfl) hall false (by simp) hV (λi v hv=>by simpa using hv) hw;obtain⟨hget,_⟩:=fN m glob j (λg=>HO.arr g sz cs 0) (λ_=>rfl);have hl:=bT hV;simp only[Array.length_toList] at hl
 exact⟨Q',hT,Kz (g:=(m.add glob j λg=>HO.arr g sz cs 0).2.1) (sz:=sz) (vl:=0) (cs:=cs) (by rw[hget];simp[upd]) hq (Nat.le_refl _) (by simp only;omega) (by omega)⟩
theorem pM (hR:MR K m.get Q w) (glob:Bool) (j:Nat) (hw:Pushed w w' (.map #[] 0)) :
  ∃Q',Trans K m Q w K (m.add glob j λg=>.map g []).2.2 Q' w' ∧
   Vt K (m.add glob j λg=>.map g []).2.2 Q' (.map (m.add glob j λg=>.map g []).1 (m.add glob j λg=>.map g []).2.1) (.map (some w.heap.size)):=by
 obtain⟨hget,hgen⟩:=fN m glob j (λg=>HO.map g []) (λ_=>rfl);generalize (m.add glob j λg=>HO.map g []).1=key at *;generalize (m.add glob j λg=>HO.map g []).2.1=gn at *;generalize (m.add glob j λg=>HO.map g []).2.2=m2 at *;have hsz:w'.heap.size=w.heap.size+1:=by rw[hw.1];simp
 have hold:∀b,b<w.heap.size→w'.heap[b]?=w.heap[b]?:=λb hb=>by rw[hw.1,Array.getElem?_push];rw[if_neg (by omega)]
 have hGrow:Grow true m.get Q (upd m.get key (.map gn [])) (bB Q key (some ⟨w.heap.size,0,0⟩)):=
  Grow.upd λy hy=>⟨Nat.le_of_lt (hgen y hy),λhe=>absurd he (Nat.ne_of_lt (hgen y hy))⟩
 have hmove:MR K (upd m.get key (.map gn [])) (bB Q key (some ⟨w.heap.size,0,0⟩)) w':=by
  refine hR.move hgen hold (by omega) (λp hp=>by simp only[Option.some.injEq] at hp;subst hp;exact⟨Nat.le_refl _,by show w.heap.size<w'.heap.size;omega⟩) ?_;intro q hq;simp only[bB,if_true,Option.some.injEq] at hq;subst hq
  exact(show MapOK K (upd m.get key (.map gn [])) (bB Q key (some ⟨w.heap.size,0,0⟩)) w' [] ⟨w.heap.size,0,0⟩ from⟨#[],0,by rw[hw.1];simp,rfl,λi e he=>by simp at he,MapKept.stamped_empty 0⟩)
 refine⟨bB Q key (some ⟨w.heap.size,0,0⟩),⟨by rw[hget];exact hmove,λ_ _ _ h=>h,by rw[hget];exact hGrow,by omega,λb hb _=>hold b hb,λ_ _ _ h=>.inl h,λk q hq=>?_,hw.kept (.inr ⟨_,_,rfl⟩)⟩,?_⟩
 ·simp only[bB] at hq
  split at hq
  ·rename_i he;subst he
   simp only[Option.some.injEq] at hq;subst hq;exact .inr ⟨Nat.le_refl _,λh hh=>⟨.map gn [],by rw[hget];simp[upd],hgen h hh⟩⟩
  ·exact .inl ⟨q,hq,rfl⟩
 ·simp only[Vt,V]
  exact⟨by cases key<;>simp[keyOK],.map gn [],_,by rw[hget];simp[upd],Nat.le_refl _,rfl,λ_=>⟨_,by simp[bB];rfl,rfl⟩⟩
def Goes (P:Program) (o:Oper) (a:Act) (K:KM) (m:Mem) (Q:PM) (w:World) (c:CV) (m':Mem):Prop:=
 ∀(next:Act→World→Prop) (Qx:Exit→Act→World→Prop),(∀r w' K' Q',Trans K m Q w K' m' Q' w'→Vt K' m' Q' c r→next (a.put o.dst r) w')→o.wp P a w next Qx
theorem cM {o:Oper}{a:Act}{c:CV}{r:Value}(hr:(execOp a.eval o).run P w=.ok (.value r) w') (hT:Trans K m Q w K' m' Q' w') (hv:Vt K' m' Q' c r):Goes P o a K m Q w c m':=by
 intro next Qx hn
 simp only[Oper.wp,hr,Oper.upon_value];exact hn r w' K' Q' hT hv
theorem lx {o:Oper}{a:Act}{c:CV}(hr:(execOp a.eval o).run P w=.ok .skip w') (hT:Trans K m Q w K' m' Q' w') (hc:c=.dead):Goes P o a K m Q w c m':=by
 intro next Qx hn
 simp only[Oper.wp,hr,Oper.upon_skip];exact hn undef w' K' Q' hT (by subst hc;simp[Vt,V])
theorem nO {o:Oper}{a:Act}{c:CV}{f:FuncId}{vs:Array Value}(hr:(execOp a.eval o).run P w=.ok (.enter f vs) w)
  (hc:Calls P f vs w λe w'=>∃v K' Q',e=.returned v∧Trans K m Q w K' m' Q' w'∧Vt K' m' Q' c v):Goes P o a K m Q w c m':=by
 intro next Qx hn
 simp only[Oper.wp,hr,Oper.upon_enter];refine hc.mono ?_;rintro e w' ⟨v,K',Q',rfl,hT,hv⟩;exact hn v w' K' Q' hT hv
def cm (P:Program):Bool:=P.funcs.toList.all λfn=>fn.body.isNone||fn.name != "runtime.NumGoroutine"
theorem kZ (hN:cm P=true) {f:FuncId}(hf:∃fn,P.funcs[f]?=some fn∧fn.body.isSome=true) {vs:Array Value}:(callFunc f vs).run P w=.ok (.enter f vs) w:=by
 obtain⟨fn,h1,h2⟩:=hf;have h3:=List.all_eq_true.1 hN fn (by
  obtain⟨h,he⟩:=Array.getElem?_eq_some_iff.1 h1;exact Array.mem_toList_iff.2 (by rw[←he];exact Array.getElem_mem h))
 have h4:fn.body.isNone=false:=by cases hb:fn.body<;>simp_all
 simp only[h4,Bool.false_or,bne_iff_ne,ne_eq] at h3;have h5:fn.body≠none:=by intro h;simp[h] at h2
 simp[callFunc,h1,h3,h5]
theorem mf {t:TypeId}{x y:CV}{name:String}{f:FuncId}{u:Value}{loc:Bool}(h:mL P t x name=some (f,y)) (fuel:Nat) :
  y=x∧(method (fuel+1) t u name).run P w=.ok (f,u) w:=by
 unfold mL at h
 split at h
 ·simp at h
 ·rename_i i hi
  split at h
  ·simp at h
  ·rename_i mt hm
   split at h
   ·rename_i f' ptr hpath hfunc
    split at h<;>simp only[Option.some.injEq,Prod.mk.injEq,reduceCtorEq] at h
    ·rename_i e hu
     obtain⟨rfl,rfl⟩:=h
     refine⟨rfl,?_⟩
     simp[method,typeInfo,hi,hm,hpath,hfunc,follow,receiverAt,run_underlying hu,Place.get]
    ·rename_i d hne hu
     obtain⟨rfl,rfl⟩:=h
     refine⟨rfl,?_⟩
     cases d<;>first
      |(exfalso;exact hne _ rfl;done)
      |simp[method,typeInfo,hi,hm,hpath,hfunc,follow,receiverAt,run_underlying hu,Place.get]
   ·simp at h
theorem wg {F:aW}(hS:Sim P F) (hN:cm P=true) {A:Ann}{fid:FuncId}{a:Act}{ρ:Operand→CV}(hR:MR K m.get Q w) (hρ:∀x,Vt K m Q (ρ x) (a.eval x)) {o:Oper}{c:CV}
  (h:cval P A F fid ρ o m=some (c,m')):Goes P o a K m Q w c m':=by
 by_cases hq:bJ o.op=true
 ·obtain⟨rfl,r,h1,h2⟩:=pW hR hρ hq h
  exact cM h1 (Trans.refl hR) h2
 obtain⟨dst,op,ty,pos,after,guard⟩:=o
 cases op<;>simp only[bJ,not_true_eq_false] at hq<;>simp only[cval,reduceCtorEq] at h
 case alloc t=>
  split at h
  ·rename_i z hz
   simp only[Option.some.injEq,Prod.mk.injEq] at h;obtain⟨rfl,rfl⟩:=h;obtain⟨v,hv,hall,hV,_⟩:=js (K:=K) (M:=m.get) (Q:=Q) (w:=w) (loc:=false) hz;obtain⟨Q',hT,hp⟩:=jp hR _ _ (λg=>match lS P t with|some (_,e)=>.arr g ((bK P e).getD 0) z 0|none=>.var g z 0) (by intro g;split<;>rfl) (by intro g;split<;>rfl) (by intro g;split<;>rfl)
    (cs:=z) (by intro g;split<;>rfl) (t:=t) hall false (by simp) hV (w':={ w with heap:=w.heap.push (.cells v.cells t (0,0)) }) ⟨rfl,rfl,rfl⟩
   exact cM (by simp[execOp,Instr.alloc,hv,newVar,newRow]) hT hp
  ·simp at h
 case box t x=>
  generalize di (A.glob fid) dst=glob at h;generalize cW dst=j at h
  split at h
  ·rename_i cs n e hcc hta
   simp only[Option.map_eq_some_iff,Prod.mk.injEq] at h;obtain⟨⟨ys,m1⟩,hy,rfl,rfl⟩:=h;obtain⟨hall,hVc⟩:=iE hcc (hρ x);obtain⟨K1,hl,hV1,hall1,_⟩:=eb hR hVc hy;obtain⟨Q',hT,hp⟩:=jp hl.mr _ _ (λg=>.arr g ((bK P e).getD 0) ys 0) (λ_=>rfl) (λ_=>rfl) (λ_=>rfl) (cs:=ys) (λ_=>rfl) (t:=t) (hall1 hall) false (by simp) hV1
    (w':={ w with heap:=w.heap.push (.cells (a.eval x).cells t (0,0)) }) ⟨rfl,rfl,rfl⟩
   exact cM (by simp[execOp,Instr.box,newVar,newRow]) (hl.toTrans.trans hT) hp
  ·rename_i cs hcc hta
   obtain⟨hall,hVc⟩:=iE hcc (hρ x)
   split at h
   ·simp only[Option.map_eq_some_iff,Prod.mk.injEq] at h
    obtain⟨⟨ys,m1⟩,hy,rfl,rfl⟩:=h;obtain⟨K1,hl,hV1,hall1,_⟩:=eb hR hVc hy;obtain⟨Q',hT,hp⟩:=jp hl.mr _ _ (λg=>.var g ys 0) (λ_=>rfl) (λ_=>rfl) (λ_=>rfl) (cs:=ys) (λ_=>rfl) (t:=t) (hall1 hall) false (by simp) hV1
     (w':={ w with heap:=w.heap.push (.cells (a.eval x).cells t (0,0)) }) ⟨rfl,rfl,rfl⟩
    exact cM (by simp[execOp,Instr.box,newVar,newRow]) (hl.toTrans.trans hT) hp
   ·rename_i hgl
    simp only[Option.some.injEq,Prod.mk.injEq] at h;obtain⟨rfl,rfl⟩:=h;have hgf:glob=false:=by simpa using hgl
    subst hgf;obtain⟨Q',hT,hp⟩:=jp hR false j (λg=>.var g cs 0) (λ_=>rfl) (λ_=>rfl) (λ_=>rfl) (cs:=cs) (λ_=>rfl) (t:=t) hall true
     (λg _=>rfl) hVc
     (w':={ w with heap:=w.heap.push (.cells (a.eval x).cells t (0,0)) }) ⟨rfl,rfl,rfl⟩
    exact cM (by simp[execOp,Instr.box,newVar,newRow]) hT hp
  ·simp at h
 case buildSlice t n parts=>
  split at h
  ·rename_i e he
   split at h
   ·rename_i s z hs hz
    split at h
    ·rename_i hcond
     obtain⟨hsmall,hzl⟩:=hcond;simp only[Option.bind_eq_some_iff,Option.map_eq_some_iff,Prod.mk.injEq] at h;obtain⟨cs,hfill,⟨ys,m1⟩,hy,rfl,rfl⟩:=h;obtain⟨v,hv,hall,hV,_⟩:=js (K:=K) (M:=m.get) (Q:=Q) (w:=w) (loc:=true) hz;have hlen:(parts.toList.map λp=>(p.1,ρ p.2)).length=(parts.toList.map λp=>(p.1,a.eval p.2)).length:=by simp
     have hparts:∀(i:Nat) (x:Nat×CV) (y:Nat×Value),(parts.toList.map λp=>(p.1,ρ p.2))[i]?=some x→(parts.toList.map λp=>(p.1,a.eval p.2))[i]?=some y→x.1=y.1∧V K m.get Q true x.2 y.2:=by
      intro i x y ha hb;simp only[List.getElem?_map,Option.map_eq_some_iff] at ha hb;obtain⟨p,hp,rfl⟩:=ha;obtain⟨p',hp',rfl⟩:=hb;rw[hp] at hp';simp only[Option.some.injEq] at hp';subst hp'
      exact⟨rfl,hρ _⟩
     obtain⟨vs',hf1,hf2,hf3,hf4⟩:=LF _ _ _ ((Array.range (n*s)).map (v.cells[· % v.cells.size]!)) _ hlen hparts (sy (n:=n) hall) (uX hzl hV) hfill;obtain⟨K1,hl,hV1,hall1,hl1⟩:=eb hR hf3 hy;have hmap:(parts.map λp=>(p.1,a.eval p.2)).toList=parts.toList.map λp=>(p.1,a.eval p.2):=by simp
     obtain⟨Q',hT,hp⟩:=pN (sz:=s) (n:=n) (t:=e) hl.mr _ _ (hall1 hf2) hV1 (w':={ w with heap:=w.heap.push (.cells vs' e (0,0)) }) ⟨rfl,rfl,rfl⟩ (by
      rw[hl1,hf4,gj,hzl])
     refine cM ?_ (hl.toTrans.trans hT) hp;have hu:=gN he
     by_cases h0:n*s=0
     ·have hsame:∀z0:Array Value,((Array.range (n*s)).map λi=>z0[i % z0.size]!)=#[]:=by intro z0;rw[h0];simp
      rw[hsame] at hf1;simp[execOp,Instr.buildSlice,run_underlying hu,co hs,h0,newRow,hf1,Array.range_zero']
     ·simp[execOp,Instr.buildSlice,run_underlying hu,co hs,h0,hv,newRow,hf1,show ¬(16777216<n*s) by omega]
    ·simp at h
   ·simp at h
  ·simp at h
 case makeSlice t l c'=>
  split at h
  ·rename_i e he
   split at h
   ·rename_i s z k1 x k2 y hs hz hl hc
    split at h
    ·rename_i hcond
     obtain⟨h0,rfl,hsm,hzl⟩:=hcond;simp only[Option.some.injEq,Prod.mk.injEq] at h;obtain⟨rfl,rfl⟩:=h;obtain⟨v,hv,hall,hV,i,hi,hiz⟩:=js (K:=K) (M:=m.get) (Q:=Q) (w:=w) (loc:=false) hz;obtain⟨i',hi',_,hn,hb⟩:=Av hsm;rw[hi] at hi';simp only[Option.some.injEq] at hi';subst hi';have hl':=hρ l;rw[hl] at hl';simp only[Vt,V] at hl';have hc':=hρ c';rw[hc] at hc';simp only[Vt,V] at hc';have hsz:s=i.size:=by simp[bK,hi] at hs;omega
     have hbx:(i.bytes:Int)*x≤281474976710656:=by
      have h1:((x.toNat*i.bytes:Nat):Int)≤140737488355328:=by omega
      rw[Int.natCast_mul,Int.toNat_of_nonneg h0,Int.mul_comm] at h1;omega
     have hrun:=run_make (P:=P) w t e i v (gN he) hi hiz k1 k2 x x h0 (Int.le_refl _) hbx (by omega);obtain⟨Q',hT,hp⟩:=pN (sz:=s) (n:=x.toNat) (cs:=dM x.toNat z) (t:=e) (es:=madeCells v.cells (x.toNat*i.size)) hR _ _ (sy hall) (by
      have:=uX (n:=x.toNat) hzl hV;rw[hsz] at this;exact this) (w':=w.alloc (.cells (madeCells v.cells (x.toNat*i.size)) e)) ⟨rfl,rfl,rfl⟩ (by rw[gj,hzl])
     exact cM (by simp only[execOp,hl',hc',Sem.run_bind,hrun,Result.andThen_ok,Sem.run_pure]) hT hp
    ·simp at h
   ·simp at h
  ·simp at h
 case makeMap t r=>
  cases r with
  |none=>
   simp only at h
   split at h
   ·simp only[Option.some.injEq,Prod.mk.injEq] at h
    obtain⟨rfl,rfl⟩:=h;obtain⟨Q',hT,hp⟩:=pM hR _ _ (w':={ w with heap:=w.heap.push (.map #[] 0) }) ⟨rfl,rfl,rfl⟩;exact cM (by simp[execOp,Instr.makeMap]) hT hp
   ·simp at h
  |some r=>
   simp only at h
   split at h
   ·rename_i x k i ht hr
    simp only[Option.some.injEq,Prod.mk.injEq] at h;obtain⟨rfl,rfl⟩:=h;have hr':=hρ r;rw[hr] at hr';simp only[Vt,V] at hr';obtain⟨Q',hT,hp⟩:=pM hR _ _ (w':={ w with heap:=w.heap.push (.map #[] 0) }) ⟨rfl,rfl,rfl⟩;exact cM (by simp[execOp,Instr.makeMap,hr',run_underlying (lg ht),asInt,asIntOf]) hT hp
   ·simp at h
 case store t p x=>
  simp only[Option.map_eq_some_iff,Prod.mk.injEq] at h;obtain⟨m1,h1,h2,rfl⟩:=h;obtain⟨K',Q',w',hrun,hT⟩:=tM hR (hρ p) (hρ x) h1;exact lx (by simp[execOp,hrun]) hT h2.symm
 case mapUpdate t x k v=>
  obtain⟨K',w',hrun,hT,hc⟩:=pQ hR (hρ x) (hρ k) (hρ v) h;exact lx (by simp[execOp,hrun]) hT hc
 case insert t x k v=>
  obtain⟨K',w',hrun,hT,hc⟩:=pQ hR (hρ x) (hρ k) (hρ v) h;exact lx (by simp[execOp,hrun]) hT hc
 case call c0=>
  have hargs:Vs K m.get Q true (c0.args.toList.map ρ) (c0.args.map a.eval).toList:=by
   rw[Array.toList_map];exact mY hρ _
  have hr:∀{d:Deferred},(resolve a.eval c0 ty).run P w=.ok d w→∀{x:Result Next},(invoke d.target d.args).run P w=x→(execOp a.eval ⟨dst,.call c0,ty,pos,after,guard⟩).run P w=x:=by
   intro d h1 x h2;simp only[execOp,Sem.run_bind,h1,Result.andThen_ok,h2]
  obtain⟨callee,args,argTypes⟩:=c0
  cases callee with
  |value f=>
   simp only at h;unfold dx at h
   split at h
   ·rename_i f' first captured hf
    have hfv:=hρ f;rw[hf] at hfv;simp only[Vt,V] at hfv;obtain⟨x,y,hfe,hx,hy⟩:=hfv;have hall:Vs K m.get Q true (first++args.toList.map ρ++captured) (x++args.map a.eval++y).toList:=by
     simp only[Array.toList_append];exact gF (gF hx hargs) hy
    obtain⟨hex,hc⟩:=pA hS hR hall h;refine nO (hr (d:={ target:=.fn (.func f') y,args:=x++args.map a.eval }) ?_ ?_) hc
    ·simp[resolve,hfe,Deferred.ofValue]
    ·simp only[invoke];exact kZ hN hex
   ·simp at h
  |invoke recv name=>
   simp only at h
   split at h
   ·rename_i t x hx
    simp only[Option.bind_eq_some_iff] at h;obtain⟨⟨f,y⟩,hm,h⟩:=h;have hrv:=hρ recv;rw[hx] at hrv;simp only[Vt,V] at hrv;obtain⟨u,hre,hu⟩:=hrv;obtain⟨rfl,_⟩:=mf (w:=w) (u:=u) (loc:=true) hm 0;have hall:Vs K m.get Q true (y::args.toList.map ρ) (#[u]++args.map a.eval).toList:=by
     simp only[Array.toList_append,List.cons_append,List.nil_append,Vs]
     exact⟨u,_,rfl,hu,hargs⟩
    obtain⟨hex,hc⟩:=pA hS hR hall h;refine nO (hr (d:={ target:=.fn (.method name) #[],args:=#[a.eval recv]++args.map a.eval }) ?_ ?_) hc
    ·simp[resolve]
    ·have hext:(#[a.eval recv]++args.map a.eval).extract 1 (#[a.eval recv]++args.map a.eval).size=args.map a.eval:=by
      apply Array.ext';simp[List.take_of_length_le]
     have hget:(#[a.eval recv]++args.map a.eval)[0]?=some (.iface t u):=by rw[hre,←Array.getElem?_toList];simp
     simp only[invoke,hget,hext,callMethod,Sem.run_bind];have hd:∀n,n+Made.depth=(n+Made.depth - 1)+1:=by intro n;simp[Made.depth]
     simp only[run_program,Result.andThen_ok];rw[hd,(mf (w:=w) (u:=u) (loc:=true) hm _).2];simp only[Result.andThen_ok];exact kZ hN hex
   ·simp at h
  |builtin b=>
   have hb:∀{r:Value}{w':World},(builtin b argTypes ty (args.map λ|.const _=>true|_=>false) (args.map a.eval)).run P w=.ok (.value r) w' →
     (execOp a.eval ⟨dst,.call ⟨.builtin b,args,argTypes⟩,ty,pos,after,guard⟩).run P w=.ok (.value r) w':=by
    intro r w' h2;refine hr (d:={ target:=.builtin b argTypes ty (args.map λ|.const _=>true|_=>false),args:=args.map a.eval }) ?_ ?_
    ·simp only[resolve,Sem.run_pure,Result.ok.injEq,Deferred.mk.injEq,Target.builtin.injEq,and_true,true_and]
     refine Array.map_congr_left λx _=>?_
     cases x<;>rfl
    ·simpa[invoke] using h2
   have hal:args.map a.eval=(args.toList.map a.eval).toArray:=by apply Array.ext';simp
   cases b<;>simp only[oi,not_true_eq_false] at hq<;>simp only[reduceCtorEq] at h
   case append=>
    split at h
    ·rename_i s x t u ts hc1 hc2
     split at h
     ·rename_i e e' he he'
      rw[hc1] at hargs;simp only[Vs] at hargs;obtain⟨sv,r1,h1,hsv,xv,r2,h2,hxv,rfl⟩:=hargs;subst h2;have e1:args.map a.eval=#[sv,xv]:=by apply Array.ext';simpa using h1
      have e2:argTypes[0]?=some t:=by rw[←Array.getElem?_toList,hc2];rfl
      have e3:argTypes[1]?=some u:=by rw[←Array.getElem?_toList,hc2];rfl
      obtain⟨Q',w',r,hrun,hT,hV⟩:=rF (ty:=ty) hR e2 e3 (gN he) (gN he') hsv hxv h;refine cM (hb ?_) hT hV;rw[e1];simp[builtin,hrun]
     ·simp at h
    ·simp at h
   case copy=>
    split at h
    ·rename_i d x t ts hc1 hc2
     split at h
     ·rename_i e he
      rw[hc1] at hargs;simp only[Vs] at hargs;obtain⟨sv,r1,h1,hsv,xv,r2,h2,hxv,rfl⟩:=hargs;subst h2;have e1:args.map a.eval=#[sv,xv]:=by apply Array.ext';simpa using h1
      have e2:argTypes[0]?=some t:=by rw[←Array.getElem?_toList,hc2];rfl
      obtain⟨Q',w',r,hrun,hT,hV⟩:=wZ (ty:=ty) hR e2 (gN he) hsv hxv h;refine cM (hb ?_) hT hV;rw[e1];simp[builtin,hrun]
     ·simp at h
    ·simp at h
   case delete=>
    split at h
    ·rename_i x k t ts hc1 hc2
     rw[hc1] at hargs;simp only[Vs] at hargs;obtain⟨sv,r1,h1,hsv,xv,r2,h2,hxv,rfl⟩:=hargs;subst h2;have e1:args.map a.eval=#[sv,xv]:=by apply Array.ext';simpa using h1
     have e2:argTypes[0]?=some t:=by rw[←Array.getElem?_toList,hc2];rfl
     split at h
     ·rename_i key gn kt et ht
      split at h
      ·rename_i g es hget
       split at h
       ·rename_i hcond
        obtain⟨rfl,hp⟩:=hcond;obtain⟨w',hrun,hT,hc⟩:=tN (ty:=ty) hR e2 ht hsv hxv hget hp h;refine cM (r:=.tuple #[]) (hb ?_) hT ?_
        ·rw[e1];simp[builtin,hrun]
        ·subst hc;simp[Vt,V,Vs]
       ·simp at h
      ·simp at h
     ·simp at h
    ·simp at h
end
end Go.Cm
namespace Go.Cm
section
variable {K K':KM}{Q Q':PM}{P:Program}{w w':World}{m m':Mem}{M M':MM}
theorem ofC_V {loc:Bool}(v:Value):V K M Q loc (ofC v) v:=by
 unfold ofC;split
 ·rename_i cs h
  split
  ·rename_i hall
   rw[←h];exact xR v λcs' h'=>by rw[h] at h';simp only[CV.agg.injEq] at h';rw[←h'];exact hall
  ·simp[V]
 ·rename_i hne
  exact xR v λcs' h'=>absurd h' (by intro he;exact hne _ he)
def Slots (K:KM) (m:Mem) (Q:PM) (sl:List CV) (a:Act):Prop:=∀t,Vt K m Q (bH sl t) (a.tmps.getD t undef)
theorem ev_V {sl:List CV}{a:Act}(h:Slots K m Q sl a) (x:Operand):Vt K m Q (ev sl x) (a.eval x):=by
 cases x with
 |tmp t=>exact h t
 |const v=>exact ofC_V v
 |global g=>simp[ev,Vt,V]
 |func f=>simp[ev,Vt,V,Act.eval,Vs]
theorem Slots.put {sl:List CV}{a:Act}(h:Slots K m Q sl a) {nt:Nat}(hs:a.tmps.size=nt) {d:Option Tmp}(hd:dok nt d=true) {c:CV}{v:Value}(hv:Vt K m Q c v) :
  Slots K m Q (eu sl d c) (a.put d v):=by
 intro t
 cases d with
 |none=>exact h t
 |some d=>
  simp only[dok,decide_eq_true_eq] at hd;simp only[eu,Act.put,dH]
  by_cases he:d=t
  ·subst he
   have:d<a.tmps.size:=by rw[hs];exact hd
   simp[Array.getD,this,hv]
  ·simp only[he,if_false]
   have:=h t;simpa[Array.getD_eq_getD_getElem?,Array.getElem?_setIfInBounds,he] using this
theorem Slots.mono {sl:List CV}{a:Act}(h:Slots K m Q sl a) (hT:Trans K m Q w K' m' Q' w'):Slots K' m' Q' sl a:=λt=>hT.V (h t)
variable {nt:Nat}{K0:KM}{m0:Mem}{Q0:PM}{w0:World}
def At (nt:Nat) (K0:KM) (m0:Mem) (Q0:PM) (w0:World) (s:CS) (a:Act) (w:World):Prop:=
 ∃K Q,Trans K0 m0 Q0 w0 K s.m Q w∧Slots K s.m Q s.sl a∧a.tmps.size=nt∧a.defers=[]
theorem qF (ks:Option (List Tmp)) (sl:List CV) (t:Tmp):bH (dC ks sl) t=.dead∨bH (dC ks sl) t=bH sl t:=by
 cases ks with
 |none=>exact .inr rfl
 |some ks=>
  simp only[dC];have key:∀(ks:List Tmp) (acc:List CV),(bH acc t=.dead∨bH acc t=bH sl t)→(bH (ks.foldl (λacc t=>li acc t (bH sl t)) acc) t=.dead∨bH (ks.foldl (λacc t=>li acc t (bH sl t)) acc) t=bH sl t):=by
   intro ks
   induction ks with
   |nil=>intro acc h;exact h
   |cons k ks ih=>
    intro acc h;refine ih _ ?_;rw[dH]
    by_cases hk:k=t
    ·right;rw[if_pos hk,hk]
    ·rw[if_neg hk];exact h
  exact key ks [] (.inl (by cases t<;>rfl))
theorem At.keep {s:CS}{a:Act}(ks:Option (List Tmp)) (h:At nt K0 m0 Q0 w0 s a w):At nt K0 m0 Q0 w0 { sl:=dC ks s.sl,m:=s.m } a w:=by
 obtain⟨K,Q,hT,hs,hr⟩:=h
 refine⟨K,Q,hT,λt=>?_,hr⟩
 rcases qF ks s.sl t with h|h
 ·simp only[h];simp[Vt,V]
 ·simp only[h];exact hs t
theorem og (a:Act) (d:Option Tmp) (v:Value):(a.put d v).tmps.size=a.tmps.size:=by cases d<;>simp[Act.put]
theorem jY (a:Act) (d:Option Tmp) (v:Value):(a.put d v).defers=a.defers:=by cases d<;>simp[Act.put]
theorem jK {sl:List CV}{a:Act}{ops:Array Oper}{o:Oper}(h:∀g want d,o.guard=some (g,want)→(ops[g]?).bind (·.dst)=some d→Vt K m Q (bH sl d) (a.tmps.getD d undef)) {b:Bool}(hg:dR ops.toList sl o=some b) :
  Region.wanted o (yielded ops a.tmps)=b:=by
 unfold dR at hg;unfold Region.wanted
 split at hg
 ·rename_i hn;rw[hn];simpa using hg
 ·rename_i g want hn
  rw[hn];simp only[yielded]
  split at hg
  ·rename_i d hd
   rw[Array.getElem?_toList] at hd;rw[hd];have hs:=h g want d hn hd;simp only[Option.bind_some]
   split at hg
   ·rename_i x hx
    rw[hx] at hs;simp only[Vt,V] at hs;simp only[Option.some.injEq] at hg;rw[Array.getD_eq_getD_getElem?] at hs
    cases hq:a.tmps[d]? with
    |none=>rw[hq] at hs;simp[undef] at hs
    |some u=>
     rw[hq] at hs;simp only[Option.getD_some] at hs;subst hs;simp[←hg]
   ·rename_i hx
    rw[hx] at hs;simp only[Vt,V,Vs] at hs;obtain⟨vs,hs,_⟩:=hs;simp only[Option.some.injEq] at hg;rw[Array.getD_eq_getD_getElem?] at hs
    cases hq:a.tmps[d]? with
    |none=>simp[←hg]
    |some u=>
     rw[hq] at hs;simp only[Option.getD_some] at hs;subst hs;simp[←hg]
   ·simp at hg
  ·simp at hg
theorem kK {sl:List CV}{a:Act}(h:Slots K m Q sl a) {ops:Array Oper}{o:Oper}{b:Bool}(hg:dR ops.toList sl o=some b) :
  Region.wanted o (yielded ops a.tmps)=b:=jK (λ_ _ d _ _=>h d) hg
theorem wK:Vt K m Q (.tuple []) undef:=by simp[Vt,V,Vs,undef]
variable {F:aW}{A:Ann}{fid:FuncId}{ops:Array Oper}{Qx:Exit→Act→World→Prop}
theorem DR (hS:Sim P F) (hN:cm P=true) {o:Oper}{s s':CS}{a:Act}(hA:At nt K0 m0 Q0 w0 s a w) (h:cop P A F fid nt ops.toList o s=some s')
  {next:Act→World→Prop}(hn:∀a' w',At nt K0 m0 Q0 w0 s' a' w'→next a' w') :
  if Region.wanted o (yielded ops a.tmps) then o.wp P a w next Qx∨(o.asks P a w∧LetsOut Qx) else next (a.put o.dst undef) w:=by
 obtain⟨K,Q,hT,hs,hsz,hd⟩:=hA;unfold cop at h
 split at h
 ·simp at h
 ·rename_i hdk
  have hdk:dok nt o.dst=true:=by simpa using hdk
  split at h
  ·rename_i hg
   rw[kK hs hg];simp only[if_true];left;simp only[Option.map_eq_some_iff] at h;obtain⟨⟨c,m1⟩,hc,rfl⟩:=h;refine wg hS hN hT.mr (ev_V hs) hc next Qx λr w' K' Q' hT' hv=>?_
   refine hn _ _ ⟨K',Q',hT.trans hT',(hs.mono hT').put hsz hdk hv,by rw[og];exact hsz,by rw[jY];exact hd⟩
  ·rename_i hg
   rw[kK hs hg];simp only[Bool.false_eq_true,if_false];simp only[Option.some.injEq] at h;subst h;exact hn _ _ ⟨K,Q,hT,hs.put hsz hdk wK,by rw[og];exact hsz,by rw[jY];exact hd⟩
  ·simp at h
theorem xd (hS:Sim P F) (hN:cm P=true) {s':CS}(hQ:∀a w,At nt K0 m0 Q0 w0 s' a w→Qx .normal a w):∀(l:List Oper) (i:Nat) (s:CS) (a:Act) (w:World),ops.toList.drop i=l→At nt K0 m0 Q0 w0 s a w→rI P A F fid nt ops.toList l s=some s' →
  wpOps P ops Qx ((List.range ops.size).drop i) a w:=by
 intro l
 induction l with
 |nil=>
  intro i s a w hl hA h;have hle:ops.size≤i:=by have:=congrArg List.length hl;simp at this;omega
  have:(List.range ops.size).drop i=[]:=List.drop_eq_nil_of_le (by simpa using hle);rw[this];simp only[rI,Option.some.injEq] at h;subst h;exact hQ _ _ hA
 |cons o r ih=>
  intro i s a w hl hA h;have hlt:i<ops.size:=by
   rcases Nat.lt_or_ge i ops.size with h|h
   ·exact h
   ·rw[List.drop_eq_nil_of_le (by simpa using h)] at hl;cases hl
  have hr:(List.range ops.size).drop i=i::(List.range ops.size).drop (i+1):=by
   rw[List.drop_eq_getElem_cons (by simpa using hlt)];simp
  have hl':=hl;rw[List.drop_eq_getElem_cons (by simpa using hlt)] at hl';simp only[List.cons.injEq,Array.getElem_toList] at hl';have ho:ops[i]?=some o:=by rw[Array.getElem?_eq_getElem hlt,hl'.1]
  rw[hr,wpOps_cons,wpOp,ho];simp only[rI,Option.bind_eq_some_iff] at h;obtain⟨s1,h1,h2⟩:=h;exact DR hS hN hA h1 λa' w' hA'=>ih (i+1) s1 a' w' hl'.2 hA' h2
end
end Go.Cm
