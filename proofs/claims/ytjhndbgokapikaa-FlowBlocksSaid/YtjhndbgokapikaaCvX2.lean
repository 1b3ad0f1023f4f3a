import Derived.Test.YtjhndbgokapikaaCvU
set_option linter.unusedSimpArgs false
set_option linter.unusedVariables false
namespace Go.Cm.W2
section
variable {P:Program}{ops:List Oper}{masks:List Nat}
theorem oo {j:Nat}{y:Oper}{my:Nat}:∀(l:List Oper) (i0:Nat),sD P ops j y my i0 l=true→∀(k:Nat) (x:Oper),l[k]?=some x→i0+k<j→iW P ops (i0+k) j x y my=true
 |[],_,_,k,x,hx,_=>by simp at hx
 |x0::r,i0,h,k,x,hx,hk=>by
  simp only[sD] at h;rw[if_pos (by omega)] at h;simp only[Bool.and_eq_true] at h
  cases k with
  |zero=>simp only[List.getElem?_cons_zero,Option.some.injEq] at hx;subst hx;exact h.1
  |succ k=>
   simp only[List.getElem?_cons_succ] at hx;have:=oo r (i0+1) h.2 k x hx (by omega)
   rwa [show i0+1+k=i0+(k+1) from by omega] at this
theorem jZ:∀(l:List Oper) (j0:Nat),ol P ops masks j0 l=true→∀(k:Nat) (y:Oper),l[k]?=some y →
  sD P ops (j0+k) y (masks.getD (j0+k) 0) 0 ops=true∧∀e∈y.after.toList,Region.binds .any e=true→e.on<j0+k
 |[],_,_,k,y,hy=>by simp at hy
 |y0::r,j0,h,k,y,hy=>by
  simp only[ol,Bool.and_eq_true] at h
  cases k with
  |zero=>
   simp only[List.getElem?_cons_zero,Option.some.injEq] at hy;subst hy
   refine⟨h.1.1,λe he hb=>?_⟩
   have:=List.all_eq_true.1 h.1.2 e he;simpa[hb] using this
  |succ k=>
   simp only[List.getElem?_cons_succ] at hy;have:=jZ r (j0+1) h.2 k y hy
   rwa [show j0+1+k=j0+(k+1) from by omega] at this
structure RegOK (P:Program) (ops:List Oper) (masks:List Nat):Prop where
 back:∀(j:Nat) (y:Oper),ops[j]?=some y→∀e∈y.after.toList,Region.binds .any e=true→e.on<j
 dst:∀(i j:Nat) (x y:Oper) d,ops[i]?=some x→ops[j]?=some y→x.dst=some d→y.dst=some d→i=j
 reads:∀(i j:Nat) (x y:Oper) d,i<j→ops[i]?=some x→ops[j]?=some y→x.dst=some d→d∈cg ops y→(masks.getD j 0).testBit i=true
 writes:∀(i j:Nat) (x y:Oper) d,i<j→ops[i]?=some x→ops[j]?=some y→y.dst=some d→d∈cg ops x→(masks.getD j 0).testBit i=true
 effs:∀(i j:Nat) (x y:Oper),i<j→ops[i]?=some x→ops[j]?=some y→bt P x=true→bt P y=true→(masks.getD j 0).testBit i=true
theorem RegOK.of (h:ol P ops masks 0 ops=true):RegOK P ops masks:=by
 have key:∀i j x y,i<j→ops[i]?=some x→ops[j]?=some y→iW P ops i j x y (masks.getD j 0)=true:=by
  intro i j x y hij hx hy;have h1:=(jZ ops 0 h j y hy).1;rw[Nat.zero_add] at h1;have:=oo ops 0 h1 i x hx (by omega)
  rwa [Nat.zero_add] at this
 refine⟨λj y hy e he hb=>?_,λi j x y d hx hy hdx hdy=>?_,λi j x y d hij hx hy hd hl=>?_,λi j x y d hij hx hy hd hl=>?_,λi j x y hij hx hy h1 h2=>?_⟩
 ·have:=(jZ ops 0 h j y hy).2 e he hb
  omega
 ·rcases Nat.lt_trichotomy i j with hij|hij|hij
  ·have:=key i j x y hij hx hy
   simp[iW,hdx,hdy] at this
  ·exact hij
  ·have:=key j i y x hij hy hx
   simp[iW,hdx,hdy] at this
 ·have:=key i j x y hij hx hy
  simp only[iW,hd,Bool.and_eq_true,Bool.or_eq_true] at this;rcases this.1.1.1.2 with h|h
  ·simp[hl] at h
  ·exact h
 ·have:=key i j x y hij hx hy
  simp only[iW,hd,Bool.and_eq_true,Bool.or_eq_true] at this;rcases this.1.1.2 with h|h
  ·simp[hl] at h
  ·exact h
 ·have:=key i j x y hij hx hy
  simp only[iW,h1,h2,Bool.and_eq_true,Bool.or_eq_true] at this;rcases this.1.2 with h|h
  ·simp at h
  ·exact h
end
section
variable {K K2:KM}{Q Q2:PM}{P:Program}{w w2 w3:World}{m m2 m3:Mem}{A:Ann}{F:aW}{fid:FuncId}{nt:Nat}
theorem fill (hT:Trans K m Q w K2 m2 Q2 w2) {key:Key}{x:HO}(hx:m2.get key=some x) (hq:Q2 key=none) (hgen:∀y,m.get key=some y→y.gn<x.gn)
  {z:List CV}{g s:Nat}(hxv:x=.var g z 0∨x=.arr g s z 0) {es:Array Value}{t:TypeId}(hall:z.all bE=true) (hV:Cm.Vs K2 m2.get Q2 false z es.toList) (hw:Pushed w2 w3 (.cells es t (0,0))) :
  Trans K m Q w K2 m2 (bB Q2 key (some ⟨w2.heap.size,0,es.size⟩)) w3∧Grow true m2.get Q2 m2.get (bB Q2 key (some ⟨w2.heap.size,0,es.size⟩)):=by
 have hsz:w3.heap.size=w2.heap.size+1:=by rw[hw.1];simp
 have hold:∀b,b<w2.heap.size→w3.heap[b]?=w2.heap[b]?:=λb hb=>by rw[hw.1,Array.getElem?_push];rw[if_neg (by omega)]
 have hG:Grow true m2.get Q2 m2.get (bB Q2 key (some ⟨w2.heap.size,0,es.size⟩)):=by
  intro k y _ hy
  exact⟨y,hy,Nat.le_refl _,λ_=>⟨λp hp=>xH Q2 hq _ k p hp,λ_ _ cs vl h'=>⟨cs,vl,h',Nat.le_refl _⟩⟩⟩
 have hlen:=bT hV
 refine⟨⟨⟨λb o v hv=>?_,λk y hy=>?_,λk1 k2 q1 q2 h1 h2 he=>?_,λk q1 h1=>?_,λk g' cs' vl' q1 h1 h2=>by
  simp only[bB] at h2
  split at h2
  ·simp only[Option.some.injEq] at h2;subst h2;rfl
  ·exact hT.mr.v0 _ _ _ _ _ h1 h2⟩,hT.kk,hT.grow.trans hG,by have:=hT.size;omega,λb hb hne=>?_,hT.kn,λk q hq'=>?_,hT.io.trans (hw.kept (.inl ⟨_,_,rfl⟩))⟩,hG⟩
 ·have hc:=hT.mr.stab b o v hv
  rw[cQ (hold b (World.block_lt_of_cell? _ _ hc))];exact hc
 ·by_cases he:key=k
  ·subst he
   rw[hx] at hy;simp only[Option.some.injEq] at hy;subst hy;intro q hq';simp only[bB,if_true,Option.some.injEq] at hq';subst hq'
   suffices hc:∀fl,CellsOK K2 m2.get (bB Q2 key (some ⟨w2.heap.size,0,es.size⟩)) w3 fl z 0 ⟨w2.heap.size,0,es.size⟩ by
    rcases hxv with rfl|rfl<;>exact hc _
   intro fl
   refine(show CellsOK K2 m2.get (bB Q2 key (some ⟨w2.heap.size,0,es.size⟩)) w3 fl z 0 ⟨w2.heap.size,0,es.size⟩ from⟨⟨es,t,by rw[hw.1];simp,rfl,λi c hc=>?_⟩,?_,λo _=>?_⟩)
   ·obtain⟨v,h1,h2⟩:=dX hV hc
    refine⟨List.all_eq_true.1 hall c (List.mem_of_getElem? hc),v,by simpa using h1,?_⟩
    exact V_mono (λ_ _ _ h=>h) hG.sub (by simp) hG.sub c v h2
   ·simp only[Array.length_toList] at hlen
    simp only[Nat.zero_add];omega
   ·cases hk':K2 w2.heap.size o with
    |none=>rfl
    |some v=>
     have:=World.block_lt_of_cell? _ _ (hT.mr.stab _ _ _ hk');simp at this
  ·exact(hT.mr.objs k y hy).mono (λ_ _ _ h=>h) hG (λq1 h1=>by simpa[bB,he] using h1) (λq1 h1=>hold _ (hT.mr.dom _ _ h1).2) (λ_ _ _ _ h=>h)
 ·simp only[bB] at h1 h2
  split at h1<;>split at h2
  ·rename_i a b;rw[←a,←b]
  ·simp only[Option.some.injEq] at h1;subst h1
   have:=(hT.mr.dom _ _ h2).2;simp only at he;omega
  ·simp only[Option.some.injEq] at h2;subst h2
   have:=(hT.mr.dom _ _ h1).2;simp only at he;omega
  ·exact hT.mr.inj _ _ _ _ h1 h2 he
 ·simp only[bB] at h1
  split at h1
  ·rename_i a
   simp only[Option.some.injEq] at h1;subst h1 a
   exact⟨⟨x,hx⟩,by simp only;omega⟩
  ·obtain⟨hy,hlt⟩:=hT.mr.dom k q1 h1
   exact⟨hy,by omega⟩
 ·rw[hold b (Nat.lt_of_lt_of_le hb hT.size)]
  exact hT.frame b hb hne
 ·simp only[bB] at hq'
  split at hq'
  ·rename_i he;subst he
   simp only[Option.some.injEq] at hq';subst hq';exact .inr ⟨hT.size,λy hy=>⟨x,hx,hgen y hy⟩⟩
  ·exact hT.pn k q hq'
structure AlOK (m0:Mem) (Q1:PM) (b:Al):Prop where
 none:Q1 b.key=none
 gen:∀y,m0.get b.key=some y→y.gn<b.gn
theorem xk {qs:List CV}:∀(l:List Oper) (i:Nat) (m2:Mem) (Q2:PM) (al:List Al) (m3:Mem),Trans K m Q w K2 m2 Q2 w2→Hd P A fid qs i l m2=some (al,m3) →
  ∃Q3,Trans K m Q w K2 m3 Q3 w2∧Grow true m2.get Q2 m3.get Q3∧(∀b∈al,AlOK m Q3 b)∧(∀k,Q2 k=none→Q3 k=none):=by
 intro l
 induction l with
 |nil=>
  intro i m2 Q2 al m3 hT h;simp only[Hd,Option.some.injEq,Prod.mk.injEq] at h;obtain⟨rfl,rfl⟩:=h
  exact⟨Q2,hT,Grow.refl _ _ _,λb hb=>by simp at hb,λ_ h=>h⟩
 |cons o r ih=>
  intro i m2 Q2 al m3 hT h;simp only[Hd] at h
  split at h
  ·simp only[Option.bind_eq_some_iff,Option.map_eq_some_iff,Prod.mk.injEq] at h
   obtain⟨⟨z,row⟩,hz,⟨al',m4⟩,h,rfl,rfl⟩:=h;obtain⟨hget,hgen⟩:=fN m2 (di (A.glob fid) o.dst) (cW o.dst) (w8 z row) (λg=>by cases row<;>rfl);simp only at h;generalize (m2.add (di (A.glob fid) o.dst) (cW o.dst) (w8 z row)).1=key at *;generalize (m2.add (di (A.glob fid) o.dst) (cW o.dst) (w8 z row)).2.1=gn at *;generalize (m2.add (di (A.glob fid) o.dst) (cW o.dst) (w8 z row)).2.2=m5 at *;have hg:(w8 z row gn).gn=gn:=by cases row<;>rfl
   have hgen':∀y,m2.get key=some y→y.gn<(w8 z row gn).gn:=λy hy=>by rw[hg];exact hgen y hy
   have hG:Grow true m2.get Q2 m5.get (bB Q2 key none):=by
    rw[hget];exact Grow.upd λy hy=>⟨Nat.le_of_lt (hgen' y hy),λhe=>absurd he (Nat.ne_of_lt (hgen' y hy))⟩
   have hT5:Trans K m Q w K2 m5 (bB Q2 key none) w2:=by
    refine⟨?_,hT.kk,hT.grow.trans hG,hT.size,hT.frame,hT.kn,λk q hq=>?_,hT.io⟩
    ·rw[hget]
     exact hT.mr.place (x:=w8 z row gn) hgen' (by simp) (by intro q hq;simp[bB] at hq)
    ·simp only[bB] at hq
     split at hq
     ·simp at hq
     ·exact hT.pn' hG hq
   obtain⟨Q3,h1,h2,h3,h4⟩:=ih _ _ _ _ _ hT5 h
   refine⟨Q3,h1,hG.trans h2,λb hb=>?_,λk hk=>h4 k ?_⟩
   ·simp only[List.mem_cons] at hb
    rcases hb with rfl|hb
    ·exact⟨h4 _ (by simp[bB]),λy hy=>hT.gen hy hgen⟩
    ·exact h3 b hb
   ·simp only[bB]
    split
    ·rfl
    ·exact hk
  ·exact ih _ _ _ _ _ hT h
theorem rz:∀{al:List Al}{j:Nat}{a:Al},oU al j=some a→a∈al∧a.i=j
 |b::r,j,a,h=>by
  simp only[oU] at h
  split at h
  ·rename_i he
   simp only[Option.some.injEq] at h;subst h
   exact⟨List.mem_cons_self,he⟩
  ·obtain⟨h1,h2⟩:=rz h
   exact⟨List.mem_cons_of_mem _ h1,h2⟩
theorem me:∀{al:List Al},iP al=true→∀a∈al,∀b∈al,a.key=b.key→a=b
 |x::r,h,a,ha,b,hb,he=>by
  simp only[iP,Bool.and_eq_true,List.all_eq_true,decide_eq_true_eq] at h;simp only[List.mem_cons] at ha hb;rcases ha with rfl|ha<;>rcases hb with rfl|hb
  ·rfl
  ·exact absurd he (h.1 b hb)
  ·exact absurd he.symm (h.1 a ha)
  ·exact me h.2 a ha b hb he
theorem rK {ops:List Oper}{al:List Al}{i:Nat}{o:Oper}{sl:List CV}{m:Mem}{x:Row}(h:kE P A F fid nt ops al i o sl m=some x) :
  x.i=i∧x.o=o∧x.sl=sl∧x.m=m:=by
 unfold kE at h
 split at h
 ·simp at h
 ·split at h
  ·split at h
   ·simp only[Option.bind_eq_some_iff] at h
    obtain⟨a,_,h⟩:=h
    split at h
    ·split at h
     ·simp only[Option.some.injEq] at h
      subst h
      exact⟨rfl,rfl,rfl,rfl⟩
     ·simp at h
    ·simp at h
   ·simp only[Option.map_eq_some_iff] at h
    obtain⟨a,_,rfl⟩:=h
    exact⟨rfl,rfl,rfl,rfl⟩
  ·simp only[Option.some.injEq] at h;subst h;exact⟨rfl,rfl,rfl,rfl⟩
  ·simp at h
theorem pt {ops:List Oper}{al:List Al}:∀(l:List Oper) (i:Nat) (sl:List CV) (m:Mem) (rows:List Row) (sl':List CV) (m':Mem),jG P A F fid nt ops al i l sl m=some (rows,sl',m') →
  rows.length=l.length∧sl'=slF rows sl∧m'=mF rows m ∧
   ∀k x,rows[k]?=some x→l[k]?=some x.o∧x.i=i+k∧x.sl=slF (rows.take k) sl∧x.m=mF (rows.take k) m∧kE P A F fid nt ops al (i+k) x.o x.sl x.m=some x:=by
 intro l
 induction l with
 |nil=>
  intro i sl m rows sl' m' h;simp only[jG,Option.some.injEq,Prod.mk.injEq] at h;obtain⟨rfl,rfl,rfl⟩:=h
  exact⟨rfl,rfl,rfl,λk x hx=>by simp at hx⟩
 |cons o r ih=>
  intro i sl m rows sl' m' h;simp only[jG,Option.bind_eq_some_iff,Option.map_eq_some_iff] at h;obtain⟨x,hx,⟨rows2,sl2,m2⟩,h,he⟩:=h;simp only[Prod.mk.injEq] at he;obtain⟨rfl,rfl,rfl⟩:=he;obtain⟨f1,f2,f3,f4⟩:=rK hx;obtain⟨h1,h2,h3,h4⟩:=ih _ _ _ _ _ _ h
  refine⟨by simp[h1],by simp only[h2,slF,List.foldl_cons,f2],by simp only[h3,mF,List.foldl_cons],λk y hy=>?_⟩
  cases k with
  |zero=>
   simp only[List.getElem?_cons_zero,Option.some.injEq] at hy;subst hy
   exact⟨by simp[f2],by simpa using f1,by simp[slF,f3],by simp[mF,f4],by rw[f2,f3,f4];exact hx⟩
  |succ k=>
   simp only[List.getElem?_cons_succ] at hy;obtain⟨e1,e2,e3,e4,e5⟩:=h4 k y hy
   refine⟨by simpa using e1,by omega,by simp only[e3,slF,List.take_succ_cons,List.foldl_cons,f2],by simp only[e4,mF,List.take_succ_cons,List.foldl_cons],?_⟩
   rwa [show i+(k+1)=i+1+k from by omega]
end
section
variable {P:Program}{A:Ann}{F:aW}{fid:FuncId}{nt:Nat}
theorem fU {ops:List Oper}{al:List Al}{i:Nat}{o:Oper}{sl:List CV}{m:Mem}{x:Row}(h:kE P A F fid nt ops al i o sl m=some x) :
  dok nt x.o.dst=true ∧
  ((dR ops x.sl x.o=some false∧x.v=.tuple []∧x.m'=x.m) ∨
   (dR ops x.sl x.o=some true∧plainAlloc P x.o=true∧x.m'=x.m∧∃b,oU al x.i=some b∧x.v=b.cv∧Hm P (evL (cg ops x.o) x.sl) x.o=some (b.z,b.row)) ∨
   (dR ops x.sl x.o=some true∧plainAlloc P x.o=false∧bJ x.o.op=true∧x.go=true∧x.m'=x.m) ∨
   (dR ops x.sl x.o=some true∧plainAlloc P x.o=false∧bJ x.o.op=false∧cval P A F fid (evL (cg ops x.o) x.sl) x.o x.m=some (x.v,x.m'))):=by
 unfold kE at h
 split at h
 ·simp at h
 ·rename_i hd
  split at h
  ·rename_i hg
   split at h
   ·rename_i hp
    simp only[Option.bind_eq_some_iff] at h;obtain⟨b,hb,h⟩:=h
    split at h
    ·rename_i zr hzr
     split at h
     ·rename_i hc
      simp only[Option.some.injEq] at h;subst h
      exact⟨by simpa using hd,.inr (.inl ⟨hg,hp,rfl,b,hb,rfl,by rw[←hc.1,←beqs_eq _ _ hc.2];exact hzr⟩)⟩
     ·simp at h
    ·simp at h
   ·rename_i hp
    simp only[Option.map_eq_some_iff] at h;obtain⟨⟨c,m1⟩,hc,rfl⟩:=h
    refine⟨by simpa using hd,.inr (.inr ?_)⟩
    by_cases hq:bJ o.op=true
    ·exact .inl ⟨hg,by simpa using hp,hq,rfl,by simp[hq]⟩
    ·refine .inr ⟨hg,by simpa using hp,by simpa using hq,?_⟩
     simp only[hq];exact hc
  ·rename_i hg
   simp only[Option.some.injEq] at h;subst h
   exact⟨by simpa using hd,.inl ⟨hg,rfl,rfl⟩⟩
  ·simp at h
structure Drawn (P:Program) (A:Ann) (F:aW) (fid:FuncId) (nt:Nat) (ops:Array Oper) (sl0:List CV) (mA:Mem) (al:List Al) (rows:List Row) (es:List Row) (last:Mem):Prop where
 reg:RegOK P ops.toList (cy ops.toList [])
 len:rows.length=ops.size
 row:∀(k:Nat) (x:Row),rows[k]?=some x→ops[k]?=some x.o∧x.i=k∧x.sl=slF (rows.take k) sl0∧kE P A F fid nt ops.toList al k x.o x.sl x.m=some x
 ese:es=rows.filter λx=>bt P x.o
 first:cp es last 0=mA
 next:∀(k:Nat) (e:Row),es[k]?=some e→cp es last (k+1)=e.m'
 keys:iP al=true
 fresh0:∀b∈al,cC b mA=true
 fresh:∀b∈al,∀e∈es,((cy ops.toList []).getD e.i 0).testBit b.i=true∨cC b e.m'=true
 steady:∀x∈rows,x.go=true→bJ x.o.op=true→Cm.steady P A F fid ops.toList (cy ops.toList []) x last es=true
section
variable {ops:Array Oper}{sl0:List CV}{mA:Mem}{al:List Al}{rows es:List Row}{last:Mem}
theorem Drawn.es_row (h:Drawn P A F fid nt ops sl0 mA al rows es last) {e:Row}(he:e∈es):rows[e.i]?=some e∧bt P e.o=true:=by
 rw[h.ese,List.mem_filter] at he;obtain⟨k,hk⟩:=List.getElem?_of_mem he.1;have:=(h.row k e hk).2.1;subst this
 exact⟨hk,he.2⟩
theorem Drawn.sorted (h:Drawn P A F fid nt ops sl0 mA al rows es last) {j k:Nat}{x y:Row}(hj:es[j]?=some x) (hk:es[k]?=some y) (hlt:j<k):x.i<y.i:=by
 have hp:rows.Pairwise λx y=>x.i<y.i:=by
  rw[List.pairwise_iff_getElem];intro i j hi hj hij;have h1:=(h.row i rows[i] (List.getElem?_eq_getElem hi)).2.1;have h2:=(h.row j rows[j] (List.getElem?_eq_getElem hj)).2.1;omega
 have hp':es.Pairwise λx y=>x.i<y.i:=by rw[h.ese];exact hp.filter _
 rw[List.pairwise_iff_getElem] at hp';obtain⟨h1,rfl⟩:=List.getElem?_eq_some_iff.1 hj;obtain⟨h2,rfl⟩:=List.getElem?_eq_some_iff.1 hk;exact hp' j k h1 h2 hlt
structure Inv (nt:Nat) (K0:KM) (m0:Mem) (Q0:PM) (w0:World) (ops:Array Oper) (sl0:List CV) (al:List Al) (rows es:List Row) (last:Mem) (listed:Array Bool) (k:Nat) (a:Act) (w:World):Prop where
 size:listed.size=ops.size
 closed:∀j i,listed.getD j false=true→((cy ops.toList []).getD j 0).testBit i=true→listed.getD i false=true
 pre:∀(j:Nat) (e:Row),es[j]?=some e→(listed.getD e.i false=true↔j<k)
 kle:k≤es.length
 mem:∃K Q,Trans K0 m0 Q0 w0 K (cp es last k) Q w ∧
  (∀t,(∀(j:Nat) (x:Row),rows[j]?=some x→listed.getD j false=true→x.o.dst=some t→Vt K (cp es last k) Q x.v (a.tmps.getD t undef)) ∧
   ((∀(j:Nat) (x:Row),rows[j]?=some x→listed.getD j false=true→x.o.dst≠some t)→Vt K (cp es last k) Q (bH sl0 t) (a.tmps.getD t undef))) ∧
  (∀b∈al,listed.getD b.i false=false→Q b.key=none∧cC b (cp es last k)=true)
 tsz:a.tmps.size=nt
 defs:a.defers=[]
variable {K0:KM}{m0:Mem}{Q0:PM}{w0:World}{Qx:Exit→Act→World→Prop}
theorem Inv.step (hD:Drawn P A F fid nt ops sl0 mA al rows es last) {listed:Array Bool}{k:Nat}{a:Act}{w:World}(hI:Inv nt K0 m0 Q0 w0 ops sl0 al rows es last listed k a w)
  {i:Nat}(hi:i∈Region.ready .any ops listed) {x:Row}(hx:rows[i]?=some x) :
  ∃K Q,Trans K0 m0 Q0 w0 K (cp es last k) Q w∧(∀b∈al,listed.getD b.i false=false→Q b.key=none∧cC b (cp es last k)=true) ∧
   (∀t,t∈cg ops.toList x.o→Vt K (cp es last k) Q (bH x.sl t) (a.tmps.getD t undef)) ∧
   (bt P x.o=true→es[k]?=some x)∧listed.getD i false=false∧(∀j,((cy ops.toList []).getD i 0).testBit j=true→listed.getD j false=true) ∧
   ∀(k':Nat),(k'=if bt P x.o then k+1 else k)→∀(w':World) (r:Value) (K':KM) (Q':PM),Trans K0 m0 Q0 w0 K' (cp es last k') Q' w' →
    (∀c v,Vt K (cp es last k) Q c v→Vt K' (cp es last k') Q' c v)→Vt K' (cp es last k') Q' x.v r →
    (∀b∈al,listed.getD b.i false=false→b.i≠i→Q' b.key=none∧cC b (cp es last k')=true) →
    Inv nt K0 m0 Q0 w0 ops sl0 al rows es last (listed.setIfInBounds i true) k' (a.put x.o.dst r) w':=by
 obtain⟨ho,hxi,hsl,hdr⟩:=hD.row i x hx;obtain⟨hl0,o',ho',hedges⟩:=mem_ready.1 hi;rw[ho] at ho';simp only[Option.some.injEq] at ho';subst ho';have hlt:i<ops.size:=(Array.getElem?_eq_some_iff.1 ho).1;have hlt':i<listed.size:=by rw[hI.size];exact hlt
 have hnot:listed.getD i false=false:=by
  simp only[Array.getD_eq_getD_getElem?,Array.getElem?_eq_getElem hlt',Option.getD_some] at hl0 ⊢;exact hl0
 have hol:∀{j:Nat}{y:Row},rows[j]?=some y→ops.toList[j]?=some y.o:=λhy=>by rw[Array.getElem?_toList];exact(hD.row _ _ hy).1
 have hmask:∀j,((cy ops.toList []).getD i 0).testBit j=true→listed.getD j false=true:=by
  intro j hj;obtain⟨e,he,hb,h⟩:=xu (hol hx) hj (hD.reg.back i x.o (hol hx));have hon:=hedges e (Array.mem_toList_iff.1 he) hb;rcases h with rfl|h
  ·exact hon
  ·exact hI.closed _ _ hon h
 have hdk:=(fU hdr).1;obtain⟨K,Q,hT,hslots,hal⟩:=hI.mem;have hlook:∀t,t∈cg ops.toList x.o→Vt K (cp es last k) Q (bH x.sl t) (a.tmps.getD t undef):=by
  intro t ht;have hdis:∀(p q:Nat) (y z:Row),(rows.take i)[p]?=some y→(rows.take i)[q]?=some z→y.o.dst=some t→z.o.dst=some t→p=q:=by
   intro p q y z hy hz h1 h2;rw[List.getElem?_take] at hy hz
   split at hy<;>split at hz<;>first
    |(exact hD.reg.dst p q _ _ t (hol hy) (hol hz) h1 h2)
    |simp at hy
    |simp at hz
  have hg:=JS (rows.take i) sl0 t hdis;rw[hsl]
  by_cases hex:∃(j:Nat) (y:Row),(rows.take i)[j]?=some y∧y.o.dst=some t
  ·obtain⟨j,y,hy,hyd⟩:=hex
   rw[hg.1 j y hy hyd];rw[List.getElem?_take] at hy
   split at hy
   ·rename_i hji
    exact(hslots t).1 j y hy (hmask j (hD.reg.reads j i y.o x.o t hji (hol hy) (hol hx) hyd ht)) hyd
   ·simp at hy
  ·rw[hg.2 λj y hy hyd=>hex ⟨j,y,hy,hyd⟩]
   refine(hslots t).2 λj y hy hlj hyd=>?_
   rcases Nat.lt_trichotomy j i with hji|hji|hji
   ·exact hex ⟨j,y,by rw[List.getElem?_take,if_pos hji];exact hy,hyd⟩
   ·subst hji;rw[hnot] at hlj;cases hlj
   ·have:=hI.closed j i hlj (hD.reg.writes i j x.o y.o t hji (hol hx) (hol hy) hyd ht)
    rw[hnot] at this;cases this
 have hwhere:bt P x.o=true→es[k]?=some x:=by
  intro heff;have hxes:x∈es:=by rw[hD.ese,List.mem_filter];exact⟨List.mem_of_getElem? hx,heff⟩
  obtain⟨j0,hj0⟩:=List.getElem?_of_mem hxes;have hk0:j0=k:=by
   have h1:¬j0<k:=λh=>by
    have:=(hI.pre j0 x hj0).2 h;rw[hxi,hnot] at this;cases this
   rcases Nat.eq_zero_or_pos j0 with h0|h0
   ·have:=hI.kle
    rcases Nat.eq_zero_or_pos k with hk0|hk0
    ·omega
    ·omega
   ·have hlen:j0<es.length:=(List.getElem?_eq_some_iff.1 hj0).1
    have he':es[j0 - 1]?=some es[j0 - 1]:=List.getElem?_eq_getElem (by omega);have hso:=hD.sorted he' hj0 (by omega);obtain⟨hr,hf⟩:=hD.es_row (List.mem_of_getElem? he');rw[hxi] at hso;have:=(hI.pre _ _ he').1 (hmask _ (hD.reg.effs _ i _ x.o hso (hol hr) (hol hx) hf heff));omega
  subst hk0;exact hj0
 refine⟨K,Q,hT,hal,hlook,hwhere,hnot,hmask,λk' hk' w' r K' Q' hT' hlift hv hal'=>?_⟩
 refine⟨by simp[hI.size],λj i' hj hb=>?_,λj e he=>?_,?_,⟨K',Q',hT',λt=>⟨λj y hy hlj hyd=>?_,λhne=>?_⟩,λb hb hlb=>?_⟩,by rw[og];exact hI.tsz,by rw[jY];exact hI.defs⟩
 ·rw[gJ hlt'] at hj ⊢
  split
  ·rfl
  ·split at hj
   ·rename_i he;subst he;exact hmask i' hb
   ·exact hI.closed j i' hj hb
 ·obtain⟨her,hee⟩:=hD.es_row (List.mem_of_getElem? he)
  rw[gJ hlt'];have hp:=hI.pre j e he
  by_cases heff:bt P x.o=true
  ·rw[if_pos heff] at hk'
   have hj0:=hwhere heff;generalize hk0:k=j0 at *
   by_cases hei:i=e.i
   ·rw[if_pos hei]
    have:j=j0:=by
     rcases Nat.lt_trichotomy j j0 with h|h|h
     ·have:=hD.sorted he hj0 h;omega
     ·exact h
     ·have:=hD.sorted hj0 he h;omega
    simp[this,hk']
   ·rw[if_neg hei,hp]
    have:j≠j0:=λh=>by subst h;rw[he] at hj0;simp only[Option.some.injEq] at hj0;subst hj0;omega
    omega
  ·rw[if_neg heff] at hk'
   have hei:i≠e.i:=λh=>by
    rw[←h,hx] at her;simp only[Option.some.injEq] at her;subst her;exact heff hee
   rw[if_neg hei,hp,hk']
 ·by_cases heff:bt P x.o=true
  ·rw[if_pos heff] at hk'
   have hj0:=hwhere heff;have:=(List.getElem?_eq_some_iff.1 hj0).1;omega
  ·rw[if_neg heff] at hk'
   have:=hI.kle;omega
 ·rw[gJ hlt'] at hlj
  by_cases hij:i=j
  ·subst hij
   rw[hx] at hy;simp only[Option.some.injEq] at hy;subst hy;rw[hyd] at hdk ⊢;simp only[dok,decide_eq_true_eq] at hdk;rw[qV (by rw[hI.tsz];exact hdk)];exact hv
  ·rw[if_neg hij] at hlj
   rw[wj λh=>hij (hD.reg.dst i j x.o y.o t (hol hx) (hol hy) h hyd)];exact hlift _ _ ((hslots t).1 j y hy hlj hyd)
 ·rw[wj (hne i x hx (by rw[gJ hlt'];simp))]
  exact hlift _ _ ((hslots t).2 λj y hy hlj=>hne j y hy (by rw[gJ hlt'];split;rfl;exact hlj))
 ·rw[gJ hlt'] at hlb
  split at hlb
  ·cases hlb
  ·rename_i hne
   exact hal' b hb hlb (Ne.symm hne)
end
variable {K0:KM}{m0:Mem}{Q0:PM}{w0:World}{Qx:Exit→Act→World→Prop}{ops:Array Oper}{sl0:List CV}{mA:Mem}{al:List Al}{rows es:List Row}{last:Mem}
theorem G8 {b:Al}{m:Mem}(h:cC b m=true):m.get b.key=some (w8 b.z b.row b.gn):=by
 unfold cC at h
 split at h
 ·rename_i g cs vl hget hrow
  simp only[Bool.and_eq_true,decide_eq_true_eq] at h;obtain⟨⟨rfl,rfl⟩,h3⟩:=h;rw[hget,hrow,beqs_eq _ _ h3];rfl
 ·rename_i g s cs vl r hget hrow
  simp only[Bool.and_eq_true,decide_eq_true_eq] at h;obtain⟨⟨⟨rfl,rfl⟩,rfl⟩,h3⟩:=h;rw[hget,hrow,beqs_eq _ _ h3];rfl
 ·simp at h
theorem P5 {K:KM}{m:Mem}{Q:PM}{w:World}{a:Act}{ρ:Operand→CV}(hρ:∀x,Vt K m Q (ρ x) (a.eval x)) {o:Oper}{z:List CV}{row:Option (Nat×Nat)}(h:Hm P ρ o=some (z,row)) :
  ∃es t r,(execOp a.eval o).run P w=.ok (.value r) { w with heap:=w.heap.push (.cells es t (0,0)) }∧z.all bE=true∧Cm.Vs K m.get Q false z es.toList ∧
   ((row=none∧r=.pointer (some ⟨w.heap.size,0,none⟩))∨∃s n,row=some (s,n)∧r=.slice (some ⟨w.heap.size,0,none⟩) n n∧n*s=z.length):=by
 unfold Hm at h
 split at h
 ·rename_i t hop
  simp only[Option.map_eq_some_iff,Prod.mk.injEq] at h;obtain⟨z',hz,rfl,rfl⟩:=h;obtain⟨v,hzv,hall,hV,_⟩:=js (K:=K) (M:=m.get) (Q:=Q) (w:=w) (loc:=false) hz
  exact⟨v.cells,t,_,by simp only[hop,execOp];simp[Instr.alloc,hzv,newVar,newRow],hall,hV,.inl ⟨rfl,rfl⟩⟩
 ·rename_i t l c' hop
  split at h
  ·rename_i e he
   split at h
   ·rename_i s z k1 x k2 y hs hz hl hc
    split at h
    ·rename_i hcond
     obtain⟨h0,rfl,hsm,hzl⟩:=hcond;simp only[Option.some.injEq,Prod.mk.injEq] at h;obtain⟨rfl,rfl⟩:=h;obtain⟨v,hv,hall,hV,i,hi,hiz⟩:=js (K:=K) (M:=m.get) (Q:=Q) (w:=w) (loc:=false) hz;obtain⟨i',hi',_,hn,hb⟩:=Av hsm;rw[hi] at hi';simp only[Option.some.injEq] at hi';subst hi';have hl':=hρ l;rw[hl] at hl';simp only[Vt,V] at hl';have hc':=hρ c';rw[hc] at hc';simp only[Vt,V] at hc';have hsz:s=i.size:=by simp[bK,hi] at hs;omega
     have hbx:(i.bytes:Int)*x≤281474976710656:=by
      have h1:((x.toNat*i.bytes:Nat):Int)≤140737488355328:=by omega
      rw[Int.natCast_mul,Int.toNat_of_nonneg h0,Int.mul_comm] at h1;omega
     have hrun:=run_make (P:=P) w t e i v (gN he) hi hiz k1 k2 x x h0 (Int.le_refl _) hbx (by omega)
     refine⟨madeCells v.cells (x.toNat*i.size),e,.slice (some ⟨w.heap.size,0,none⟩) x.toNat x.toNat,?_,sy hall,?_,.inr ⟨s,x.toNat,rfl,rfl,by rw[gj,hzl]⟩⟩
     ·simp only[hop,execOp,hl',hc',Sem.run_bind,hrun,Result.andThen_ok,Sem.run_pure]
      rfl
     ·have:=uX (n:=x.toNat) hzl hV
      rw[hsz] at this;exact this
    ·simp at h
   ·simp at h
  ·simp at h
 ·simp at h
theorem eM {o:Oper}(h:bJ o.op=true):bt P o=false:=by simp[bt,h]
theorem lW {o:Oper}(h:plainAlloc P o=true):bt P o=false:=by simp[bt,h]
theorem Inv.op (hS:Sim P F) (hN:cm P=true) (hD:Drawn P A F fid nt ops sl0 mA al rows es last)
  (hAl:∀b∈al,∀y,m0.get b.key=some y→y.gn<b.gn)
  {listed:Array Bool}{k:Nat}{a:Act}{w:World}(hI:Inv nt K0 m0 Q0 w0 ops sl0 al rows es last listed k a w)
  {i:Nat}(hi:i∈Region.ready .any ops listed) {next:Act→World→Prop}(hn:∀k' a' w',Inv nt K0 m0 Q0 w0 ops sl0 al rows es last (listed.setIfInBounds i true) k' a' w'→next a' w') :
  wpOp P ops Qx i next a w:=by
 obtain⟨hl0,o,ho,hedges⟩:=mem_ready.1 hi;have hlt:i<ops.size:=(Array.getElem?_eq_some_iff.1 ho).1;obtain⟨x,hx⟩:∃x,rows[i]?=some x:=⟨_,List.getElem?_eq_getElem (by rw[hD.len];exact hlt)⟩;obtain⟨ho',hxi,hsl,hdr⟩:=hD.row i x hx;rw[ho] at ho';simp only[Option.some.injEq] at ho';subst ho';obtain⟨K,Q,hT,hal,hlook,hwhere,hnot,hmask,hfin⟩:=hI.step hD hi hx;have hgu:∀{b},dR ops.toList x.sl x.o=some b→Region.wanted x.o (yielded ops a.tmps)=b:=by
  intro b hg;refine jK (K:=K) (m:=cp es last k) (Q:=Q) (λg want d hgd hd=>hlook d ?_) hg;simp only[cg,hgd];rw[Array.getElem?_toList,hd];simp
 simp only[wpOp,ho];obtain⟨_,hc⟩:=fU hdr;rcases hc with⟨hg,hv,hm⟩|⟨hg,hp,hm,b,hb,hv,hmd⟩|⟨hg,hp,hq,hgo,hm⟩|⟨hg,hp,hq,hcv⟩
 · -- not wanted
  rw[hgu hg];simp only[Bool.false_eq_true,if_false];have hsame:cp es last (if bt P x.o then k+1 else k)=cp es last k:=by
   split
   ·rename_i heff
    rw[hD.next k x (hwhere heff),hm];simp[cp,hwhere heff]
   ·rfl
  refine hn _ _ _ (hfin _ rfl w undef K Q (by rw[hsame];exact hT) (λc v h=>by rw[hsame];exact h) (by rw[hsame,hv];exact wK) λb hb hlb _=>by rw[hsame];exact hal b hb hlb)
 · -- a new variable
  rw[hgu hg];simp only[if_true];left;have hne:bt P x.o=false:=lW hp;obtain⟨hbm,hbi⟩:=rz hb;have hgen:=hAl b hbm;obtain⟨hqn,hfr⟩:=hal b hbm (by rw[hbi,hxi];exact hnot);have hget:=G8 hfr;obtain⟨es',t,r,hrun,hall,hV,hr⟩:=P5 (w:=w) (MI (a:=a) hlook) hmd;have hgg:(w8 b.z b.row b.gn).gn=b.gn:=by cases b.row<;>rfl
  obtain⟨hT',hG⟩:=fill hT (w3:={ w with heap:=w.heap.push (.cells es' t (0,0)) }) (g:=b.gn) (s:=(b.row.map (·.1)).getD 0) hget hqn (by rw[hgg];exact hgen) (by
   cases b.row with
   |none=>exact .inl rfl
   |some s=>exact .inr rfl) hall hV ⟨rfl,rfl,rfl⟩
  simp only[Oper.wp,hrun,Oper.upon_value];refine hn _ _ _ (hfin k (by rw[hne];rfl) _ _ K _ hT' (λc v h=>V_mono (λ_ _ _ h=>h) hG.sub (λh=>h) hG c v h) ?_ λb' hb' hlb' hne'=>?_)
  ·rw[hv]
   rcases hr with⟨hrow,rfl⟩|⟨s,n,hrow,rfl,hns⟩
   ·simp only[Al.cv,hrow]
    rw[hrow] at hget;simp only[Vt,V]
    exact⟨by cases b.key<;>simp[keyOK],_,_,hget,Nat.le_refl _,rfl,λ_=>⟨_,by simp[bB];rfl,rfl⟩⟩
   ·simp only[Al.cv,hrow]
    rw[hrow] at hget;have hl:=bT hV;simp only[Array.length_toList] at hl;exact Kz (sz:=s) (vl:=0) (cs:=b.z) (q:=⟨w.heap.size,0,es'.size⟩) hget (by simp[bB]) (Nat.le_refl _) (by simp only;omega) (by omega)
  ·obtain⟨h1,h2⟩:=hal b' hb' hlb'
   refine⟨?_,h2⟩
   simp only[bB];split
   ·rename_i he
    have:=me hD.keys b hbm b' hb' he;subst this;exact absurd (by rw[hbi,hxi]) hne'
   ·exact h1
 · -- an answer
  rw[hgu hg];simp only[if_true];left;have hne:bt P x.o=false:=eM hq;have hst:=mn es k (hD.steady x (List.mem_of_getElem? hx) hgo hq) hI.kle (λj e hj he=>by
   have hl:=(hI.pre j e he).2 hj
   cases hb:((cy ops.toList []).getD e.i 0).testBit x.i with
   |false=>rfl
   |true=>
    have:=hI.closed _ _ hl hb;rw[hxi,hnot] at this;cases this) (λe he=>by
   cases hb:((cy ops.toList []).getD x.i 0).testBit e.i with
   |false=>rfl
   |true=>
    rw[hxi] at hb;have:=(hI.pre k e he).1 (hmask _ hb)
    omega)
  unfold eU at hst
  split at hst
  ·rename_i v m1 hcv
   have hbe:=beq_eq _ _ hst;subst hbe;obtain⟨_,r,hrun,hVr⟩:=pW hT.mr (MI hlook) hq hcv;simp only[Oper.wp,hrun,Oper.upon_value];exact hn _ _ _ (hfin k (by rw[hne];rfl) _ _ K Q hT (λc v h=>h) hVr λb hb hlb _=>hal b hb hlb)
  ·simp at hst
 · -- an operation that does something
  rw[hgu hg];simp only[if_true];left;have heff:bt P x.o=true:=by simp[bt,hq,hp]
  have hxk:=hwhere heff;have hmx:cp es last k=x.m:=by simp[cp,hxk]
  have hmn:cp es last (k+1)=x.m':=hD.next k x hxk
  rw[←hmx,←hmn] at hcv;refine wg hS hN hT.mr (MI hlook) hcv next Qx λr w' K' Q' hT' hv=>?_
  refine hn _ _ _ (hfin (k+1) (by rw[heff];rfl) _ _ K' Q' (hT.trans hT') (λc v h=>hT'.V h) hv λb hb hlb _=>?_);obtain⟨h1,h2⟩:=hal b hb hlb;have hfr:cC b (cp es last (k+1))=true:=by
   rw[hmn];rcases hD.fresh b hb x (List.mem_of_getElem? hxk) with h|h
   ·rw[hxi] at h
    have:=hmask _ h;rw[hlb] at this;cases this
   ·exact h
  refine⟨?_,hfr⟩
  cases hq':Q' b.key with
  |none=>rfl
  |some q=>
   rcases hT'.pn _ _ hq' with⟨q0,h,_⟩|⟨_,h⟩
   ·rw[h1] at h;cases h
   ·obtain⟨y,hy,hlt⟩:=h _ (G8 h2)
    rw[G8 hfr] at hy;simp only[Option.some.injEq] at hy;subst hy;simp[HO.gn] at hlt
theorem Inv.any (hS:Sim P F) (hN:cm P=true) (hD:Drawn P A F fid nt ops sl0 mA al rows es last)
  (hAl:∀b∈al,∀y,m0.get b.key=some y→y.gn<b.gn)
  (hend:∀k listed a w,Inv nt K0 m0 Q0 w0 ops sl0 al rows es last listed k a w→(∀j,j<ops.size→listed.getD j false=true)→Qx .normal a w) :
  ∀(fuel:Nat) (listed:Array Bool) (k:Nat) (a:Act) (w:World),left ops.size listed≤fuel→Inv nt K0 m0 Q0 w0 ops sl0 al rows es last listed k a w→wpAny P .any ops Qx fuel listed a w:=by
 intro fuel
 induction fuel with
 |zero=>
  intro listed k a w hf hI;have hr:Region.ready .any ops listed=[]:=by
   cases hr:Region.ready .any ops listed with
   |nil=>rfl
   |cons i l=>
    have hi:i∈Region.ready .any ops listed:=by rw[hr];exact List.mem_cons_self
    obtain⟨h0,o,ho,_⟩:=mem_ready.1 hi;have:=se hI.size (Array.getElem?_eq_some_iff.1 ho).1 h0;omega
  exact⟨hr,hend k listed a w hI (pY hI.size hD.reg.back hr)⟩
 |succ fuel ih=>
  intro listed k a w hf hI
  refine⟨λhr=>hend k listed a w hI (pY hI.size hD.reg.back hr),λi hi=>?_⟩
  refine hI.op hS hN hD hAl hi λk' a' w' hI'=>ih _ k' a' w' ?_ hI';obtain⟨h0,o,ho,_⟩:=mem_ready.1 hi;have:=se hI.size (Array.getElem?_eq_some_iff.1 ho).1 h0;omega
theorem cdraw_goes (hS:Sim P F) (hN:cm P=true) (hM:P.follows .mixedOrders=true) {s s':CS}{a:Act}{w:World}{id:Nat}(hA:At nt K0 m0 Q0 w0 s a w)
  (h:cdraw P A F fid nt ops.toList s=some s') (hQ:∀a w,At nt K0 m0 Q0 w0 s' a w→Qx .normal a w):(Code.region id ops true).wp P Qx a w:=by
 obtain⟨K,Q,hT,hs,hsz,hd⟩:=hA;unfold cdraw at h;simp only at h
 split at h
 ·rename_i hreg
  simp only[Option.bind_eq_some_iff] at h;obtain⟨⟨al,mA⟩,hh,⟨rows,sl',last⟩,hr,h⟩:=h;simp only at h
  split at h
  ·rename_i hc
   simp only[Bool.and_eq_true] at hc;obtain⟨⟨hk,hf⟩,hst⟩:=hc;simp only[Option.some.injEq] at h;subst h;simp only at hr hk hf hst hQ;obtain⟨Q1,hT1,hG,hal,_⟩:=xk ops.toList 0 s.m Q al mA hT hh;obtain⟨r1,rfl,rfl,r4⟩:=pt _ _ _ _ _ _ _ hr;have hrow:∀(k:Nat) (x:Row),rows[k]?=some x→ops[k]?=some x.o∧x.i=k∧x.sl=slF (rows.take k) s.sl∧kE P A F fid nt ops.toList al k x.o x.sl x.m=some x:=by
    intro k x hx;obtain⟨e1,e2,e3,e4,e5⟩:=r4 k x hx
    exact⟨by rw[←Array.getElem?_toList];exact e1,by omega,e3,by rw[Nat.zero_add] at e5;exact e5⟩
   have hmemo:=gL (eff:=λx=>bt P x.o) rows mA λk x hx=>⟨(r4 k x hx).2.2.2.1,λhe=>by
    obtain⟨_,hc⟩:=fU (hrow k x hx).2.2.2;rcases hc with⟨_,_,hm⟩|⟨_,_,hm,_⟩|⟨_,_,_,_,hm⟩|⟨_,hp,hq,_⟩
    ·exact hm
    ·exact hm
    ·exact hm
    ·simp[bt,hp,hq] at he⟩
   have hD:Drawn P A F fid nt ops s.sl mA al rows (rows.filter λx=>bt P x.o) (mF rows mA):=by
    refine⟨RegOK.of hreg,by rw[r1];simp,hrow,rfl,hmemo.1,hmemo.2,hk,λb hb=>?_,λb hb e he=>?_,λx hx hgo hq=>?_⟩
    ·have:=List.all_eq_true.1 hf b hb
     simp only[Bool.and_eq_true] at this;exact this.1
    ·have:=List.all_eq_true.1 hf b hb
     simp only[Bool.and_eq_true] at this;have:=List.all_eq_true.1 this.2 e he;simpa using this
    ·have:=List.all_eq_true.1 hst x hx
     simpa[hgo,hq] using this
   refine wp_region_any hM (Inv.any (K0:=K0) (m0:=m0) (Q0:=Q0) (w0:=w0) hS hN hD (λb hb=>?_) (λk listed a' w' hI hall=>?_) ops.size _ 0 a _ ?_ ?_)
   ·exact(hal b hb).gen
   ·refine hQ a' w' ?_
    obtain⟨K',Q',hT',hsl,_⟩:=hI.mem;have hkk:k=(rows.filter λx=>bt P x.o).length:=by
     have h1:=hI.kle;rcases Nat.lt_or_ge k (rows.filter λx=>bt P x.o).length with h2|h2
     ·have he:(rows.filter λx=>bt P x.o)[k]?=some (rows.filter λx=>bt P x.o)[k]:=List.getElem?_eq_getElem h2
      obtain⟨hr',_⟩:=hD.es_row (List.mem_of_getElem? he);have:=(hI.pre k _ he).1 (hall _ (by
       have:=(List.getElem?_eq_some_iff.1 hr').1;rw[hD.len] at this;exact this))
      omega
     ·omega
    have hmem:cp (rows.filter λx=>bt P x.o) (mF rows mA) k=mF rows mA:=by
     rw[hkk];simp[cp]
    rw[hmem] at hT' hsl
    refine⟨K',Q',hT',λt=>?_,hI.tsz,hI.defs⟩
    have hg:=JS rows s.sl t λi j x y hx hy h1 h2=>hD.reg.dst i j x.o y.o t (by rw[Array.getElem?_toList];exact(hrow _ _ hx).1) (by rw[Array.getElem?_toList];exact(hrow _ _ hy).1) h1 h2;have hin:∀{j:Nat}{x:Row},rows[j]?=some x→listed.getD j false=true:=λhx=>hall _ (by
     have:=(List.getElem?_eq_some_iff.1 hx).1;rw[hD.len] at this;exact this)
    by_cases hex:∃(j:Nat) (x:Row),rows[j]?=some x∧x.o.dst=some t
    ·obtain⟨j,x,hx,hxd⟩:=hex
     simp only[hg.1 j x hx hxd]
     exact(hsl t).1 j x hx (hin hx) hxd
    ·simp only[hg.2 λj x hx hxd=>hex ⟨j,x,hx,hxd⟩]
     exact(hsl t).2 λj x hx _ hxd=>hex ⟨j,x,hx,hxd⟩
   ·have:left ops.size (Array.replicate ops.size false)≤(List.range ops.size).length:=List.countP_le_length
    simpa using this
   ·have hfalse:∀j,(Array.replicate ops.size false).getD j false=false:=by
     intro j;simp only[Array.getD_eq_getD_getElem?,Array.getElem?_replicate]
     split<;>rfl
    have hT2:=hT1.same (w'':={ w with drawn:=w.drawn+1 }) rfl rfl rfl
    refine⟨by simp,λj i hj _=>(by rw[hfalse] at hj;cases hj),λj e he=>by simp[hfalse],Nat.zero_le _,⟨K,Q1,by rw[hmemo.1];exact hT2,λt=>⟨λj x _ hj _=>(by rw[hfalse] at hj;cases hj),λ_=>?_⟩,λb hb _=>?_⟩,hsz,hd⟩
    ·rw[hmemo.1]
     exact V_mono (λ_ _ _ h=>h) hG.sub (λh=>h) hG _ _ (hs t)
    ·rw[hmemo.1]
     exact⟨(hal b hb).none,hD.fresh0 b hb⟩
  ·cases h
 ·cases h
end
end Go.Cm.W2
namespace Go.Cm
variable {P:Program}{A:Ann}{F:aW}{fid:FuncId}{nt:Nat}{ops:Array Oper}{K0:KM}{m0:Mem}{Q0:PM}{w0:World}{Qx:Exit→Act→World→Prop}
theorem MH (hS:Sim P F) (hN:cm P=true) (hM:P.follows .mixedOrders=true) {s s':CS}{a:Act}{w:World}{id:Nat}(hA:At nt K0 m0 Q0 w0 s a w)
  (h:Lb P A F fid nt ops.toList s=some s') (hQ:∀a w,At nt K0 m0 Q0 w0 s' a w→Qx .normal a w):(Code.region id ops true).wp P Qx a w:=by
 unfold Lb at h
 split at h
 ·rename_i hx
  simp only[Option.some.injEq] at h;subst h;exact cdraw_goes hS hN hM hA hx hQ
 ·exact W2.cdraw_goes hS hN hM hA h hQ
theorem Ma {ops:List Oper}{s s':CS}(h:cdraw P A F fid nt ops s=some s'):Lb P A F fid nt ops s=some s':=by
 simp only[Lb,h]
end Go.Cm
namespace Go.Cm
section
variable {P:Program}{A:Ann}{F:aW}{fid:FuncId}{nt:Nat}
variable {K0:KM}{m0:Mem}{Q0:PM}{w0:World}
def Post (nt:Nat) (K0:KM) (m0:Mem) (Q0:PM) (w0:World) (r:CE×CS):Exit→Act→World→Prop
 |.normal,a,w=>r.1=.normal∧At nt K0 m0 Q0 w0 r.2 a w
 |.exit id,a,w=>r.1=.exit id∧At nt K0 m0 Q0 w0 r.2 a w
 |.ret,a,w=>r.1=.ret∧At nt K0 m0 Q0 w0 r.2 a w
 |_,_,_=>False
theorem xq {c:Code}{f:CS→Option (CE×CS)}(hb:∀s r a w,At nt K0 m0 Q0 w0 s a w→f s=some r→c.wp P (Post nt K0 m0 Q0 w0 r) a w) (b:Frame) (k:List Item) (cs:List Frame) :
  ∀(n:Nat) (s:CS) (r:CE×CS) (a:Act) (w:World),At nt K0 m0 Q0 w0 s a w→ly n f s=some r →
   ∃e a' w',Post nt K0 m0 Q0 w0 r e a' w'∧Arrives P (lone (b.at a (.code c::.inLoop c::k)) cs w) b k cs e a' w':=by
 intro n
 induction n with
 |zero=>intro s r a w _ h;simp[ly] at h
 |succ n ih=>
  intro s r a w hA h;simp only[ly,Option.bind_eq_some_iff] at h;obtain⟨r1,h1,h2⟩:=h;obtain⟨e,a1,w1,hq,harr⟩:=hb s r1 a w hA h1 b (.inLoop c::k) cs
  cases e with
  |normal=>
   obtain⟨hn,hA1⟩:=hq;rw[hn] at h2;obtain⟨e2,a2,w2,hq2,harr2⟩:=ih r1.2 r a1 w1 hA1 h2
   exact⟨e2,a2,w2,hq2,.of_steps (Steps.trans harr (.one step_inLoop)) harr2⟩
  |exit id=>
   have hq':=hq;obtain⟨hn,hA1⟩:=hq';rw[hn] at h2;simp only[Option.some.injEq] at h2;subst h2
   exact⟨.exit id,a1,w1,⟨rfl,hA1⟩,.pass (x:=.inLoop c) rfl (λ_ _=>.inl (by simp)) harr⟩
  |ret=>
   obtain⟨hn,hA1⟩:=hq;rw[hn] at h2;simp only[Option.some.injEq] at h2;subst h2
   exact⟨.ret,a1,w1,⟨rfl,hA1⟩,.pass (x:=.inLoop c) rfl (λ_ _=>.inl (by simp)) harr⟩
  |goto l=>exact hq.elim
  |panic ch=>exact hq.elim
  |outgrown=>exact hq.elim
theorem tH (hS:Sim P F) (hN:cm P=true) (hM:P.follows .mixedOrders=true) (n:Nat):∀(c:Code) (s:CS) (r:CE×CS) (a:Act) (w:World),
  At nt K0 m0 Q0 w0 s a w→cG P A F fid nt n c s=some r→c.wp P (Post nt K0 m0 Q0 w0 r) a w:=by
 intro c
 induction c with
 |skip=>
  intro s r a w hA h;simp only[cG,Option.some.injEq] at h;subst h;exact wp_skip ⟨rfl,hA⟩
 |label l=>
  intro s r a w hA h;simp only[cG,Option.some.injEq] at h;subst h;exact wp_label ⟨rfl,hA⟩
 |region id ops draw=>
  intro s r a w hA h;simp only[cG] at h
  cases draw with
  |true=>
   simp only[if_true,Option.map_eq_some_iff] at h;obtain⟨s',h,rfl⟩:=h;exact MH hS hN hM hA h λa w hA=>⟨rfl,hA.keep _⟩
  |false=>
   simp only[Bool.false_eq_true,if_false,Option.map_eq_some_iff] at h;obtain⟨s',h,rfl⟩:=h;have:=xd (Qx:=Post nt K0 m0 Q0 w0 (.normal,{ sl:=dC (A.keep fid id) s'.sl,m:=s'.m })) hS hN (s':=s') (λa w hA=>⟨rfl,hA.keep _⟩) ops.toList 0 s a w (by simp) hA h;exact wp_region (by simpa using this)
 |seq x y ihx ihy=>
  intro s r a w hA h;simp only[cG,Option.bind_eq_some_iff] at h;obtain⟨r1,h1,h2⟩:=h;refine wp_seq (wp_mono (ihx s r1 a w hA h1) λe a' w' hp=>?_)
  cases e with
  |normal=>
   obtain⟨hn,hA1⟩:=hp;rw[hn] at h2;exact ihy _ r a' w' hA1 h2
  |exit id=>
   obtain⟨hn,hA1⟩:=hp;rw[hn] at h2;simp only[Option.some.injEq] at h2;subst h2
   exact⟨rfl,hA1⟩
  |ret=>
   obtain⟨hn,hA1⟩:=hp;rw[hn] at h2;simp only[Option.some.injEq] at h2;subst h2
   exact⟨rfl,hA1⟩
  |goto l=>exact hp.elim
  |panic ch=>exact hp.elim
  |outgrown=>exact hp.elim
 |cond c x y ihx ihy=>
  intro s r a w hA h;obtain⟨K,Q,hT,hs,_⟩:=hA;have hv:=ev_V hs c;simp only[cG] at h
  split at h
  ·rename_i hc
   rw[hc] at hv;simp only[Vt,V] at hv;exact wp_cond_true hv (ihx s r a w ⟨K,Q,hT,hs,by assumption⟩ h)
  ·rename_i hc
   rw[hc] at hv;simp only[Vt,V] at hv;exact wp_cond_false hv (ihy s r a w ⟨K,Q,hT,hs,by assumption⟩ h)
  ·simp at h
 |block id c ih=>
  intro s r a w hA h;simp only[cG,Option.map_eq_some_iff] at h;obtain⟨r1,h1,h2⟩:=h;refine wp_block (wp_mono (ih s r1 a w hA h1) λe a' w' hp=>?_)
  cases e with
  |normal=>
   obtain⟨hn,hA1⟩:=hp;rw[hn] at h2;simp only at h2;subst h2
   exact⟨hn,hA1⟩
  |exit i=>
   obtain⟨hn,hA1⟩:=hp;rw[hn] at h2;simp only at h2;simp only[Exit.inBlock]
   split at h2
   ·rename_i he
    rw[if_pos he];subst h2
    exact⟨rfl,hA1⟩
   ·rename_i he
    rw[if_neg he];subst h2
    exact⟨hn,hA1⟩
  |ret=>
   obtain⟨hn,hA1⟩:=hp;rw[hn] at h2;simp only at h2;subst h2
   exact⟨hn,hA1⟩
  |goto l=>exact hp.elim
  |panic ch=>exact hp.elim
  |outgrown=>exact hp.elim
 |loop c ih=>
  intro s r a w hA h;simp only[cG] at h;intro b k cs;obtain⟨e,a',w',hq,harr⟩:=xq (P:=P) (λs r a w=>ih s r a w) b k cs n s r a w hA h
  exact⟨e,a',w',hq,.of_steps (.one step_loop) harr⟩
 |exit id=>
  intro s r a w hA h;simp only[cG,Option.some.injEq] at h;subst h;exact wp_exit ⟨rfl,hA⟩
 |ret=>
  intro s r a w hA h;simp only[cG,Option.some.injEq] at h;subst h;exact wp_ret ⟨rfl,hA⟩
 |rangeFunc=>intro s r a w hA h;simp[cG] at h
 |scope=>intro s r a w hA h;simp[cG] at h
 |goto=>intro s r a w hA h;simp[cG] at h
 |refuse=>intro s r a w hA h;simp[cG] at h
end
section
variable {K K':KM}{M:MM}{Q Q':PM}{P:Program}{w w0:World}{m m':Mem}
theorem mS {c:CV}{v:Value}(h:V K M Q false c v):RV1 K M Q w0 w c v none:=by
 cases c
 case own=>simp[V] at h
 all_goals exact⟨rfl,h⟩
theorem pe:∀{cs:List CV}{vs:List Value}{used:List Nat},Vs K M Q false cs vs→RVs K M Q w0 w cs vs used
 |[],vs,used,h=>by simpa[RVs,Vs] using h
 |c::cs,vs,used,h=>by
  simp only[Vs] at h;obtain⟨v,r,rfl,h1,h2⟩:=h;simp only[RVs]
  exact⟨v,r,none,rfl,mS h1,by simp,pe h2⟩
theorem RV_of_V {c:CV}{v:Value}(h:V K M Q false c v):RV K M Q w0 w c v:=by
 cases c
 case tuple cs=>
  simp only[V] at h;obtain⟨vs,rfl,h⟩:=h
  exact⟨vs,rfl,pe h⟩
 all_goals exact⟨none,mS h⟩
structure Off (K:KM) (m:Mem) (Q:PM) (K':KM) (m':Mem) (Q':PM) (w:World):Prop where
 mr:MR K' m'.get Q' w
 kk:∀b o v,K b o=some v→K' b o=some v
 kn:∀b o v,K' b o=some v→K b o=some v∨∃k q,Q k=some q∧q.blk=b
 grow:Grow true m.get Q m'.get Q'
 sub:∀k q,Q' k=some q→Q k=some q
 glob:∀n,Q' (.g n)=Q (.g n)
 hh:m'.H=m.H
theorem Off.trans {K'':KM}{m'':Mem}{Q'':PM}(h:Off K m Q K' m' Q' w) (h':Off K' m' Q' K'' m'' Q'' w):Off K m Q K'' m'' Q'' w:=
 ⟨h'.mr,λb o v hv=>h'.kk _ _ _ (h.kk _ _ _ hv),λb o v hv=>(h'.kn b o v hv).elim (h.kn b o v) λ⟨k,q,hq,he⟩=>.inr ⟨k,q,h.sub k q hq,he⟩,
  h.grow.trans h'.grow,λk q hq=>h.sub k q (h'.sub k q hq),λn=>(h'.glob n).trans (h.glob n),h'.hh.trans h.hh⟩
theorem Look.off (h:Look K m K' m' Q w):Off K m Q K' m' Q w:=⟨h.mr,h.kk,h.kn,h.grow,λ_ _ h=>h,λ_=>rfl,h.hh⟩
theorem Off.refl (h:MR K m.get Q w):Off K m Q K m Q w:=(Look.refl h).off
theorem RV1.off {c:CV}{v:Value}{o:Option Nat}(h:RV1 K m.get Q w0 w c v o) (hO:Off K m Q K' m' Q' w):RV1 K' m'.get Q' w0 w c v o:=by
 have hup:∀c v,V K m.get Q false c v→V K' m'.get Q' false c v:=λc v hv=>V_mono hO.kk hO.grow.sub (λh=>h) hO.grow.sub c v hv;cases c
 case own n sz cs vl=>
  simp only[RV1] at h ⊢;rcases h with h|⟨q,cap,h1,h2,h3,h4,h5,h6,h7,⟨⟨es,t,e1,e2,e3⟩,e4,e5⟩⟩
  ·exact .inl h
  ·refine .inr ⟨q,cap,h1,h2,λk p hp=>h3 k p (hO.sub k p hp),h4,h5,h6,h7,⟨⟨es,t,e1,e2,λi c hc=>?_⟩,e4,λo ho=>?_⟩⟩
   ·obtain⟨l1,u,hu,hVu⟩:=e3 i c hc
    exact⟨l1,u,hu,hup c u hVu⟩
   ·cases hk:K' q.blk o with
    |none=>rfl
    |some v=>
     rcases hO.kn _ _ _ hk with hk'|⟨k,p,hp,he⟩
     ·rw[e5 o ho] at hk';cases hk'
     ·exact absurd he (h3 k p hp)
 all_goals
  simp only[RV1] at h ⊢
  exact⟨h.1,hup _ _ h.2⟩
theorem El (hR:MR K m.get Q w) (hloc:∀j q,Q (.l j)=some q→w0.heap.size≤q.blk) {c c':CV}{v:Value}(hV:V K m.get Q true c v) (h:gD c m=some (c',m')) :
  ∃K' Q' o,Off K m Q K' m' Q' w∧RV1 K' m'.get Q' w0 w c' v o∧(∀b,o=some b→(∃k q,Q k=some q∧q.blk=b)∧∀k q,Q' k=some q→q.blk≠b):=by
 have hesc:esc iC c m=some (c',m')→∃K' Q' o,Off K m Q K' m' Q' w∧RV1 K' m'.get Q' w0 w c' v o∧(∀b,o=some b→(∃k q,Q k=some q∧q.blk=b)∧∀k q,Q' k=some q→q.blk≠b):=by
  intro h;obtain⟨K',hl,hv,_⟩:=vW (K:=K) iC K c c' m m' v hR hV h
  exact⟨K',Q,none,hl.off,mS hv,by simp⟩
 unfold gD at h
 split at h
 ·rename_i j gn off len
  split at h
  ·rename_i g sz cs vl hget
   split at h
   ·rename_i hg
    subst hg;simp only[Option.some.injEq,Prod.mk.injEq] at h;obtain⟨rfl,rfl⟩:=h;have hget':m.get (.l j)=some (.arr g sz cs vl):=hget;simp only[V] at hV;obtain⟨_,y,a,cap,hy,_,rfl,hlc,_,hra⟩:=hV;rw[hget'] at hy;simp only[Option.some.injEq] at hy;subst hy;obtain⟨sz',cs',vl',he,hra⟩:=hra rfl;simp only[HO.arr.injEq,true_and] at he;obtain⟨rfl,rfl,rfl⟩:=he;have hgen:∀y,m.get (.l j)=some y→y.gn<(HO.arr (g+1) sz [] 0).gn:=by
     intro y hy;rw[hget'] at hy;simp only[Option.some.injEq] at hy;subst hy;exact Nat.lt_succ_self g
    have hG:Grow true m.get Q (m.set (.l j) (.arr (g+1) sz [] 0)).get (bB Q (.l j) none):=by
     rw[bQ m _ _ _ hget'];exact Grow.upd λy hy=>⟨Nat.le_of_lt (hgen y hy),λhe=>absurd he (Nat.ne_of_lt (hgen y hy))⟩
    have hsub:∀k q,bB Q (.l j) none k=some q→Q k=some q:=by
     intro k q hq;simp only[bB] at hq
     split at hq
     ·cases hq
     ·exact hq
    have hO:Off K m Q K (m.set (.l j) (.arr (g+1) sz [] 0)) (bB Q (.l j) none) w:=by
     refine⟨?_,λ_ _ _ h=>h,λ_ _ _ h=>.inl h,hG,hsub,λn=>by simp[bB],rfl⟩
     rw[bQ m _ _ _ hget'];exact hR.place hgen (by simp) (by intro q hq;simp[bB] at hq)
    rcases hra with hc0|⟨q,hq,rfl,hb1,hb2⟩
    ·refine⟨K,_,none,hO,.inl ⟨rfl,by omega,?_,a,?_⟩,by simp⟩
     ·have:len=0:=by omega
      subst this;simp
     ·have:len=0:=by omega
      subst this hc0;rfl
    ·have hcell:CellsOK K m.get Q w (en (.l j) (.arr g sz cs vl)) cs vl q:=hR.objs (.l j) _ hget' q hq
     have hne:∀k p,bB Q (.l j) none k=some p→p.blk≠q.blk:=by
      intro k p hp he;have h1:=hR.inj _ _ _ _ (hsub k p hp) hq he;subst h1;simp[bB] at hp
     have hlen:((cs.drop off).take (len*sz)).length=len*sz:=by simp;omega
     obtain⟨⟨es,t,e1,e2,e3⟩,e4,e5⟩:=hcell
     refine⟨K,_,some q.blk,hO,.inr ⟨⟨q.blk,q.base+off,q.bsz⟩,cap,rfl,hloc j q hq,hne,rfl,hlc,hb1,by omega,⟨⟨es,t,e1,e2,λi c hc=>?_⟩,?_,λo ho=>e5 o (by simp only at ho;omega)⟩⟩,?_⟩
     ·rw[List.getElem?_take] at hc
      split at hc
      ·rw[List.getElem?_drop] at hc
       obtain⟨l1,u,hu,hVu⟩:=e3 _ c hc
       exact⟨l1,u,by simp only;rw[Nat.add_assoc];exact hu,V_mono (λ_ _ _ h=>h) hG.sub (λh=>h) hG.sub c u hVu⟩
      ·cases hc
     ·have:=Nat.mul_le_mul_right sz hlc
      simp only;omega
     ·intro b hb
      simp only[Option.some.injEq] at hb;subst hb
      exact⟨⟨_,q,hq,rfl⟩,hne⟩
   ·simp at h
  ·simp at h
 ·exact hesc h
theorem p0 (w0:World):∀(cs:List CV) (cs':List CV) (vs:List Value) (K:KM) (m m':Mem) (Q:PM) (used:List Nat),MR K m.get Q w→(∀j q,Q (.l j)=some q→w0.heap.size≤q.blk)→(∀b∈used,∀k q,Q k=some q→q.blk≠b) →
  Vs K m.get Q true cs vs→am gD cs m=some (cs',m')→∃K' Q',Off K m Q K' m' Q' w∧RVs K' m'.get Q' w0 w cs' vs used
 |[],cs',vs,K,m,m',Q,used,hR,_,_,hV,h=>by
  simp only[am,Option.some.injEq,Prod.mk.injEq] at h;obtain⟨rfl,rfl⟩:=h;simp only[Vs] at hV;subst hV
  exact⟨K,Q,Off.refl hR,rfl⟩
 |c::cs,cs',vs,K,m,m',Q,used,hR,hloc,hu,hV,h=>by
  simp only[am,Option.bind_eq_some_iff,Option.map_eq_some_iff,Prod.mk.injEq] at h;obtain⟨⟨c1,m1⟩,h1,⟨cs1,m2⟩,h2,rfl,rfl⟩:=h;simp only[Vs] at hV;obtain⟨v,r,rfl,hv,hr⟩:=hV;obtain⟨K1,Q1,o,hO,hRV,ho⟩:=El hR hloc hv h1;have hu':∀b∈o.toList++used,∀k q,Q1 k=some q→q.blk≠b:=by
   intro b hb k q hq;simp only[List.mem_append,Option.mem_toList] at hb;rcases hb with hb|hb
   ·exact(ho b hb).2 k q hq
   ·exact hu b hb k q (hO.sub _ _ hq)
  obtain⟨K2,Q2,hO2,hRs⟩:=p0 w0 cs cs1 r K1 m1 m2 Q1 (o.toList++used) hO.mr (λj q hq=>hloc j q (hO.sub _ _ hq)) hu'
   (Vs_mono hO.kk hO.grow.sub (λh=>h) hO.grow cs r hr) h2
  refine⟨K2,Q2,hO.trans hO2,?_⟩
  simp only[RVs]
  refine⟨v,r,o,rfl,hRV.off hO2,λb hb hm=>?_,hRs⟩
  obtain⟨⟨k,q,hq,he⟩,_⟩:=ho b hb;exact hu b hm k q hq he
def kd (tmps:Array Value):ResultVar→Sem Value
 |.tmp t=>pure (tmps.getD t undef)
 |.cell b t=>do loadVar t (←asAddr (tmps.getD b undef))
theorem ue (fn:Func) (tmps:Array Value):results fn tmps=(do let vs ←fn.results.mapM (kd tmps);pure (if h:vs.size=1 then vs[0] else .tuple vs)):=by
 unfold results
 congr 1
theorem om {sl:List CV}{a:Act}(hR:MR K m.get Q w) (hs:Slots K m Q sl a):∀(rs:List ResultVar) (vs:List CV),ii P sl m rs=some vs →
  ∃us:List Value,us.length=rs.length∧(∀(i:Nat) (r:ResultVar),rs[i]?=some r→∃u,us[i]?=some u∧(kd a.tmps r).run P w=.ok u w)∧Vs K m.get Q true vs us
 |[],vs,h=>by
  simp only[ii,Option.some.injEq] at h;subst h
  exact⟨[],rfl,λi r hr=>by simp at hr,by simp[Vs]⟩
 |r::rs,vs,h=>by
  simp only[ii,Option.bind_eq_some_iff,Option.map_eq_some_iff] at h;obtain⟨c,hc,cs,h,rfl⟩:=h;obtain⟨us,h1,h2,h3⟩:=om hR hs rs cs h;have key:∃u,(kd a.tmps r).run P w=.ok u w∧V K m.get Q true c u:=by
   cases r with
   |tmp t=>
    simp only[Ei,Option.some.injEq] at hc;subst hc
    exact⟨_,rfl,hs t⟩
   |cell b t=>
    simp only[Ei] at hc;have hp:∃x,a.tmps.getD b undef=.pointer (some x):=by
     have hb:=hs b;have hex:(∃k g o,bH sl b=.ptr k g o)∨∃cs,bH sl b=.rptr cs:=by
      generalize bH sl b=p at hc;unfold eW at hc
      split at hc
      ·simp only[Option.bind_eq_some_iff,Option.map_eq_some_iff] at hc
       obtain⟨n,_,cs,hc,_⟩:=hc
       cases p<;>simp[bN] at hc ⊢
      ·simp only[Option.bind_eq_some_iff] at hc
       obtain⟨cs,hc,_⟩:=hc
       cases p<;>simp[bN] at hc ⊢
      ·simp at hc
     rcases hex with⟨k,g,o,he⟩|⟨cs,he⟩
     ·rw[he] at hb
      simp only[Vt,V] at hb;obtain⟨_,_,x,_,_,hx,_⟩:=hb
      exact⟨x,hx⟩
     ·rw[he] at hb
      simp only[Vt,V] at hb;obtain⟨_,_,_,hx,_⟩:=hb
      exact⟨_,hx⟩
    obtain⟨x,hx⟩:=hp;obtain⟨u,h1,h2⟩:=pE hR (hs b) hc
    refine⟨u,?_,h2⟩
    rw[hx] at h1;simp only[kd,hx];simpa[Instr.loadAt,Instr.sureAddr,asAddr] using h1
  obtain⟨u,hu1,hu2⟩:=key
  refine⟨u::us,by simp[h1],λi r' hr'=>?_,?_⟩
  ·cases i with
   |zero=>simp only[List.getElem?_cons_zero,Option.some.injEq] at hr';subst hr';exact⟨u,rfl,hu1⟩
   |succ i=>simp only[List.getElem?_cons_succ] at hr' ⊢;exact h2 i r' hr'
  ·simp only[Vs]
   exact⟨u,us,rfl,hu2,h3⟩
end
end Go.Cm
namespace Go.Cm
section
variable {P:Program}{A:Ann}
theorem mJ (H:List HO):({ L:=[],H:=H }:Mem).get=gm H:=by
 funext k
 cases k<;>simp[Mem.get,gm,aK]
theorem pw {F:aW}(hS:Sim P F) (hN:cm P=true) (hM:P.follows .mixedOrders=true) {f:FuncId}{fn:Func}{c:Code}{n:Nat}{args:List CV}{H:List HO}{r:CE×CS}{vs xs:List CV}{m':Mem}
  (hf:P.funcs[f]?=some fn) (hb:fn.body=some c) (hlen:args.length≤fn.ntmps) (he:cG P A F f fn.ntmps n c { sl:=args,m:={ L:=[],H:=H } }=some r) (hne:∀i,r.1≠.exit i)
  (hv:ii P r.2.sl r.2.m fn.results.toList=some vs) (hx:am gD vs r.2.m=some (xs,m')):SimAt P f args H (tup xs) m'.H:=by
 refine⟨⟨fn,hf,by rw[hb];rfl⟩,λK Q w us hR hV=>?_⟩
 have hl:=bT hV;simp only[Array.length_toList] at hl;have hA:At fn.ntmps K { L:=[],H:=H } Q w { sl:=args,m:={ L:=[],H:=H } } { tmps:=us++Array.replicate (fn.ntmps - us.size) undef,defers:=[] } w:=by
  refine⟨K,Q,Trans.refl (by rw[mJ];exact hR),λt=>?_,by simp;omega,rfl⟩
  show Vt K { L:=[],H:=H } Q (bH args t) _;have hget:∀(l:List CV) (t:Nat),bH l t=(l[t]?).getD .dead:=by
   intro l
   induction l with
   |nil=>intro t;simp[bH]
   |cons x l ih=>intro t;cases t<;>simp[bH,ih]
  rw[hget]
  cases ht:args[t]? with
  |none=>simp[Vt,V]
  |some x=>
   obtain⟨v,h1,h2⟩:=dX hV ht;have hlt:t<us.size:=by
    have:=(List.getElem?_eq_some_iff.1 ht).1;omega
   have:(us++Array.replicate (fn.ntmps - us.size) undef).getD t undef=v:=by
    rw[Array.getD_eq_getD_getElem?,Array.getElem?_append_left hlt];rw[Array.getElem?_toList] at h1;rw[h1];rfl
   simp only[this,Option.getD_some,Vt];rw[mJ];exact rx h2
 refine calls_of_wp hf hb (wp_mono (tH hS hN hM n c _ r _ w hA he) λe a w' hp=>?_);have fin:At fn.ntmps K { L:=[],H:=H } Q w r.2 a w'→a.defers=[]∧∃v,(results fn a.tmps).run P w'=.ok v w'∧(λe w'=>∃v K' Q',e=Ending.returned v∧MR K' (gm m'.H) Q' w'∧Since w H K Q w' m'.H K' Q'∧RV K' (gm m'.H) Q' w w' (tup xs) v) (.returned v) w':=by
  rintro⟨K1,Q1,hT,hs,hsz,hd⟩
  refine⟨hd,?_⟩
  have hQl:∀j,Q (.l j)=none:=by
   intro j
   cases hq:Q (.l j) with
   |none=>rfl
   |some q=>obtain⟨⟨x,hx⟩,_⟩:=hR.dom _ _ hq;simp[gm] at hx
  have hloc:∀j q,Q1 (.l j)=some q→w.heap.size≤q.blk:=by
   intro j q hq;rcases hT.pn _ _ hq with⟨q0,h0,_⟩|⟨h1,_⟩
   ·rw[hQl] at h0;cases h0
   ·exact h1
  obtain⟨ul,hu1,hu2,hu3⟩:=om hT.mr hs _ _ hv;obtain⟨K2,Q2,hO,hRs⟩:=p0 w vs xs ul K1 r.2.m m' Q1 [] hT.mr hloc (by simp) hu3 hx;have hmap:(fn.results.mapM (kd a.tmps)).run P w'=.ok ul.toArray w':=by
   rw[Array.mapM_eq_mapM_toList];have key:∀(rs:List ResultVar) (ul:List Value),ul.length=rs.length→(∀(i:Nat) (r:ResultVar),rs[i]?=some r→∃u,ul[i]?=some u∧(kd a.tmps r).run P w'=.ok u w') →
     (rs.mapM (kd a.tmps)).run P w'=.ok ul w':=by
    intro rs
    induction rs with
    |nil=>intro ul hl _;have:ul=[]:=List.eq_nil_of_length_eq_zero hl;subst this;rfl
    |cons r rs ih=>
     intro ul hl h;obtain⟨u,h1,h2⟩:=h 0 r (by simp)
     cases ul with
     |nil=>simp at hl
     |cons u' ul=>
      simp only[List.getElem?_cons_zero,Option.some.injEq] at h1;subst h1;have ih':=ih ul (by simpa using hl) λi r' hr'=>by simpa using h (i+1) r' (by simpa using hr')
      rw[List.mapM_cons,Sem.run_bind,h2,Result.andThen_ok,Sem.run_bind,ih',Result.andThen_ok,Sem.run_pure]
   rw[Sem.run_map,key fn.results.toList ul hu1 λi r hr=>by
    obtain⟨u,h1,h2⟩:=hu2 i r hr
    exact⟨u,h1,h2⟩]
   rfl
  have hrun:(results fn a.tmps).run P w'=.ok (if h:ul.toArray.size=1 then ul.toArray[0] else .tuple ul.toArray) w':=by
   rw[ue,Sem.run_bind,hmap,Result.andThen_ok,Sem.run_pure]
  refine⟨_,hrun,_,K2,gp Q2,rfl,hO.mr.glob,⟨?_,?_,?_,?_,?_,?_,hT.io⟩,?_⟩
  ·exact λb hb hne=>hT.frame b hb hne
  ·exact hT.size
  ·exact λb o v h=>hO.kk _ _ _ (hT.kk _ _ _ h)
  ·intro b o v h
   rcases hO.kn _ _ _ h with h|⟨k,q,hq,he⟩
   ·exact hT.kn _ _ _ h
   ·rcases hT.pn _ _ hq with⟨q0,h0,he0⟩|⟨h1,_⟩
    ·exact .inr (.inl ⟨k,q0,h0,by omega⟩)
    ·exact .inr (.inr (by omega))
  ·have hg1:=hT.grow.trans hO.grow
   rw[mJ] at hg1;intro k x hk hx
   cases k with
   |l j=>simp[keyOK] at hk
   |g n=>
    obtain⟨x',hx',hle,hp⟩:=hg1 (.g n) x trivial hx
    exact⟨x',hx',hle,hp⟩
  ·intro k q hq
   cases k with
   |l j=>simp[gp] at hq
   |g n=>
    have hq1:=hO.sub _ _ hq;have:=hT.pn' hO.grow hq1;rw[mJ] at this;rcases this with h|⟨h1,h2⟩
    ·exact .inl h
    ·exact .inr ⟨h1,λh hh=>h2 h hh⟩
  ·have hG:=Grow.glob (m:=m') (Q:=Q2)
   have hRs':RVs K2 (gm m'.H) (gp Q2) w w' xs ul []:=hRs.mono (λc v hg hv=>by
    rcases hg with hg|hg
    ·exact noG_V c v hg hv
    ·exact V_mono (λ_ _ _ h=>h) hg (λh=>h) hg c v hv) (.inr hG) (λb _ hne k p hp=>by
     cases k with
     |l j=>simp[gp] at hp
     |g n=>exact hne _ p hp)
   have hxl:xs.length=ul.length:=by
    clear hrun hmap;have:∀(xs:List CV) (ul:List Value) (used:List Nat),RVs K2 (gm m'.H) (gp Q2) w w' xs ul used→xs.length=ul.length:=by
     intro xs
     induction xs with
     |nil=>intro ul used h;simp only[RVs] at h;simp[h]
     |cons c cs ih=>
      intro ul used h;simp only[RVs] at h;obtain⟨v,r,o,rfl,_,_,h⟩:=h;simp[ih _ _ h]
    exact this _ _ _ hRs'
   by_cases h1:ul.length=1
   ·obtain⟨u,rfl⟩:=List.length_eq_one_iff.1 h1
    obtain⟨x,rfl⟩:=List.length_eq_one_iff.1 (hxl.trans h1);simp only[RVs] at hRs';obtain⟨v,r,o,hvr,hr1,_⟩:=hRs';simp only[List.cons.injEq] at hvr;obtain⟨rfl,_⟩:=hvr;show RV _ _ _ _ _ (tup [x]) u;simp only[tup];cases x
    case tuple cs=>
     simp only[RV1] at hr1;exact RV_of_V hr1.2
    all_goals exact⟨o,hr1⟩
   ·have h2:¬ul.toArray.size=1:=by simpa using h1
    rw[dif_neg h2];have htup:tup xs=.tuple xs:=by
     unfold tup;split
     ·simp at hxl;omega
     ·rfl
    rw[htup]
    exact⟨_,rfl,hRs'⟩
 cases e with
 |normal=>exact fin hp.2
 |ret=>exact fin hp.2
 |exit i=>exact absurd hp.1 (hne i)
 |goto l=>exact hp.elim
 |panic ch=>exact hp.elim
 |outgrown=>exact hp.elim
theorem wY {E:aW}(hE:Sim P E) (hN:cm P=true) (hM:P.follows .mixedOrders=true):∀n,Sim P (kz P A E n):=by
 intro n
 induction n with
 |zero=>intro f args H r H' h;simp[kz] at h
 |succ n ih=>
  intro f args H r H' h;simp only[kz] at h
  split at h
  ·rename_i r' hr
   simp only[Option.some.injEq] at h;subst h;exact hE _ _ _ _ _ hr
  ·split at h
   ·simp at h
   ·rename_i fn hfn
    split at h
    ·simp at h
    ·rename_i c hc
     split at h
     ·rename_i hlen
      simp only[Option.bind_eq_some_iff] at h;obtain⟨r1,he,h⟩:=h
      split at h
      ·simp at h
      ·rename_i hne
       simp only[Option.bind_eq_some_iff,Option.map_eq_some_iff,Prod.mk.injEq] at h;obtain⟨vs,hv,⟨xs,m'⟩,hx,rfl,rfl⟩:=h;exact pw ih hN hM hfn hc hlen he (λi hi=>hne i hi) hv hx
     ·simp at h
end
end Go.Cm
