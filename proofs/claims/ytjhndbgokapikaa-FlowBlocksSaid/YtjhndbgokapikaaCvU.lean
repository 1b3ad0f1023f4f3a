import Derived.Test.YtjhndbgokapikaaCvQ
set_option linter.unusedSimpArgs false
set_option linter.unusedVariables false
namespace Go.Cm
mutual
theorem beq_eq:∀(a b:CV),CV.beq a b=true→a=b
 |.dead,b,h=>by cases b<;>simp_all [CV.beq]
 |.bool x,b,h=>by cases b<;>simp_all [CV.beq]
 |.int k x,b,h=>by cases b<;>simp_all [CV.beq]
 |.str s,b,h=>by cases b<;>simp_all [CV.beq]
 |.agg xs,b,h=>by
  cases b<;>simp only[CV.beq,Bool.false_eq_true] at h
  rw[beqs_eq _ _ h]
 |.nil,b,h=>by cases b<;>simp_all [CV.beq]
 |.imm n xs,b,h=>by
  cases b<;>simp only[CV.beq,Bool.false_eq_true,Bool.and_eq_true,decide_eq_true_eq] at h
  rw[beqs_eq _ _ h.2,h.1]
 |.own n s xs v,b,h=>by
  cases b<;>simp only[CV.beq,Bool.false_eq_true,Bool.and_eq_true,decide_eq_true_eq] at h
  rw[beqs_eq _ _ h.2,h.1.1.1,h.1.1.2,h.1.2]
 |.ref k g o l,b,h=>by cases b<;>simp_all [CV.beq]
 |.pnil,b,h=>by cases b<;>simp_all [CV.beq]
 |.ptr k g o,b,h=>by cases b<;>simp_all [CV.beq]
 |.rptr xs,b,h=>by
  cases b<;>simp only[CV.beq,Bool.false_eq_true] at h
  rw[beqs_eq _ _ h]
 |.mnil,b,h=>by cases b<;>simp_all [CV.beq]
 |.map k g,b,h=>by cases b<;>simp_all [CV.beq]
 |.func f x y,b,h=>by
  cases b<;>simp only[CV.beq,Bool.false_eq_true,Bool.and_eq_true,decide_eq_true_eq] at h
  rw[h.1.1,beqs_eq _ _ h.1.2,beqs_eq _ _ h.2]
 |.nilf,b,h=>by cases b<;>simp_all [CV.beq]
 |.inil,b,h=>by cases b<;>simp_all [CV.beq]
 |.iface t v,b,h=>by
  cases b<;>simp only[CV.beq,Bool.false_eq_true,Bool.and_eq_true,decide_eq_true_eq] at h
  rw[h.1,beq_eq _ _ h.2]
 |.tuple xs,b,h=>by
  cases b<;>simp only[CV.beq,Bool.false_eq_true] at h
  rw[beqs_eq _ _ h]
theorem beqs_eq:∀(a b:List CV),beqs a b=true→a=b
 |[],b,h=>by cases b<;>simp_all [beqs]
 |x::a,b,h=>by
  cases b with
  |nil=>simp[beqs] at h
  |cons y b=>
   simp only[beqs,Bool.and_eq_true] at h;rw[beq_eq _ _ h.1,beqs_eq _ _ h.2]
end
theorem gy:∀(l:List Oper) (acc:List Nat) (i:Nat),i<acc.length→(cy l acc)[i]?=acc[i]?
 |[],acc,i,_=>by simp[cy]
 |o::r,acc,i,h=>by
  rw[cy,gy r _ i (by simp;omega),List.getElem?_append_left h]
theorem rA (r:List Oper) (acc:List Nat):(cy r acc).take acc.length=acc:=by
 apply List.ext_getElem?
 intro i;rw[List.getElem?_take];split
 ·rename_i hi
  rw[gy r _ i hi]
 ·rw[List.getElem?_eq_none (by omega)]
theorem tq (l:List Oper):∀(acc:List Nat) (j:Nat) (o:Oper),l[j]?=some o→(cy l acc)[acc.length+j]?=some (pq ((cy l acc).take (acc.length+j)) o):=by
 induction l with
 |nil=>intro acc j o h;simp at h
 |cons o' r ih=>
  intro acc j o h
  cases j with
  |zero=>
   simp only[List.getElem?_cons_zero,Option.some.injEq] at h;subst h;rw[cy,gy r _ _ (by simp),Nat.add_zero];have h2:=rA r (acc++[pq acc o']);have h3:(cy r (acc++[pq acc o'])).take acc.length=acc:=by
    have:=congrArg (List.take acc.length) h2;rw[List.take_take] at this;simpa using this
   rw[h3];simp
  |succ j=>
   simp only[List.getElem?_cons_succ] at h;have:=ih (acc++[pq acc o']) j o h;rw[cy];rw[List.length_append,List.length_singleton] at this;rw[show acc.length+(j+1)=acc.length+1+j from by omega];exact this
theorem nJ {P:Edge→Bool}{g:Edge→Nat}{i:Nat}:∀(es:List Edge) (s:Nat),(es.foldl (λs e=>if P e then s ||| g e else s) s).testBit i=true →
  s.testBit i=true∨∃e∈es,P e=true∧(g e).testBit i=true
 |[],s,h=>.inl h
 |e::es,s,h=>by
  simp only[List.foldl_cons] at h;rcases nJ es _ h with h|⟨e',he',h1,h2⟩
  ·split at h
   ·rename_i hp
    rw[Nat.testBit_or,Bool.or_eq_true] at h;rcases h with h|h
    ·exact .inl h
    ·exact .inr ⟨e,List.mem_cons_self,hp,h⟩
   ·exact .inl h
  ·exact .inr ⟨e',List.mem_cons_of_mem _ he',h1,h2⟩
theorem xu {l:List Oper}{j:Nat}{o:Oper}(ho:l[j]?=some o) {i:Nat}(h:((cy l []).getD j 0).testBit i=true) (hb:∀e∈o.after.toList,Region.binds .any e=true→e.on<j) :
  ∃e∈o.after.toList,Region.binds .any e=true∧(i=e.on∨((cy l []).getD e.on 0).testBit i=true):=by
 have hg:=tq l [] j o ho;simp only[List.length_nil,Nat.zero_add] at hg;rw[List.getD_eq_getElem?_getD,hg,Option.getD_some,pq] at h;rcases nJ _ _ h with h|⟨e,he,h1,h2⟩
 ·simp at h
 ·refine⟨e,he,h1,?_⟩
  rw[Nat.testBit_or,Bool.or_eq_true] at h2;rcases h2 with h2|h2
  ·left
   rw[Nat.testBit_two_pow] at h2;simpa[eq_comm] using h2
  ·right
   have hlt:=hb e he h1;rw[List.getD_eq_getElem?_getD,List.getElem?_take,if_pos hlt] at h2;rw[List.getD_eq_getElem?_getD];exact h2
section
variable {P:Program}{ops:List Oper}{masks:List Nat}
theorem oo {j:Nat}{y:Oper}{my:Nat}:∀(l:List Oper) (i0:Nat),sD P ops j y my i0 l=true→∀(k:Nat) (x:Oper),l[k]?=some x→i0+k<j→iW P ops (i0+k) j x y my=true
 |[],_,_,k,x,hx,_=>by simp at hx
 |x0::r,i0,h,k,x,hx,hk=>by
  simp only[sD] at h;rw[if_pos (by omega)] at h;simp only[Bool.and_eq_true] at h
  cases k with
  |zero=>simp only[List.getElem?_cons_zero,Option.some.injEq] at hx;subst hx;exact h.1
  |succ k=>
   simp only[List.getElem?_cons_succ] at hx;have:=oo r (i0+1) h.2 k x hx (by omega)
   rwa [show i0+1+k=i0+(k+1) from by omega] at this
theorem jZ:∀(l:List Oper) (j0:Nat),ol P ops masks j0 l=true→∀(k:Nat) (y:Oper),l[k]?=some y →
  sD P ops (j0+k) y (masks.getD (j0+k) 0) 0 ops=true∧∀e∈y.after.toList,Region.binds .any e=true→e.on<j0+k
 |[],_,_,k,y,hy=>by simp at hy
 |y0::r,j0,h,k,y,hy=>by
  simp only[ol,Bool.and_eq_true] at h
  cases k with
  |zero=>
   simp only[List.getElem?_cons_zero,Option.some.injEq] at hy;subst hy
   refine⟨h.1.1,λe he hb=>?_⟩
   have:=List.all_eq_true.1 h.1.2 e he;simpa[hb] using this
  |succ k=>
   simp only[List.getElem?_cons_succ] at hy;have:=jZ r (j0+1) h.2 k y hy
   rwa [show j0+1+k=j0+(k+1) from by omega] at this
structure RegOK (P:Program) (ops:List Oper) (masks:List Nat):Prop where
 back:∀(j:Nat) (y:Oper),ops[j]?=some y→∀e∈y.after.toList,Region.binds .any e=true→e.on<j
 dst:∀(i j:Nat) (x y:Oper) d,ops[i]?=some x→ops[j]?=some y→x.dst=some d→y.dst=some d→i=j
 reads:∀(i j:Nat) (x y:Oper) d,i<j→ops[i]?=some x→ops[j]?=some y→x.dst=some d→d∈cg ops y→(masks.getD j 0).testBit i=true
 writes:∀(i j:Nat) (x y:Oper) d,i<j→ops[i]?=some x→ops[j]?=some y→y.dst=some d→d∈cg ops x→(masks.getD j 0).testBit i=true
 effs:∀(i j:Nat) (x y:Oper),i<j→ops[i]?=some x→ops[j]?=some y→bt P x=true→bt P y=true→(masks.getD j 0).testBit i=true
theorem RegOK.of (h:ol P ops masks 0 ops=true):RegOK P ops masks:=by
 have key:∀i j x y,i<j→ops[i]?=some x→ops[j]?=some y→iW P ops i j x y (masks.getD j 0)=true:=by
  intro i j x y hij hx hy;have h1:=(jZ ops 0 h j y hy).1;rw[Nat.zero_add] at h1;have:=oo ops 0 h1 i x hx (by omega)
  rwa [Nat.zero_add] at this
 refine⟨λj y hy e he hb=>?_,λi j x y d hx hy hdx hdy=>?_,λi j x y d hij hx hy hd hl=>?_,λi j x y d hij hx hy hd hl=>?_,λi j x y hij hx hy h1 h2=>?_⟩
 ·have:=(jZ ops 0 h j y hy).2 e he hb
  omega
 ·rcases Nat.lt_trichotomy i j with hij|hij|hij
  ·have:=key i j x y hij hx hy
   simp[iW,hdx,hdy] at this
  ·exact hij
  ·have:=key j i y x hij hy hx
   simp[iW,hdx,hdy] at this
 ·have:=key i j x y hij hx hy
  simp only[iW,hd,Bool.and_eq_true,Bool.or_eq_true] at this;rcases this.1.1.1.2 with h|h
  ·simp[hl] at h
  ·exact h
 ·have:=key i j x y hij hx hy
  simp only[iW,hd,Bool.and_eq_true,Bool.or_eq_true] at this;rcases this.1.1.2 with h|h
  ·simp[hl] at h
  ·exact h
 ·have:=key i j x y hij hx hy
  simp only[iW,h1,h2,Bool.and_eq_true,Bool.or_eq_true] at this;rcases this.1.2 with h|h
  ·simp at h
  ·exact h
end
end Go.Cm
namespace Go.Cm
section
variable {K K2:KM}{Q Q2:PM}{P:Program}{w w2 w3:World}{m m2 m3:Mem}{A:Ann}{F:aW}{fid:FuncId}{nt:Nat}
theorem xH (Q:PM) {key:Key}(h:Q key=none) (q:Option Pl) (k:Key) (p:Pl) (hk:Q k=some p):bB Q key q k=some p:=by
 simp only[bB];split
 ·rename_i he;subst he;rw[h] at hk;cases hk
 ·exact hk
theorem Trans.fill (hT:Trans K m Q w K2 m2 Q2 w2) {key:Key}{x:HO}(hx:m2.get key=some x) (hq:Q2 key=none) (hgen:∀y,m.get key=some y→y.gn<x.gn)
  {z:List CV}{g:Nat}(hxv:x=.var g z 0) {es:Array Value}{t:TypeId}(hall:z.all bE=true) (hV:Cm.Vs K2 m2.get Q2 false z es.toList) (hw:Pushed w2 w3 (.cells es t (0,0))) :
  Trans K m Q w K2 m2 (bB Q2 key (some ⟨w2.heap.size,0,es.size⟩)) w3∧Grow true m2.get Q2 m2.get (bB Q2 key (some ⟨w2.heap.size,0,es.size⟩)):=by
 have hsz:w3.heap.size=w2.heap.size+1:=by rw[hw.1];simp
 have hold:∀b,b<w2.heap.size→w3.heap[b]?=w2.heap[b]?:=λb hb=>by rw[hw.1,Array.getElem?_push];rw[if_neg (by omega)]
 have hG:Grow true m2.get Q2 m2.get (bB Q2 key (some ⟨w2.heap.size,0,es.size⟩)):=by
  intro k y _ hy
  exact⟨y,hy,Nat.le_refl _,λ_=>⟨λp hp=>xH Q2 hq _ k p hp,λ_ _ cs vl h'=>⟨cs,vl,h',Nat.le_refl _⟩⟩⟩
 have hlen:=bT hV
 refine⟨⟨⟨λb o v hv=>?_,λk y hy=>?_,λk1 k2 q1 q2 h1 h2 he=>?_,λk q1 h1=>?_,λk g' cs' vl' q1 h1 h2=>by
  simp only[bB] at h2
  split at h2
  ·simp only[Option.some.injEq] at h2;subst h2;rfl
  ·exact hT.mr.v0 _ _ _ _ _ h1 h2⟩,hT.kk,hT.grow.trans hG,by have:=hT.size;omega,λb hb hne=>?_,hT.kn,λk q hq'=>?_,hT.io.trans (hw.kept (.inl ⟨_,_,rfl⟩))⟩,hG⟩
 ·have hc:=hT.mr.stab b o v hv
  rw[cQ (hold b (World.block_lt_of_cell? _ _ hc))];exact hc
 ·by_cases he:key=k
  ·subst he
   rw[hx] at hy;simp only[Option.some.injEq] at hy;subst hy;intro q hq';simp only[bB,if_true,Option.some.injEq] at hq';subst hq';subst hxv
   refine(show CellsOK K2 m2.get (bB Q2 key (some ⟨w2.heap.size,0,es.size⟩)) w3 (en key (.var g z 0)) z 0 ⟨w2.heap.size,0,es.size⟩ from⟨⟨es,t,by rw[hw.1];simp,rfl,λi c hc=>?_⟩,?_,λo _=>?_⟩)
   ·obtain⟨v,h1,h2⟩:=dX hV hc
    refine⟨List.all_eq_true.1 hall c (List.mem_of_getElem? hc),v,by simpa using h1,?_⟩
    exact V_mono (λ_ _ _ h=>h) hG.sub (by simp) hG.sub c v h2
   ·simp only[Array.length_toList] at hlen
    simp only[Nat.zero_add];omega
   ·cases hk':K2 w2.heap.size o with
    |none=>rfl
    |some v=>
     have:=World.block_lt_of_cell? _ _ (hT.mr.stab _ _ _ hk');simp at this
  ·exact(hT.mr.objs k y hy).mono (λ_ _ _ h=>h) hG (λq1 h1=>by simpa[bB,he] using h1) (λq1 h1=>hold _ (hT.mr.dom _ _ h1).2) (λ_ _ _ _ h=>h)
 ·simp only[bB] at h1 h2
  split at h1<;>split at h2
  ·rename_i a b;rw[←a,←b]
  ·simp only[Option.some.injEq] at h1;subst h1
   have:=(hT.mr.dom _ _ h2).2;simp only at he;omega
  ·simp only[Option.some.injEq] at h2;subst h2
   have:=(hT.mr.dom _ _ h1).2;simp only at he;omega
  ·exact hT.mr.inj _ _ _ _ h1 h2 he
 ·simp only[bB] at h1
  split at h1
  ·rename_i a
   simp only[Option.some.injEq] at h1;subst h1 a
   exact⟨⟨x,hx⟩,by simp only;omega⟩
  ·obtain⟨hy,hlt⟩:=hT.mr.dom k q1 h1
   exact⟨hy,by omega⟩
 ·rw[hold b (Nat.lt_of_lt_of_le hb hT.size)]
  exact hT.frame b hb hne
 ·simp only[bB] at hq'
  split at hq'
  ·rename_i he;subst he
   simp only[Option.some.injEq] at hq';subst hq';exact .inr ⟨hT.size,λy hy=>⟨x,hx,hgen y hy⟩⟩
  ·exact hT.pn k q hq'
structure AlOK (P:Program) (l:List Oper) (i0:Nat) (m0:Mem) (Q1:PM) (b:Al):Prop where
 op:∃o t,l[b.i - i0]?=some o∧i0≤b.i∧o.op=.alloc t∧plainAlloc P o=true∧dk P t=some b.z
 none:Q1 b.key=none
 gen:∀y,m0.get b.key=some y→y.gn<b.gn
theorem xk:∀(l:List Oper) (i:Nat) (m2:Mem) (Q2:PM) (al:List Al) (m3:Mem),Trans K m Q w K2 m2 Q2 w2→Hd P A fid i l m2=some (al,m3) →
  ∃Q3,Trans K m Q w K2 m3 Q3 w2∧Grow true m2.get Q2 m3.get Q3∧(∀b∈al,AlOK P l i m Q3 b)∧(∀k,Q2 k=none→Q3 k=none):=by
 intro l
 induction l with
 |nil=>
  intro i m2 Q2 al m3 hT h;simp only[Hd,Option.some.injEq,Prod.mk.injEq] at h;obtain⟨rfl,rfl⟩:=h
  exact⟨Q2,hT,Grow.refl _ _ _,λb hb=>by simp at hb,λ_ h=>h⟩
 |cons o r ih=>
  intro i m2 Q2 al m3 hT h;have step:∀{al:List Al}{m3:Mem}{m2:Mem}{Q2:PM},Trans K m Q w K2 m2 Q2 w2→Hd P A fid (i+1) r m2=some (al,m3) →
    ∃Q3,Trans K m Q w K2 m3 Q3 w2∧Grow true m2.get Q2 m3.get Q3∧(∀b∈al,AlOK P (o::r) i m Q3 b)∧(∀k,Q2 k=none→Q3 k=none):=by
   intro al m3 m2 Q2 hT h;obtain⟨Q3,h1,h2,h3,h4⟩:=ih (i+1) m2 Q2 al m3 hT h
   refine⟨Q3,h1,h2,λb hb=>?_,h4⟩
   obtain⟨⟨o',t,e1,e2,e3⟩,e4,e5⟩:=h3 b hb
   refine⟨⟨o',t,?_,by omega,e3⟩,e4,e5⟩
   rw[show b.i - i=(b.i - (i+1))+1 from by omega,List.getElem?_cons_succ];exact e1
  simp only[Hd] at h
  split at h
  ·rename_i hp
   split at h
   ·rename_i t ht
    simp only[Option.bind_eq_some_iff,Option.map_eq_some_iff,Prod.mk.injEq] at h;obtain⟨z,hz,⟨al',m4⟩,h,rfl,rfl⟩:=h;obtain⟨hget,hgen⟩:=fN m2 (di (A.glob fid) o.dst) (cW o.dst) (λg=>HO.var g z 0) (λ_=>rfl);generalize (m2.add (di (A.glob fid) o.dst) (cW o.dst) λg=>HO.var g z 0).1=key at *;generalize (m2.add (di (A.glob fid) o.dst) (cW o.dst) λg=>HO.var g z 0).2.1=gn at *;generalize (m2.add (di (A.glob fid) o.dst) (cW o.dst) λg=>HO.var g z 0).2.2=m5 at *;have hG:Grow true m2.get Q2 m5.get (bB Q2 key none):=by
     rw[hget];exact Grow.upd λy hy=>⟨Nat.le_of_lt (hgen y hy),λhe=>absurd he (Nat.ne_of_lt (hgen y hy))⟩
    have hT5:Trans K m Q w K2 m5 (bB Q2 key none) w2:=by
     refine⟨?_,hT.kk,hT.grow.trans hG,hT.size,hT.frame,hT.kn,λk q hq=>?_,hT.io⟩
     ·rw[hget]
      exact hT.mr.place (x:=.var gn z 0) hgen (by simp) (by intro q hq;simp[bB] at hq)
     ·simp only[bB] at hq
      split at hq
      ·simp at hq
      ·exact hT.pn' hG hq
    obtain⟨Q3,h1,h2,h3,h4⟩:=step hT5 h
    refine⟨Q3,h1,hG.trans h2,λb hb=>?_,λk hk=>h4 k ?_⟩
    ·simp only[List.mem_cons] at hb
     rcases hb with rfl|hb
     ·exact⟨⟨o,t,by simp,by simp,ht,hp,hz⟩,h4 _ (by simp[bB]),λy hy=>hT.gen hy hgen⟩
     ·exact h3 b hb
    ·simp only[bB]
     split
     ·rfl
     ·exact hk
   ·simp at h
  ·exact step hT h
theorem rz:∀{al:List Al}{j:Nat}{a:Al},oU al j=some a→a∈al∧a.i=j
 |b::r,j,a,h=>by
  simp only[oU] at h
  split at h
  ·rename_i he
   simp only[Option.some.injEq] at h;subst h
   exact⟨List.mem_cons_self,he⟩
  ·obtain⟨h1,h2⟩:=rz h
   exact⟨List.mem_cons_of_mem _ h1,h2⟩
theorem me:∀{al:List Al},iP al=true→∀a∈al,∀b∈al,a.key=b.key→a=b
 |x::r,h,a,ha,b,hb,he=>by
  simp only[iP,Bool.and_eq_true,List.all_eq_true,decide_eq_true_eq] at h;simp only[List.mem_cons] at ha hb;rcases ha with rfl|ha<;>rcases hb with rfl|hb
  ·rfl
  ·exact absurd he (h.1 b hb)
  ·exact absurd he.symm (h.1 a ha)
  ·exact me h.2 a ha b hb he
def slF (rows:List Row) (sl:List CV):List CV:=rows.foldl (λs x=>eu s x.o.dst x.v) sl
def mF (rows:List Row) (m:Mem):Mem:=rows.foldl (λ_ x=>x.m') m
theorem rK {ops:List Oper}{al:List Al}{i:Nat}{o:Oper}{sl:List CV}{m:Mem}{x:Row}(h:kE P A F fid nt ops al i o sl m=some x) :
  x.i=i∧x.o=o∧x.sl=sl∧x.m=m:=by
 unfold kE at h
 split at h
 ·simp at h
 ·split at h
  ·split at h
   ·simp only[Option.map_eq_some_iff] at h
    obtain⟨a,_,rfl⟩:=h
    exact⟨rfl,rfl,rfl,rfl⟩
   ·simp only[Option.map_eq_some_iff] at h
    obtain⟨a,_,rfl⟩:=h
    exact⟨rfl,rfl,rfl,rfl⟩
  ·simp only[Option.some.injEq] at h;subst h;exact⟨rfl,rfl,rfl,rfl⟩
  ·simp at h
theorem pt {ops:List Oper}{al:List Al}:∀(l:List Oper) (i:Nat) (sl:List CV) (m:Mem) (rows:List Row) (sl':List CV) (m':Mem),jG P A F fid nt ops al i l sl m=some (rows,sl',m') →
  rows.length=l.length∧sl'=slF rows sl∧m'=mF rows m ∧
   ∀k x,rows[k]?=some x→l[k]?=some x.o∧x.i=i+k∧x.sl=slF (rows.take k) sl∧x.m=mF (rows.take k) m∧kE P A F fid nt ops al (i+k) x.o x.sl x.m=some x:=by
 intro l
 induction l with
 |nil=>
  intro i sl m rows sl' m' h;simp only[jG,Option.some.injEq,Prod.mk.injEq] at h;obtain⟨rfl,rfl,rfl⟩:=h
  exact⟨rfl,rfl,rfl,λk x hx=>by simp at hx⟩
 |cons o r ih=>
  intro i sl m rows sl' m' h;simp only[jG,Option.bind_eq_some_iff,Option.map_eq_some_iff] at h;obtain⟨x,hx,⟨rows2,sl2,m2⟩,h,he⟩:=h;simp only[Prod.mk.injEq] at he;obtain⟨rfl,rfl,rfl⟩:=he;obtain⟨f1,f2,f3,f4⟩:=rK hx;obtain⟨h1,h2,h3,h4⟩:=ih _ _ _ _ _ _ h
  refine⟨by simp[h1],by simp only[h2,slF,List.foldl_cons,f2],by simp only[h3,mF,List.foldl_cons],λk y hy=>?_⟩
  cases k with
  |zero=>
   simp only[List.getElem?_cons_zero,Option.some.injEq] at hy;subst hy
   exact⟨by simp[f2],by simpa using f1,by simp[slF,f3],by simp[mF,f4],by rw[f2,f3,f4];exact hx⟩
  |succ k=>
   simp only[List.getElem?_cons_succ] at hy;obtain⟨e1,e2,e3,e4,e5⟩:=h4 k y hy
   refine⟨by simpa using e1,by omega,by simp only[e3,slF,List.take_succ_cons,List.foldl_cons,f2],by simp only[e4,mF,List.take_succ_cons,List.foldl_cons],?_⟩
   rwa [show i+(k+1)=i+1+k from by omega]
theorem JS:∀(rows:List Row) (sl:List CV) (t:Tmp),(∀(i j:Nat) (x y:Row),rows[i]?=some x→rows[j]?=some y→x.o.dst=some t→y.o.dst=some t→i=j) →
  (∀(j:Nat) (x:Row),rows[j]?=some x→x.o.dst=some t→bH (slF rows sl) t=x.v)∧((∀(j:Nat) (x:Row),rows[j]?=some x→x.o.dst≠some t)→bH (slF rows sl) t=bH sl t)
 |[],sl,t,_=>⟨λj x hx=>by simp at hx,λ_=>rfl⟩
 |y::r,sl,t,hd=>by
  have ih:=JS r (eu sl y.o.dst y.v) t λi j a b ha hb h1 h2=>by
   have:=hd (i+1) (j+1) a b (by simpa using ha) (by simpa using hb) h1 h2;omega
  have hs:slF (y::r) sl=slF r (eu sl y.o.dst y.v):=rfl;rw[hs];have hput:∀(sl:List CV) (v:CV),bH (eu sl y.o.dst v) t=if y.o.dst=some t then v else bH sl t:=by
   intro sl v
   cases hy:y.o.dst with
   |none=>simp[eu]
   |some d=>simp[eu,dH]
  refine⟨λj x hx he=>?_,λhne=>?_⟩
  ·cases j with
   |zero=>
    simp only[List.getElem?_cons_zero,Option.some.injEq] at hx;subst hx;rw[ih.2 λj x hx h=>?_,hput,if_pos he];have:=hd 0 (j+1) y x (by simp) (by simpa using hx) he h;omega
   |succ j=>
    simp only[List.getElem?_cons_succ] at hx;exact ih.1 j x hx he
  ·rw[ih.2 λj x hx=>hne (j+1) x (by simpa using hx),hput,if_neg (hne 0 y (by simp))]
def cp (es:List Row) (last:Mem) (k:Nat):Mem:=match es[k]? with|some e=>e.m|none=>last
theorem gL {eff:Row→Bool}:∀(rows:List Row) (m:Mem),(∀(k:Nat) (x:Row),rows[k]?=some x→x.m=mF (rows.take k) m∧(eff x=false→x.m'=x.m)) →
  cp (rows.filter eff) (mF rows m) 0=m∧∀(k:Nat) (e:Row),(rows.filter eff)[k]?=some e→cp (rows.filter eff) (mF rows m) (k+1)=e.m'
 |[],m,_=>⟨rfl,λk e he=>by simp at he⟩
 |x::r,m,h=>by
  have hx:=h 0 x (by simp);simp only[List.take_zero] at hx;have hm:x.m=m:=hx.1;have ih:=gL (eff:=eff) r x.m' λk y hy=>by
   have:=h (k+1) y (by simpa using hy);simpa[mF,List.take_succ_cons] using this
  have hF:mF (x::r) m=mF r x.m':=rfl;rw[hF]
  by_cases he:eff x=true
  ·rw[List.filter_cons_of_pos he]
   refine⟨by simp[cp,hm],λk e hk=>?_⟩
   cases k with
   |zero=>
    simp only[List.getElem?_cons_zero,Option.some.injEq] at hk;subst hk;simpa[cp] using ih.1
   |succ k=>
    simp only[List.getElem?_cons_succ] at hk;simpa[cp] using ih.2 k e hk
  ·rw[List.filter_cons_of_neg he]
   have hm':x.m'=m:=by rw[hx.2 (by simpa using he),hm]
   rw[hm'] at ih ⊢;exact ih
theorem mn {ops:List Oper}{masks:List Nat}{d:Row}{last:Mem}:∀(es:List Row) (k:Nat),steady P A F fid ops masks d last es=true →
  k≤es.length→(∀(j:Nat) (e:Row),j<k→es[j]?=some e→(masks.getD e.i 0).testBit d.i=false)→(∀(e:Row),es[k]?=some e→(masks.getD d.i 0).testBit e.i=false)→eU P A F fid ops d (cp es last k)=true
 |[],k,h,hk,_,_=>by
  simp only[List.length_nil,Nat.le_zero] at hk;subst hk;simpa[cp,steady] using h
 |e::es,k,h,hk,h1,h2=>by
  simp only[steady,Bool.and_eq_true,Bool.or_eq_true] at h
  cases k with
  |zero=>
   have:=h2 e (by simp);rcases h.1 with h|h
   ·rw[this] at h;cases h
   ·simpa[cp] using h
  |succ k=>
   have h0:=h1 0 e (by omega) (by simp);rcases h.2 with h|h
   ·rw[h0] at h;cases h
   ·have:=mn es k h (by simpa using hk) (λj e' hj he=>h1 (j+1) e' (by omega) (by simpa using he)) (λe' he=>h2 e' (by simpa using he))
    simpa[cp] using this
end
end Go.Cm
namespace Go.Cm
section
variable {P:Program}{A:Ann}{F:aW}{fid:FuncId}{nt:Nat}
theorem fU {ops:List Oper}{al:List Al}{i:Nat}{o:Oper}{sl:List CV}{m:Mem}{x:Row}(h:kE P A F fid nt ops al i o sl m=some x) :
  dok nt x.o.dst=true ∧
  ((dR ops x.sl x.o=some false∧x.v=.tuple []∧x.m'=x.m) ∨
   (dR ops x.sl x.o=some true∧plainAlloc P x.o=true∧x.m'=x.m∧∃b,oU al x.i=some b∧x.v=.ptr b.key b.gn 0) ∨
   (dR ops x.sl x.o=some true∧plainAlloc P x.o=false∧bJ x.o.op=true∧x.go=true∧x.m'=x.m) ∨
   (dR ops x.sl x.o=some true∧plainAlloc P x.o=false∧bJ x.o.op=false∧cval P A F fid (evL (cg ops x.o) x.sl) x.o x.m=some (x.v,x.m'))):=by
 unfold kE at h
 split at h
 ·simp at h
 ·rename_i hd
  split at h
  ·rename_i hg
   split at h
   ·rename_i hp
    simp only[Option.map_eq_some_iff] at h;obtain⟨b,hb,rfl⟩:=h
    exact⟨by simpa using hd,.inr (.inl ⟨hg,hp,rfl,b,hb,rfl⟩)⟩
   ·rename_i hp
    simp only[Option.map_eq_some_iff] at h;obtain⟨⟨c,m1⟩,hc,rfl⟩:=h
    refine⟨by simpa using hd,.inr (.inr ?_)⟩
    by_cases hq:bJ o.op=true
    ·exact .inl ⟨hg,by simpa using hp,hq,rfl,by simp[hq]⟩
    ·refine .inr ⟨hg,by simpa using hp,by simpa using hq,?_⟩
     simp only[hq];exact hc
  ·rename_i hg
   simp only[Option.some.injEq] at h;subst h
   exact⟨by simpa using hd,.inl ⟨hg,rfl,rfl⟩⟩
  ·simp at h
structure Drawn (P:Program) (A:Ann) (F:aW) (fid:FuncId) (nt:Nat) (ops:Array Oper) (sl0:List CV) (mA:Mem) (al:List Al) (rows:List Row) (es:List Row) (last:Mem):Prop where
 reg:RegOK P ops.toList (cy ops.toList [])
 len:rows.length=ops.size
 row:∀(k:Nat) (x:Row),rows[k]?=some x→ops[k]?=some x.o∧x.i=k∧x.sl=slF (rows.take k) sl0∧kE P A F fid nt ops.toList al k x.o x.sl x.m=some x
 ese:es=rows.filter λx=>bt P x.o
 first:cp es last 0=mA
 next:∀(k:Nat) (e:Row),es[k]?=some e→cp es last (k+1)=e.m'
 keys:iP al=true
 fresh0:∀b∈al,cC b mA=true
 fresh:∀b∈al,∀e∈es,((cy ops.toList []).getD e.i 0).testBit b.i=true∨cC b e.m'=true
 steady:∀x∈rows,x.go=true→bJ x.o.op=true→Cm.steady P A F fid ops.toList (cy ops.toList []) x last es=true
section
variable {ops:Array Oper}{sl0:List CV}{mA:Mem}{al:List Al}{rows es:List Row}{last:Mem}
theorem Drawn.es_row (h:Drawn P A F fid nt ops sl0 mA al rows es last) {e:Row}(he:e∈es):rows[e.i]?=some e∧bt P e.o=true:=by
 rw[h.ese,List.mem_filter] at he;obtain⟨k,hk⟩:=List.getElem?_of_mem he.1;have:=(h.row k e hk).2.1;subst this
 exact⟨hk,he.2⟩
theorem Drawn.sorted (h:Drawn P A F fid nt ops sl0 mA al rows es last) {j k:Nat}{x y:Row}(hj:es[j]?=some x) (hk:es[k]?=some y) (hlt:j<k):x.i<y.i:=by
 have hp:rows.Pairwise λx y=>x.i<y.i:=by
  rw[List.pairwise_iff_getElem];intro i j hi hj hij;have h1:=(h.row i rows[i] (List.getElem?_eq_getElem hi)).2.1;have h2:=(h.row j rows[j] (List.getElem?_eq_getElem hj)).2.1;omega
 have hp':es.Pairwise λx y=>x.i<y.i:=by rw[h.ese];exact hp.filter _
 rw[List.pairwise_iff_getElem] at hp';obtain⟨h1,rfl⟩:=List.getElem?_eq_some_iff.1 hj;obtain⟨h2,rfl⟩:=List.getElem?_eq_some_iff.1 hk;exact hp' j k h1 h2 hlt
structure Inv (nt:Nat) (K0:KM) (m0:Mem) (Q0:PM) (w0:World) (ops:Array Oper) (sl0:List CV) (al:List Al) (rows es:List Row) (last:Mem) (listed:Array Bool) (k:Nat) (a:Act) (w:World):Prop where
 size:listed.size=ops.size
 closed:∀j i,listed.getD j false=true→((cy ops.toList []).getD j 0).testBit i=true→listed.getD i false=true
 pre:∀(j:Nat) (e:Row),es[j]?=some e→(listed.getD e.i false=true↔j<k)
 kle:k≤es.length
 mem:∃K Q,Trans K0 m0 Q0 w0 K (cp es last k) Q w ∧
  (∀t,(∀(j:Nat) (x:Row),rows[j]?=some x→listed.getD j false=true→x.o.dst=some t→Vt K (cp es last k) Q x.v (a.tmps.getD t undef)) ∧
   ((∀(j:Nat) (x:Row),rows[j]?=some x→listed.getD j false=true→x.o.dst≠some t)→Vt K (cp es last k) Q (bH sl0 t) (a.tmps.getD t undef))) ∧
  (∀b∈al,listed.getD b.i false=false→Q b.key=none∧cC b (cp es last k)=true)
 tsz:a.tmps.size=nt
 defs:a.defers=[]
theorem gJ {listed:Array Bool}{i j:Nat}(hi:i<listed.size):(listed.setIfInBounds i true).getD j false=if i=j then true else listed.getD j false:=by
 by_cases h:i=j
 ·subst h;simp[hi]
 ·rw[getD_set_ne false h,if_neg h]
theorem wj {a:Act}{d:Option Tmp}{v:Value}{t:Tmp}(hne:d≠some t):(a.put d v).tmps.getD t undef=a.tmps.getD t undef:=by
 cases d with
 |none=>rfl
 |some d=>
  have:d≠t:=λh=>hne (by rw[h]);simp[Act.put,Array.getD_eq_getD_getElem?,this]
theorem qV {a:Act}{t:Tmp}{v:Value}(h:t<a.tmps.size):(a.put (some t) v).tmps.getD t undef=v:=by
 simp[Act.put,h]
variable {K0:KM}{m0:Mem}{Q0:PM}{w0:World}{Qx:Exit→Act→World→Prop}
theorem Inv.step (hD:Drawn P A F fid nt ops sl0 mA al rows es last) {listed:Array Bool}{k:Nat}{a:Act}{w:World}(hI:Inv nt K0 m0 Q0 w0 ops sl0 al rows es last listed k a w)
  {i:Nat}(hi:i∈Region.ready .any ops listed) {x:Row}(hx:rows[i]?=some x) :
  ∃K Q,Trans K0 m0 Q0 w0 K (cp es last k) Q w∧(∀b∈al,listed.getD b.i false=false→Q b.key=none∧cC b (cp es last k)=true) ∧
   (∀t,t∈cg ops.toList x.o→Vt K (cp es last k) Q (bH x.sl t) (a.tmps.getD t undef)) ∧
   (bt P x.o=true→es[k]?=some x)∧listed.getD i false=false∧(∀j,((cy ops.toList []).getD i 0).testBit j=true→listed.getD j false=true) ∧
   ∀(k':Nat),(k'=if bt P x.o then k+1 else k)→∀(w':World) (r:Value) (K':KM) (Q':PM),Trans K0 m0 Q0 w0 K' (cp es last k') Q' w' →
    (∀c v,Vt K (cp es last k) Q c v→Vt K' (cp es last k') Q' c v)→Vt K' (cp es last k') Q' x.v r →
    (∀b∈al,listed.getD b.i false=false→b.i≠i→Q' b.key=none∧cC b (cp es last k')=true) →
    Inv nt K0 m0 Q0 w0 ops sl0 al rows es last (listed.setIfInBounds i true) k' (a.put x.o.dst r) w':=by
 obtain⟨ho,hxi,hsl,hdr⟩:=hD.row i x hx;obtain⟨hl0,o',ho',hedges⟩:=mem_ready.1 hi;rw[ho] at ho';simp only[Option.some.injEq] at ho';subst ho';have hlt:i<ops.size:=(Array.getElem?_eq_some_iff.1 ho).1;have hlt':i<listed.size:=by rw[hI.size];exact hlt
 have hnot:listed.getD i false=false:=by
  simp only[Array.getD_eq_getD_getElem?,Array.getElem?_eq_getElem hlt',Option.getD_some] at hl0 ⊢;exact hl0
 have hol:∀{j:Nat}{y:Row},rows[j]?=some y→ops.toList[j]?=some y.o:=λhy=>by rw[Array.getElem?_toList];exact(hD.row _ _ hy).1
 have hmask:∀j,((cy ops.toList []).getD i 0).testBit j=true→listed.getD j false=true:=by
  intro j hj;obtain⟨e,he,hb,h⟩:=xu (hol hx) hj (hD.reg.back i x.o (hol hx));have hon:=hedges e (Array.mem_toList_iff.1 he) hb;rcases h with rfl|h
  ·exact hon
  ·exact hI.closed _ _ hon h
 have hdk:=(fU hdr).1;obtain⟨K,Q,hT,hslots,hal⟩:=hI.mem;have hlook:∀t,t∈cg ops.toList x.o→Vt K (cp es last k) Q (bH x.sl t) (a.tmps.getD t undef):=by
  intro t ht;have hdis:∀(p q:Nat) (y z:Row),(rows.take i)[p]?=some y→(rows.take i)[q]?=some z→y.o.dst=some t→z.o.dst=some t→p=q:=by
   intro p q y z hy hz h1 h2;rw[List.getElem?_take] at hy hz
   split at hy<;>split at hz<;>first
    |(exact hD.reg.dst p q _ _ t (hol hy) (hol hz) h1 h2)
    |simp at hy
    |simp at hz
  have hg:=JS (rows.take i) sl0 t hdis;rw[hsl]
  by_cases hex:∃(j:Nat) (y:Row),(rows.take i)[j]?=some y∧y.o.dst=some t
  ·obtain⟨j,y,hy,hyd⟩:=hex
   rw[hg.1 j y hy hyd];rw[List.getElem?_take] at hy
   split at hy
   ·rename_i hji
    exact(hslots t).1 j y hy (hmask j (hD.reg.reads j i y.o x.o t hji (hol hy) (hol hx) hyd ht)) hyd
   ·simp at hy
  ·rw[hg.2 λj y hy hyd=>hex ⟨j,y,hy,hyd⟩]
   refine(hslots t).2 λj y hy hlj hyd=>?_
   rcases Nat.lt_trichotomy j i with hji|hji|hji
   ·exact hex ⟨j,y,by rw[List.getElem?_take,if_pos hji];exact hy,hyd⟩
   ·subst hji;rw[hnot] at hlj;cases hlj
   ·have:=hI.closed j i hlj (hD.reg.writes i j x.o y.o t hji (hol hx) (hol hy) hyd ht)
    rw[hnot] at this;cases this
 have hwhere:bt P x.o=true→es[k]?=some x:=by
  intro heff;have hxes:x∈es:=by rw[hD.ese,List.mem_filter];exact⟨List.mem_of_getElem? hx,heff⟩
  obtain⟨j0,hj0⟩:=List.getElem?_of_mem hxes;have hk0:j0=k:=by
   have h1:¬j0<k:=λh=>by
    have:=(hI.pre j0 x hj0).2 h;rw[hxi,hnot] at this;cases this
   rcases Nat.eq_zero_or_pos j0 with h0|h0
   ·have:=hI.kle
    rcases Nat.eq_zero_or_pos k with hk0|hk0
    ·omega
    ·omega
   ·have hlen:j0<es.length:=(List.getElem?_eq_some_iff.1 hj0).1
    have he':es[j0 - 1]?=some es[j0 - 1]:=List.getElem?_eq_getElem (by omega);have hso:=hD.sorted he' hj0 (by omega);obtain⟨hr,hf⟩:=hD.es_row (List.mem_of_getElem? he');rw[hxi] at hso;have:=(hI.pre _ _ he').1 (hmask _ (hD.reg.effs _ i _ x.o hso (hol hr) (hol hx) hf heff));omega
  subst hk0;exact hj0
 refine⟨K,Q,hT,hal,hlook,hwhere,hnot,hmask,λk' hk' w' r K' Q' hT' hlift hv hal'=>?_⟩
 refine⟨by simp[hI.size],λj i' hj hb=>?_,λj e he=>?_,?_,⟨K',Q',hT',λt=>⟨λj y hy hlj hyd=>?_,λhne=>?_⟩,λb hb hlb=>?_⟩,by rw[og];exact hI.tsz,by rw[jY];exact hI.defs⟩
 ·rw[gJ hlt'] at hj ⊢
  split
  ·rfl
  ·split at hj
   ·rename_i he;subst he;exact hmask i' hb
   ·exact hI.closed j i' hj hb
 ·obtain⟨her,hee⟩:=hD.es_row (List.mem_of_getElem? he)
  rw[gJ hlt'];have hp:=hI.pre j e he
  by_cases heff:bt P x.o=true
  ·rw[if_pos heff] at hk'
   have hj0:=hwhere heff;generalize hk0:k=j0 at *
   by_cases hei:i=e.i
   ·rw[if_pos hei]
    have:j=j0:=by
     rcases Nat.lt_trichotomy j j0 with h|h|h
     ·have:=hD.sorted he hj0 h;omega
     ·exact h
     ·have:=hD.sorted hj0 he h;omega
    simp[this,hk']
   ·rw[if_neg hei,hp]
    have:j≠j0:=λh=>by subst h;rw[he] at hj0;simp only[Option.some.injEq] at hj0;subst hj0;omega
    omega
  ·rw[if_neg heff] at hk'
   have hei:i≠e.i:=λh=>by
    rw[←h,hx] at her;simp only[Option.some.injEq] at her;subst her;exact heff hee
   rw[if_neg hei,hp,hk']
 ·by_cases heff:bt P x.o=true
  ·rw[if_pos heff] at hk'
   have hj0:=hwhere heff;have:=(List.getElem?_eq_some_iff.1 hj0).1;omega
  ·rw[if_neg heff] at hk'
   have:=hI.kle;omega
 ·rw[gJ hlt'] at hlj
  by_cases hij:i=j
  ·subst hij
   rw[hx] at hy;simp only[Option.some.injEq] at hy;subst hy;rw[hyd] at hdk ⊢;simp only[dok,decide_eq_true_eq] at hdk;rw[qV (by rw[hI.tsz];exact hdk)];exact hv
  ·rw[if_neg hij] at hlj
   rw[wj λh=>hij (hD.reg.dst i j x.o y.o t (hol hx) (hol hy) h hyd)];exact hlift _ _ ((hslots t).1 j y hy hlj hyd)
 ·rw[wj (hne i x hx (by rw[gJ hlt'];simp))]
  exact hlift _ _ ((hslots t).2 λj y hy hlj=>hne j y hy (by rw[gJ hlt'];split;rfl;exact hlj))
 ·rw[gJ hlt'] at hlb
  split at hlb
  ·cases hlb
  ·rename_i hne
   exact hal' b hb hlb (Ne.symm hne)
end
end
end Go.Cm
namespace Go.Cm
section
variable {P:Program}{A:Ann}{F:aW}{fid:FuncId}{nt:Nat}
variable {ops:Array Oper}{sl0:List CV}{mA:Mem}{al:List Al}{rows es:List Row}{last:Mem}
variable {K0:KM}{m0:Mem}{Q0:PM}{w0:World}{Qx:Exit→Act→World→Prop}
theorem MI {K:KM}{m:Mem}{Q:PM}{ts:List Tmp}{sl:List CV}{a:Act}(h:∀t,t∈ts→Vt K m Q (bH sl t) (a.tmps.getD t undef)) (x:Operand):Vt K m Q (evL ts sl x) (a.eval x):=by
 cases x with
 |tmp t=>
  simp only[evL,Act.eval];split
  ·rename_i hc;exact h t (by simpa using hc)
  ·simp[Vt,V]
 |const v=>exact ofC_V v
 |global g=>simp[evL,ev,Vt,V]
 |func f=>simp[evL,ev,Vt,V,Act.eval,Vs]
theorem G8 {b:Al}{m:Mem}(h:cC b m=true):m.get b.key=some (.var b.gn b.z 0):=by
 unfold cC at h
 split at h
 ·rename_i g cs vl hget
  simp only[Bool.and_eq_true,decide_eq_true_eq] at h;obtain⟨⟨rfl,rfl⟩,h3⟩:=h;rw[hget,beqs_eq _ _ h3]
 ·simp at h
theorem eM {o:Oper}(h:bJ o.op=true):bt P o=false:=by simp[bt,h]
theorem lW {o:Oper}(h:plainAlloc P o=true):bt P o=false:=by simp[bt,h]
theorem Inv.op (hS:Sim P F) (hN:cm P=true) (hD:Drawn P A F fid nt ops sl0 mA al rows es last)
  (hAl:∀b∈al,∃o t,ops.toList[b.i]?=some o∧o.op=.alloc t∧dk P t=some b.z∧∀y,m0.get b.key=some y→y.gn<b.gn)
  {listed:Array Bool}{k:Nat}{a:Act}{w:World}(hI:Inv nt K0 m0 Q0 w0 ops sl0 al rows es last listed k a w)
  {i:Nat}(hi:i∈Region.ready .any ops listed) {next:Act→World→Prop}(hn:∀k' a' w',Inv nt K0 m0 Q0 w0 ops sl0 al rows es last (listed.setIfInBounds i true) k' a' w'→next a' w') :
  wpOp P ops Qx i next a w:=by
 obtain⟨hl0,o,ho,hedges⟩:=mem_ready.1 hi;have hlt:i<ops.size:=(Array.getElem?_eq_some_iff.1 ho).1;obtain⟨x,hx⟩:∃x,rows[i]?=some x:=⟨_,List.getElem?_eq_getElem (by rw[hD.len];exact hlt)⟩;obtain⟨ho',hxi,hsl,hdr⟩:=hD.row i x hx;rw[ho] at ho';simp only[Option.some.injEq] at ho';subst ho';obtain⟨K,Q,hT,hal,hlook,hwhere,hnot,hmask,hfin⟩:=hI.step hD hi hx;have hgu:∀{b},dR ops.toList x.sl x.o=some b→Region.wanted x.o (yielded ops a.tmps)=b:=by
  intro b hg;refine jK (K:=K) (m:=cp es last k) (Q:=Q) (λg want d hgd hd=>hlook d ?_) hg;simp only[cg,hgd];rw[Array.getElem?_toList,hd];simp
 simp only[wpOp,ho];obtain⟨_,hc⟩:=fU hdr;rcases hc with⟨hg,hv,hm⟩|⟨hg,hp,hm,b,hb,hv⟩|⟨hg,hp,hq,hgo,hm⟩|⟨hg,hp,hq,hcv⟩
 · -- not wanted
  rw[hgu hg];simp only[Bool.false_eq_true,if_false];have hsame:cp es last (if bt P x.o then k+1 else k)=cp es last k:=by
   split
   ·rename_i heff
    rw[hD.next k x (hwhere heff),hm];simp[cp,hwhere heff]
   ·rfl
  refine hn _ _ _ (hfin _ rfl w undef K Q (by rw[hsame];exact hT) (λc v h=>by rw[hsame];exact h) (by rw[hsame,hv];exact wK) λb hb hlb _=>by rw[hsame];exact hal b hb hlb)
 · -- a new variable
  rw[hgu hg];simp only[if_true];left;have hne:bt P x.o=false:=lW hp;obtain⟨hbm,hbi⟩:=rz hb;obtain⟨o',t,ho1,ho2,hz,hgen⟩:=hAl b hbm;rw[hbi,hxi,Array.getElem?_toList,ho] at ho1;simp only[Option.some.injEq] at ho1;subst ho1;obtain⟨hqn,hfr⟩:=hal b hbm (by rw[hbi,hxi];exact hnot);have hget:=G8 hfr;obtain⟨v,hzv,hall,hV,_⟩:=js (K:=K) (M:=(cp es last k).get) (Q:=Q) (w:=w) (loc:=false) hz;obtain⟨hT',hG⟩:=hT.fill (w3:={ w with heap:=w.heap.push (.cells v.cells t (0,0)) }) hget hqn hgen rfl hall hV ⟨rfl,rfl,rfl⟩;have hrun:(execOp a.eval x.o).run P w=.ok (.value (.pointer (some ⟨w.heap.size,0,none⟩))) { w with heap:=w.heap.push (.cells v.cells t (0,0)) }:=by
   simp only[execOp,ho2];simp[Instr.alloc,hzv,newVar,newRow]
  simp only[Oper.wp,hrun,Oper.upon_value];refine hn _ _ _ (hfin k (by rw[hne];rfl) _ _ K _ hT' (λc v h=>V_mono (λ_ _ _ h=>h) hG.sub (λh=>h) hG c v h) ?_ λb' hb' hlb' hne'=>?_)
  ·rw[hv]
   simp only[Vt,V]
   exact⟨by cases b.key<;>simp[keyOK],_,_,hget,Nat.le_refl _,rfl,λ_=>⟨_,by simp[bB];rfl,rfl⟩⟩
  ·obtain⟨h1,h2⟩:=hal b' hb' hlb'
   refine⟨?_,h2⟩
   simp only[bB];split
   ·rename_i he
    have:=me hD.keys b hbm b' hb' he;subst this;exact absurd (by rw[hbi,hxi]) hne'
   ·exact h1
 · -- an answer
  rw[hgu hg];simp only[if_true];left;have hne:bt P x.o=false:=eM hq;have hst:=mn es k (hD.steady x (List.mem_of_getElem? hx) hgo hq) hI.kle (λj e hj he=>by
   have hl:=(hI.pre j e he).2 hj
   cases hb:((cy ops.toList []).getD e.i 0).testBit x.i with
   |false=>rfl
   |true=>
    have:=hI.closed _ _ hl hb;rw[hxi,hnot] at this;cases this) (λe he=>by
   cases hb:((cy ops.toList []).getD x.i 0).testBit e.i with
   |false=>rfl
   |true=>
    rw[hxi] at hb;have:=(hI.pre k e he).1 (hmask _ hb)
    omega)
  unfold eU at hst
  split at hst
  ·rename_i v m1 hcv
   have hbe:=beq_eq _ _ hst;subst hbe;obtain⟨_,r,hrun,hVr⟩:=pW hT.mr (MI hlook) hq hcv;simp only[Oper.wp,hrun,Oper.upon_value];exact hn _ _ _ (hfin k (by rw[hne];rfl) _ _ K Q hT (λc v h=>h) hVr λb hb hlb _=>hal b hb hlb)
  ·simp at hst
 · -- an operation that does something
  rw[hgu hg];simp only[if_true];left;have heff:bt P x.o=true:=by simp[bt,hq,hp]
  have hxk:=hwhere heff;have hmx:cp es last k=x.m:=by simp[cp,hxk]
  have hmn:cp es last (k+1)=x.m':=hD.next k x hxk
  rw[←hmx,←hmn] at hcv;refine wg hS hN hT.mr (MI hlook) hcv next Qx λr w' K' Q' hT' hv=>?_
  refine hn _ _ _ (hfin (k+1) (by rw[heff];rfl) _ _ K' Q' (hT.trans hT') (λc v h=>hT'.V h) hv λb hb hlb _=>?_);obtain⟨h1,h2⟩:=hal b hb hlb;have hfr:cC b (cp es last (k+1))=true:=by
   rw[hmn];rcases hD.fresh b hb x (List.mem_of_getElem? hxk) with h|h
   ·rw[hxi] at h
    have:=hmask _ h;rw[hlb] at this;cases this
   ·exact h
  refine⟨?_,hfr⟩
  cases hq':Q' b.key with
  |none=>rfl
  |some q=>
   rcases hT'.pn _ _ hq' with⟨q0,h,_⟩|⟨_,h⟩
   ·rw[h1] at h;cases h
   ·obtain⟨y,hy,hlt⟩:=h _ (G8 h2)
    rw[G8 hfr] at hy;simp only[Option.some.injEq] at hy;subst hy;simp[HO.gn] at hlt
def left (n:Nat) (listed:Array Bool):Nat:=(List.range n).countP λi=>!listed.getD i true
theorem pG {p q:Nat→Bool}{i:Nat}:∀{l:List Nat},i∈l→(∀j,q j=true→p j=true)→p i=true→q i=false→l.countP q<l.countP p
 |x::l,hi,hpq,hp,hq=>by
  simp only[List.countP_cons];have hle:l.countP q≤l.countP p:=List.countP_mono_left λj _ h=>hpq j h;rcases List.mem_cons.1 hi with rfl|hi
  ·simp[hp,hq];omega
  ·have:=pG hi hpq hp hq
   by_cases hx:q x=true
   ·simp[hx,hpq x hx];exact this
   ·simp[hx];omega
theorem se {n i:Nat}{listed:Array Bool}(hsz:listed.size=n) (hi:i<n) (hn:listed.getD i true=false):left n (listed.setIfInBounds i true)<left n listed:=by
 refine pG (i:=i) (List.mem_range.2 hi) (λj hj=>?_) (by simp only[hn];rfl) ?_
 ·by_cases he:i=j
  ·subst he
   simp only[Array.getD_eq_getD_getElem?,Array.getElem?_setIfInBounds] at hj;simp[hsz,hi] at hj
  ·rwa [getD_set_ne true he] at hj
 ·simp only[Array.getD_eq_getD_getElem?,Array.getElem?_setIfInBounds]
  simp[hsz,hi]
theorem pY {listed:Array Bool}(hsz:listed.size=ops.size) (hback:∀(j:Nat) (y:Oper),ops.toList[j]?=some y→∀e∈y.after.toList,Region.binds .any e=true→e.on<j)
  (h:Region.ready .any ops listed=[]):∀j,j<ops.size→listed.getD j false=true:=by
 intro j
 induction j using Nat.strongRecOn with
 |_ j ih=>
  intro hj
  cases hl:listed.getD j false with
  |true=>rfl
  |false=>
   have hm:j∈Region.ready .any ops listed:=by
    refine mem_ready.2 ⟨?_,ops[j],Array.getElem?_eq_getElem hj,λe he hb=>?_⟩
    ·have hj':j<listed.size:=by omega
     simp only[Array.getD_eq_getD_getElem?,Array.getElem?_eq_getElem hj',Option.getD_some] at hl ⊢;exact hl
    ·have hlt:=hback j ops[j] (by rw[Array.getElem?_toList];exact Array.getElem?_eq_getElem hj) e (Array.mem_toList_iff.2 he) hb
     exact ih e.on hlt (by omega)
   rw[h] at hm;cases hm
theorem Inv.any (hS:Sim P F) (hN:cm P=true) (hD:Drawn P A F fid nt ops sl0 mA al rows es last)
  (hAl:∀b∈al,∃o t,ops.toList[b.i]?=some o∧o.op=.alloc t∧dk P t=some b.z∧∀y,m0.get b.key=some y→y.gn<b.gn)
  (hend:∀k listed a w,Inv nt K0 m0 Q0 w0 ops sl0 al rows es last listed k a w→(∀j,j<ops.size→listed.getD j false=true)→Qx .normal a w) :
  ∀(fuel:Nat) (listed:Array Bool) (k:Nat) (a:Act) (w:World),left ops.size listed≤fuel→Inv nt K0 m0 Q0 w0 ops sl0 al rows es last listed k a w→wpAny P .any ops Qx fuel listed a w:=by
 intro fuel
 induction fuel with
 |zero=>
  intro listed k a w hf hI;have hr:Region.ready .any ops listed=[]:=by
   cases hr:Region.ready .any ops listed with
   |nil=>rfl
   |cons i l=>
    have hi:i∈Region.ready .any ops listed:=by rw[hr];exact List.mem_cons_self
    obtain⟨h0,o,ho,_⟩:=mem_ready.1 hi;have:=se hI.size (Array.getElem?_eq_some_iff.1 ho).1 h0;omega
  exact⟨hr,hend k listed a w hI (pY hI.size hD.reg.back hr)⟩
 |succ fuel ih=>
  intro listed k a w hf hI
  refine⟨λhr=>hend k listed a w hI (pY hI.size hD.reg.back hr),λi hi=>?_⟩
  refine hI.op hS hN hD hAl hi λk' a' w' hI'=>ih _ k' a' w' ?_ hI';obtain⟨h0,o,ho,_⟩:=mem_ready.1 hi;have:=se hI.size (Array.getElem?_eq_some_iff.1 ho).1 h0;omega
theorem cdraw_goes (hS:Sim P F) (hN:cm P=true) (hM:P.follows .mixedOrders=true) {s s':CS}{a:Act}{w:World}{id:Nat}(hA:At nt K0 m0 Q0 w0 s a w)
  (h:cdraw P A F fid nt ops.toList s=some s') (hQ:∀a w,At nt K0 m0 Q0 w0 s' a w→Qx .normal a w):(Code.region id ops true).wp P Qx a w:=by
 obtain⟨K,Q,hT,hs,hsz,hd⟩:=hA;unfold cdraw at h;simp only at h
 split at h
 ·rename_i hreg
  simp only[Option.bind_eq_some_iff] at h;obtain⟨⟨al,mA⟩,hh,⟨rows,sl',last⟩,hr,h⟩:=h;simp only at h
  split at h
  ·rename_i hc
   simp only[Bool.and_eq_true] at hc;obtain⟨⟨hk,hf⟩,hst⟩:=hc;simp only[Option.some.injEq] at h;subst h;simp only at hr hk hf hst hQ;obtain⟨Q1,hT1,hG,hal,_⟩:=xk ops.toList 0 s.m Q al mA hT hh;obtain⟨r1,rfl,rfl,r4⟩:=pt _ _ _ _ _ _ _ hr;have hrow:∀(k:Nat) (x:Row),rows[k]?=some x→ops[k]?=some x.o∧x.i=k∧x.sl=slF (rows.take k) s.sl∧kE P A F fid nt ops.toList al k x.o x.sl x.m=some x:=by
    intro k x hx;obtain⟨e1,e2,e3,e4,e5⟩:=r4 k x hx
    exact⟨by rw[←Array.getElem?_toList];exact e1,by omega,e3,by rw[Nat.zero_add] at e5;exact e5⟩
   have hmemo:=gL (eff:=λx=>bt P x.o) rows mA λk x hx=>⟨(r4 k x hx).2.2.2.1,λhe=>by
    obtain⟨_,hc⟩:=fU (hrow k x hx).2.2.2;rcases hc with⟨_,_,hm⟩|⟨_,_,hm,_⟩|⟨_,_,_,_,hm⟩|⟨_,hp,hq,_⟩
    ·exact hm
    ·exact hm
    ·exact hm
    ·simp[bt,hp,hq] at he⟩
   have hD:Drawn P A F fid nt ops s.sl mA al rows (rows.filter λx=>bt P x.o) (mF rows mA):=by
    refine⟨RegOK.of hreg,by rw[r1];simp,hrow,rfl,hmemo.1,hmemo.2,hk,λb hb=>?_,λb hb e he=>?_,λx hx hgo hq=>?_⟩
    ·have:=List.all_eq_true.1 hf b hb
     simp only[Bool.and_eq_true] at this;exact this.1
    ·have:=List.all_eq_true.1 hf b hb
     simp only[Bool.and_eq_true] at this;have:=List.all_eq_true.1 this.2 e he;simpa using this
    ·have:=List.all_eq_true.1 hst x hx
     simpa[hgo,hq] using this
   refine wp_region_any hM (Inv.any (K0:=K0) (m0:=m0) (Q0:=Q0) (w0:=w0) hS hN hD (λb hb=>?_) (λk listed a' w' hI hall=>?_) ops.size _ 0 a _ ?_ ?_)
   ·obtain⟨⟨o,t,h1,_,h2,_,h3⟩,_,h4⟩:=hal b hb
    exact⟨o,t,by simpa using h1,h2,h3,h4⟩
   ·refine hQ a' w' ?_
    obtain⟨K',Q',hT',hsl,_⟩:=hI.mem;have hkk:k=(rows.filter λx=>bt P x.o).length:=by
     have h1:=hI.kle;rcases Nat.lt_or_ge k (rows.filter λx=>bt P x.o).length with h2|h2
     ·have he:(rows.filter λx=>bt P x.o)[k]?=some (rows.filter λx=>bt P x.o)[k]:=List.getElem?_eq_getElem h2
      obtain⟨hr',_⟩:=hD.es_row (List.mem_of_getElem? he);have:=(hI.pre k _ he).1 (hall _ (by
       have:=(List.getElem?_eq_some_iff.1 hr').1;rw[hD.len] at this;exact this))
      omega
     ·omega
    have hmem:cp (rows.filter λx=>bt P x.o) (mF rows mA) k=mF rows mA:=by
     rw[hkk];simp[cp]
    rw[hmem] at hT' hsl
    refine⟨K',Q',hT',λt=>?_,hI.tsz,hI.defs⟩
    have hg:=JS rows s.sl t λi j x y hx hy h1 h2=>hD.reg.dst i j x.o y.o t (by rw[Array.getElem?_toList];exact(hrow _ _ hx).1) (by rw[Array.getElem?_toList];exact(hrow _ _ hy).1) h1 h2;have hin:∀{j:Nat}{x:Row},rows[j]?=some x→listed.getD j false=true:=λhx=>hall _ (by
     have:=(List.getElem?_eq_some_iff.1 hx).1;rw[hD.len] at this;exact this)
    by_cases hex:∃(j:Nat) (x:Row),rows[j]?=some x∧x.o.dst=some t
    ·obtain⟨j,x,hx,hxd⟩:=hex
     simp only[hg.1 j x hx hxd]
     exact(hsl t).1 j x hx (hin hx) hxd
    ·simp only[hg.2 λj x hx hxd=>hex ⟨j,x,hx,hxd⟩]
     exact(hsl t).2 λj x hx _ hxd=>hex ⟨j,x,hx,hxd⟩
   ·have:left ops.size (Array.replicate ops.size false)≤(List.range ops.size).length:=List.countP_le_length
    simpa using this
   ·have hfalse:∀j,(Array.replicate ops.size false).getD j false=false:=by
     intro j;simp only[Array.getD_eq_getD_getElem?,Array.getElem?_replicate]
     split<;>rfl
    have hT2:=hT1.same (w'':={ w with drawn:=w.drawn+1 }) rfl rfl rfl
    refine⟨by simp,λj i hj _=>(by rw[hfalse] at hj;cases hj),λj e he=>by simp[hfalse],Nat.zero_le _,⟨K,Q1,by rw[hmemo.1];exact hT2,λt=>⟨λj x _ hj _=>(by rw[hfalse] at hj;cases hj),λ_=>?_⟩,λb hb _=>?_⟩,hsz,hd⟩
    ·rw[hmemo.1]
     exact V_mono (λ_ _ _ h=>h) hG.sub (λh=>h) hG _ _ (hs t)
    ·rw[hmemo.1]
     exact⟨(hal b hb).none,hD.fresh0 b hb⟩
  ·cases h
 ·cases h
end
end Go.Cm
