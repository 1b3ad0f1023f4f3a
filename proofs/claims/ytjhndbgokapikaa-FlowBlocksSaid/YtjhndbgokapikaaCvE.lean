import Derived.Test.YtjhndbgokapikaaCvA
import Derived.MapKept
import Derived.Laws.Entries
import Derived.Laws.Slices
import Derived.Laws.StructEq
set_option linter.unusedSimpArgs false
set_option linter.unusedVariables false
namespace Go.Cm
def en:Key→HO→Bool
 |.l _,.var _ _ _=>true
 |_,_=>false
structure CellsOK (K:KM) (M:MM) (P:PM) (w:World) (loc:Bool) (cs:List CV) (vl:Nat) (q:Pl):Prop where
 row:∃es t,w.heap[q.blk]?=some (.cells es t (0,0))∧es.size=q.bsz ∧
  ∀(i:Nat) (c:CV),cs[i]?=some c→bE c=true∧∃v,es[q.base+i]?=some v∧V K M P loc c v
 fits:q.base+cs.length≤q.bsz
 free:∀o,q.base+vl≤o→K q.blk o=none
def ji (K:KM) (M:MM) (P:PM) (e:CV×CV) (x:MapEntry):Prop:=V K M P false e.1 x.key∧V K M P false e.2 x.val
def MapOK (K:KM) (M:MM) (P:PM) (w:World) (es:List (CV×CV)) (q:Pl):Prop:=
 ∃xs clk,w.heap[q.blk]?=some (.map xs clk)∧xs.size=es.length∧(∀(i:Nat) (e:CV×CV),es[i]?=some e→∃x,xs[i]?=some x∧ji K M P e x)∧MapKept.Stamped xs clk
def OK1 (K:KM) (M:MM) (P:PM) (w:World) (k:Key) (h:HO):Prop:=
 ∀q,P k=some q→match h with
  |.map _ es=>MapOK K M P w es q
  |h=>CellsOK K M P w (en k h) h.cells h.vl q
structure MR (K:KM) (M:MM) (P:PM) (w:World):Prop where
 stab:∀b o v,K b o=some v→w.cell? ⟨b,o,none⟩=some v
 objs:∀k h,M k=some h→OK1 K M P w k h
 inj:∀k k' q q',P k=some q→P k'=some q'→q.blk=q'.blk→k=k'
 dom:∀k q,P k=some q→(∃h,M k=some h)∧q.blk<w.heap.size
 v0:∀k g cs vl q,M k=some (.var g cs vl)→P k=some q→q.base=0
section
variable {K K':KM}{M M':MM}{P P':PM}{w w':World}
theorem CellsOK.mono {loc:Bool}{cs:List CV}{vl:Nat}{q:Pl}(h:CellsOK K M P w loc cs vl q)
  (hK:∀b o v,K b o=some v→K' b o=some v) (hG:Grow true M P M' P')
  (hw:w'.heap[q.blk]?=w.heap[q.blk]?) (hf:∀o,q.base+vl≤o→K' q.blk o=none):CellsOK K' M' P' w' loc cs vl q:=by
 obtain⟨⟨es,t,h1,h2,h3⟩,h4,_⟩:=h
 refine⟨⟨es,t,by rw[hw];exact h1,h2,λi c hc=>?_⟩,h4,hf⟩
 obtain⟨hl,v,hv,hV⟩:=h3 i c hc
 refine⟨hl,v,hv,V_mono hK hG.sub (λh=>h) ?_ c v hV⟩
 cases loc
 ·exact hG.sub
 ·exact hG
theorem MapOK.mono {es:List (CV×CV)}{q:Pl}(h:MapOK K M P w es q)
  (hK:∀b o v,K b o=some v→K' b o=some v) (hG:Grow true M P M' P') (hw:w'.heap[q.blk]?=w.heap[q.blk]?):MapOK K' M' P' w' es q:=by
 obtain⟨xs,clk,h1,h2,h3,h4⟩:=h
 refine⟨xs,clk,by rw[hw];exact h1,h2,λi e he=>?_,h4⟩
 obtain⟨x,hx,ha,hb⟩:=h3 i e he
 exact⟨x,hx,V_mono hK hG.sub (λh=>h) hG.sub _ _ ha,V_mono hK hG.sub (λh=>h) hG.sub _ _ hb⟩
theorem OK1.mono {k:Key}{h:HO}(ho:OK1 K M P w k h) (hK:∀b o v,K b o=some v→K' b o=some v) (hG:Grow true M P M' P')
  (hP:∀q,P' k=some q→P k=some q) (hw:∀q,P k=some q→w'.heap[q.blk]?=w.heap[q.blk]?)
  (hf:∀q,P k=some q→∀o,q.base+h.vl≤o→K q.blk o=none→K' q.blk o=none):OK1 K' M' P' w' k h:=by
 intro q hq;have hq':=hP q hq;have:=ho q hq'
 cases h with
 |map g es=>exact MapOK.mono this hK hG (hw q hq')
 |var g cs vl=>exact CellsOK.mono this hK hG (hw q hq') (λo hle=>hf q hq' o hle (this.free o hle))
 |arr g sz cs vl=>exact CellsOK.mono this hK hG (hw q hq') (λo hle=>hf q hq' o hle (this.free o hle))
theorem cQ {w w':World}{b o:Nat}(h:w'.heap[b]?=w.heap[b]?):w'.cell? ⟨b,o,none⟩=w.cell? ⟨b,o,none⟩:=by
 simp[World.cell?,h]
theorem MR.same (h:MR K M P w) (hw:w'.heap=w.heap):MR K M P w':=
 ⟨λb o v hv=>(cQ (w:=w) (w':=w') (by rw[hw])).trans (h.stab b o v hv),
  λk x hx=>(h.objs k x hx).mono (λ_ _ _ h=>h) (Grow.refl _ _ _) (λ_ h=>h) (λ_ _=>by rw[hw]) (λ_ _ _ _ h=>h),
  h.inj,λk q hq=>by rw[hw];exact h.dom k q hq,h.v0⟩
def upd (M:MM) (k:Key) (h:HO):MM:=λk'=>if k=k' then some h else M k'
def bB (P:PM) (k:Key) (q:Option Pl):PM:=λk'=>if k=k' then q else P k'
theorem Grow.upd {k:Key}{h:HO}{q:Option Pl}(hx:∀y,M k=some y→y.gn≤h.gn∧(y.gn=h.gn→wN y h (P k) q)):Grow true M P (upd M k h) (bB P k q):=by
 intro k' y _ hy
 by_cases he:k=k'
 ·subst he
  exact⟨h,by simp[Cm.upd],(hx y hy).1,λhg=>by simpa[bB] using(hx y hy).2 hg⟩
 ·exact⟨y,by simp[Cm.upd,he,hy],Nat.le_refl _,λ_=>by
   simp only[bB,he,if_false]
   exact⟨λq hq=>hq,λg sz cs vl h'=>⟨cs,vl,h',Nat.le_refl _⟩⟩⟩
theorem MR.v0_upd (h:∀k g cs vl q,M k=some (.var g cs vl)→P k=some q→q.base=0) {k:Key}{x:HO}{q:Option Pl}(hx:∀g cs vl p,x=.var g cs vl→q=some p→p.base=0) :
  ∀k' g cs vl p,upd M k x k'=some (.var g cs vl)→bB P k q k'=some p→p.base=0:=by
 intro k' g cs vl p h1 h2;simp only[upd,bB] at h1 h2
 split at h1
 ·rename_i he
  rw[if_pos he] at h2;simp only[Option.some.injEq] at h1;exact hx g cs vl p h1 h2
 ·rename_i he
  rw[if_neg he] at h2;exact h k' g cs vl p h1 h2
theorem MR.write (h:MR K M P w) {k:Key}{x:HO}{q q':Pl}(hq:P k=some q) (hb:q'.blk=q.blk)
  (hgen:∀y,M k=some y→y.gn≤x.gn∧(y.gn=x.gn→wN y x (P k) (some q')))
  (hothers:∀b,b≠q.blk→w'.heap[b]?=w.heap[b]?) (hsize:w'.heap.size=w.heap.size)
  (hstab:∀o v,K q.blk o=some v→w'.cell? ⟨q.blk,o,none⟩=some v)
  (hok:OK1 K (upd M k x) (bB P k (some q')) w' k x) (hv0:∀g cs vl,x=HO.var g cs vl→q'.base=0:=by intro _ _ _ h1;cases h1):MR K (upd M k x) (bB P k (some q')) w':=by
 have hG:Grow true M P (upd M k x) (bB P k (some q')):=Grow.upd hgen
 refine⟨λb o v hv=>?_,λk' y hy=>?_,λk1 k2 q1 q2 h1 h2 he=>?_,λk' q1 h1=>?_,MR.v0_upd h.v0 λg cs vl p h1 h2=>by simp only[Option.some.injEq] at h2;subst h2;exact hv0 g cs vl h1⟩
 ·by_cases hbb:b=q.blk
  ·subst hbb;exact hstab o v hv
  ·rw[cQ (hothers b hbb)];exact h.stab b o v hv
 ·by_cases he:k=k'
  ·subst he
   simp only[upd,if_true,Option.some.injEq] at hy;subst hy;exact hok
  ·simp only[upd,he,if_false] at hy
   refine(h.objs k' y hy).mono (λ_ _ _ h=>h) hG (λq1 h1=>by simpa[bB,he] using h1) (λq1 h1=>hothers _ λhc=>he (h.inj _ _ _ _ hq h1 hc.symm)) (λ_ _ _ _ h=>h)
 ·simp only[bB] at h1 h2
  split at h1<;>split at h2
  ·rename_i a b;rw[←a,←b]
  ·rename_i a b
   simp only[Option.some.injEq] at h1;subst h1;exact absurd (h.inj _ _ _ _ hq h2 (by rw[←hb];exact he)) b
  ·rename_i a b
   simp only[Option.some.injEq] at h2;subst h2;exact absurd (h.inj _ _ _ _ hq h1 (by rw[←hb];exact he.symm)) a
  ·exact h.inj _ _ _ _ h1 h2 he
 ·simp only[bB] at h1
  split at h1
  ·rename_i a
   simp only[Option.some.injEq] at h1;subst h1
   exact⟨⟨x,by simp[upd,a]⟩,by rw[hsize,hb];exact(h.dom k q hq).2⟩
  ·rename_i a
   obtain⟨⟨y,hy⟩,hlt⟩:=h.dom k' q1 h1
   exact⟨⟨y,by simp[upd,a,hy]⟩,by rw[hsize];exact hlt⟩
theorem MR.move (h:MR K M P w) {k:Key}{x:HO}{q:Option Pl}
  (hgen:∀y,M k=some y→y.gn<x.gn)
  (hothers:∀b,b<w.heap.size→w'.heap[b]?=w.heap[b]?) (hsize:w.heap.size≤w'.heap.size)
  (hnew:∀p,q=some p→w.heap.size≤p.blk∧p.blk<w'.heap.size)
  (hok:OK1 K (upd M k x) (bB P k q) w' k x)
  (hv0:∀g cs vl p,x=HO.var g cs vl→q=some p→p.base=0:=by intro _ _ _ _ h1 h2;first|(cases h2;done)|(cases h2;rfl)|(cases h1;done)):MR K (upd M k x) (bB P k q) w':=by
 have hG:Grow true M P (upd M k x) (bB P k q):=Grow.upd λy hy=>⟨Nat.le_of_lt (hgen y hy),λhe=>absurd he (Nat.ne_of_lt (hgen y hy))⟩
 refine⟨λb o v hv=>?_,λk' y hy=>?_,λk1 k2 q1 q2 h1 h2 he=>?_,λk' q1 h1=>?_,MR.v0_upd h.v0 hv0⟩
 ·have hc:=h.stab b o v hv
  rw[cQ (hothers b (World.block_lt_of_cell? _ _ hc))];exact hc
 ·by_cases he:k=k'
  ·subst he
   simp only[upd,if_true,Option.some.injEq] at hy;subst hy;exact hok
  ·simp only[upd,he,if_false] at hy
   exact(h.objs k' y hy).mono (λ_ _ _ h=>h) hG (λq1 h1=>by simpa[bB,he] using h1) (λq1 h1=>hothers _ (h.dom _ _ h1).2) (λ_ _ _ _ h=>h)
 ·simp only[bB] at h1 h2
  split at h1<;>split at h2
  ·rename_i a b;rw[←a,←b]
  ·have a1:=hnew _ h1;have a2:=(h.dom _ _ h2).2;omega
  ·have a1:=hnew _ h2;have a2:=(h.dom _ _ h1).2;omega
  ·exact h.inj _ _ _ _ h1 h2 he
 ·simp only[bB] at h1
  split at h1
  ·rename_i a
   exact⟨⟨x,by simp[upd,a]⟩,(hnew _ h1).2⟩
  ·rename_i a
   obtain⟨⟨y,hy⟩,hlt⟩:=h.dom k' q1 h1
   exact⟨⟨y,by simp[upd,a,hy]⟩,Nat.lt_of_lt_of_le hlt hsize⟩
theorem MR.look (h:MR K M P w) {k:Key}{x y:HO}(hx:M k=some x) (hy:y.gn=x.gn) (hc:y.cells=x.cells) (hm:x.isMap=false)
  (hs:y=x.withCells x.cells∨∃n,y=x.seen n) (hvl:x.vl≤y.vl)
  (hK:∀b o v,K b o=some v→K' b o=some v)
  (hK':∀b o v,K' b o=some v→K b o=some v∨∃q,P k=some q∧b=q.blk∧q.base≤o∧o<q.base+y.vl∧w.cell? ⟨b,o,none⟩=some v) :
  MR K' (upd M k y) P w:=by
 have hG:Grow true M P (upd M k y) P:=by
  intro k' z _ hz
  by_cases he:k=k'
  ·subst he
   rw[hx] at hz;simp only[Option.some.injEq] at hz;subst hz
   refine⟨y,by simp[upd],by omega,λ_=>⟨λq hq=>hq,λg sz cs vl hh=>?_⟩⟩
   subst hh;rcases hs with hs|⟨n,hs⟩<;>subst hs<;>exact⟨cs,_,rfl,Nat.le_refl _⟩
  ·exact⟨z,by simp[upd,he,hz],Nat.le_refl _,λ_=>⟨λq hq=>hq,λg sz cs vl h'=>⟨cs,vl,h',Nat.le_refl _⟩⟩⟩
 refine⟨λb o v hv=>?_,λk' z hz=>?_,h.inj,λk' q1 h1=>?_,λk' g cs vl q1 h1 h2=>?_⟩
 ·rcases hK' b o v hv with h1|⟨q,_,_,_,_,h1⟩
  ·exact h.stab b o v h1
  ·exact h1
 ·have hfree:∀k1 q,P k1=some q→k1≠k→∀o,K q.blk o=none→K' q.blk o=none:=by
   intro k1 q hq hne o ho
   cases hk:K' q.blk o with
   |none=>rfl
   |some v=>
    rcases hK' _ _ _ hk with h1|⟨q',hq',hb,_⟩
    ·rw[ho] at h1;cases h1
    ·exact absurd (h.inj _ _ _ _ hq hq' hb) hne
  by_cases he:k=k'
  ·subst he
   simp only[upd,if_true,Option.some.injEq] at hz;subst hz;intro q hq;have h0:=h.objs k x hx q hq;have hcell:CellsOK K M P w (en k x) x.cells x.vl q:=by cases x<;>simp_all [HO.isMap]
   have hfl:en k y=en k x:=by
    rcases hs with hs|⟨n,hs⟩<;>subst hs<;>cases k<;>cases x<;>simp_all [HO.withCells,HO.seen,en,HO.isMap]
   have hnm:y.isMap=false:=by rcases hs with hs|⟨n,hs⟩<;>subst hs<;>cases x<;>simp_all [HO.withCells,HO.seen,HO.isMap]
   have hres:CellsOK K' (upd M k y) P w (en k y) y.cells y.vl q:=by
    rw[hfl,hc]
    refine(show CellsOK K M P w (en k x) x.cells y.vl q from⟨hcell.row,hcell.fits,λo ho=>hcell.free o (by omega)⟩).mono hK hG rfl λo ho=>?_
    cases hk:K' q.blk o with
    |none=>rfl
    |some v=>
     rcases hK' _ _ _ hk with h1|⟨q',hq',hb,h2,h3,_⟩
     ·have:=hcell.free o (by omega);rw[this] at h1;cases h1
     ·rw[hq] at hq';simp only[Option.some.injEq] at hq';subst hq';omega
   cases y<;>first|exact hres|simp[HO.isMap] at hnm
  ·simp only[upd,he,if_false] at hz
   exact(h.objs k' z hz).mono hK hG (λ_ h=>h) (λ_ _=>rfl) (λq hq o _ ho=>hfree k' q hq (Ne.symm he) o ho)
 ·obtain⟨⟨z,hz⟩,hlt⟩:=h.dom k' q1 h1
  refine⟨?_,hlt⟩
  by_cases he:k=k'
  ·exact⟨y,by simp[upd,he]⟩
  ·exact⟨z,by simp[upd,he,hz]⟩
 ·simp only[upd] at h1
  split at h1
  ·rename_i he
   subst he;simp only[Option.some.injEq] at h1;subst h1;have hxv:∃g' cs' vl',x=.var g' cs' vl':=by
    rcases hs with hs|⟨n,hs⟩<;>cases x<;>simp_all [HO.withCells,HO.seen]
   obtain⟨g',cs',vl',rfl⟩:=hxv;exact h.v0 _ _ _ _ _ hx h2
  ·exact h.v0 _ _ _ _ _ h1 h2
end
end Go.Cm
namespace Go.Cm
section
variable {P:Program}{w:World}
theorem co {t:TypeId}{n:Nat}(h:bK P t=some n):(sizeOf t).run P w=.ok n w:=by
 unfold bK at h
 cases hi:P.info? t with
 |none=>simp[hi] at h
 |some i=>simp[hi] at h;simp[sizeOf,typeInfo,hi,h]
theorem aY {t:TypeId}{d:TypeDesc}(h:P.underlying t=some d):(underlying t).run P w=.ok d w:=by
 simp[underlying,h]
theorem K3 {t:TypeId}{b:Bool}(h:uM P t=some b):(isAgg t).run P w=.ok b w:=by
 unfold uM at h
 cases hi:P.underlying t with
 |none=>simp[hi] at h
 |some d=>cases d<;>simp[hi] at h<;>simp[isAgg,underlying,hi,h]
theorem gN {t e:TypeId}(h:w7 P t=some e):P.underlying t=some (.slice e):=by
 unfold w7 at h;split at h<;>simp_all
theorem Ep {t e:TypeId}{n:Nat}(h:lS P t=some (n,e)):P.underlying t=some (.array n e):=by
 unfold lS at h;split at h<;>simp_all
theorem lg {t k e:TypeId}(h:jg P t=some (k,e)):P.underlying t=some (.map k e):=by
 unfold jg at h;split at h<;>simp_all
theorem oq {t:TypeId}{f off:Nat}{ft:TypeId}(h:lT P t f=some (off,ft)) :
  ∃fs x,P.underlying t=some (.struct fs)∧fs[f]?=some x∧x.offset=off∧x.type=ft:=by
 unfold lT at h
 split at h
 ·rename_i fs hu
  cases hx:fs[f]? with
  |none=>simp[hx] at h
  |some x=>simp[hx] at h;exact⟨fs,x,hu,hx,h.1,h.2⟩
 ·simp at h
end
section
variable {K:KM}{M:MM}{Q:PM}
theorem xQ {loc:Bool}(v:Value):V K M Q loc (Hz v) v:=by
 unfold Hz
 split<;>simp[V]
theorem uV {loc:Bool}:∀(vs:List Value),Vs K M Q loc (vs.map Hz) vs
 |[]=>by simp[Vs]
 |v::vs=>by simp only[List.map_cons,Vs];exact⟨v,vs,rfl,xQ v,uV vs⟩
theorem xR {loc:Bool}(v:Value) (h:∀cs,ofV v=.agg cs→cs.all bE=true):V K M Q loc (ofV v) v:=by
 cases v with
 |agg cs=>simp only[ofV,V];exact⟨h _ rfl,cs,rfl,uV _⟩
 |_=>simp only[ofV];exact xQ _
theorem iE {loc:Bool}{c:CV}{cs:List CV}{v:Value}(hc:ap c=some cs) (h:V K M Q loc c v) :
  cs.all bE=true∧Vs K M Q loc cs v.cells.toList:=by
 cases c<;>simp only[ap,Option.some.injEq,reduceCtorEq] at hc
 case agg l=>
  subst hc;simp only[V] at h;obtain⟨h0,vs,rfl,hs⟩:=h
  exact⟨h0,hs⟩
 all_goals
  subst hc
  refine⟨by simp[bE],?_⟩
  have hv:v.cells=#[v]:=by
   simp only[V] at h
   first
    |(subst h;rfl)
    |(obtain⟨_,_,_,h,_⟩:=h;subst h;rfl)
    |(obtain⟨_,_,_,_,_,_,h,_⟩:=h;subst h;rfl)
    |(obtain⟨_,_,_,_,_,h,_⟩:=h;subst h;rfl)
    |(obtain⟨_,_,h,_⟩:=h;subst h;rfl)
    |(obtain⟨_,h,_⟩:=h;subst h;rfl)
  rw[hv];simp only[Vs]
  exact⟨v,[],rfl,h,rfl⟩
theorem D4 {loc:Bool}{c:CV}{v:Value}(hl:bE c=true) (h:V K M Q loc c v):v.oneCell'=true:=by
 cases c<;>simp only[bE,reduceCtorEq,Bool.false_eq_true] at hl
 all_goals
  simp only[V] at h
  first
   |(subst h;rfl)
   |(obtain⟨_,_,_,h,_⟩:=h;subst h;rfl)
   |(obtain⟨_,_,_,_,_,_,h,_⟩:=h;subst h;rfl)
   |(obtain⟨_,_,_,_,_,h,_⟩:=h;subst h;rfl)
   |(obtain⟨_,_,h,_⟩:=h;subst h;rfl)
   |(obtain⟨_,h,_⟩:=h;subst h;rfl)
theorem gO {P:Program}{w:World}{t:TypeId}{z:CV}{loc:Bool}(h:iy P t=some z) :
  ∃v,(zeroValue t).run P w=.ok v w∧V K M Q loc z v∧∃i,P.info? t=some i∧i.zero=some v:=by
 unfold iy at h
 cases hi:P.info? t with
 |none=>simp[hi] at h
 |some i=>
  cases hz:i.zero with
  |none=>simp[hi,hz] at h
  |some v=>
   simp only[hi,hz,Option.bind_some] at h
   refine⟨v,by simp[zeroValue,typeInfo,hi,hz],?_,i,rfl,hz⟩
   split at h
   ·rename_i cs hcs
    split at h
    ·rename_i hall
     simp only[Option.some.injEq] at h;subst h;exact xR v λl hl=>by rw[hl] at hcs;simp only[ap,Option.some.injEq] at hcs;subst hcs;exact hall
    ·simp at h
   ·simp at h
theorem js {P:Program}{w:World}{t:TypeId}{z:List CV}{loc:Bool}(h:dk P t=some z) :
  ∃v,(zeroValue t).run P w=.ok v w∧z.all bE=true∧Vs K M Q loc z v.cells.toList∧∃i,P.info? t=some i∧i.zero=some v:=by
 unfold dk at h
 cases hz:iy P t with
 |none=>simp[hz] at h
 |some c=>
  simp only[hz,Option.bind_some] at h;obtain⟨v,h1,h2,h3⟩:=gO (K:=K) (M:=M) (Q:=Q) (w:=w) (loc:=loc) hz;obtain⟨a,b⟩:=iE h h2
  exact⟨v,h1,a,b,h3⟩
theorem Addr.add_none (b o n:Nat):(⟨b,o,Option.none⟩:Addr).add n=⟨b,o+n,Option.none⟩:=by
 unfold Addr.add;split
 ·subst_vars;rfl
 ·rfl
theorem gM {w:World}{b:Nat}{es:Array Value}{t:TypeId}{fr:Nat×Nat}(h:w.heap[b]?=some (.cells es t fr)) (o:Nat):w.cell? ⟨b,o,Option.none⟩=es[o]?:=by
 simp[World.cell?,h]
theorem iF {w:World}{m:Mem}{p:CV}{n:Nat}{cs:List CV}{v:Value}(hR:MR K m.get Q w) (hp:V K m.get Q true p v) (h:bN m p n=some cs) :
  ∃b o vs,v=.pointer (some ⟨b,o,Option.none⟩)∧vs.length=n∧cs.all bE=true∧Vs K m.get Q true cs vs∧∀j u,vs[j]?=some u→w.cell? ⟨b,o+j,Option.none⟩=some u:=by
 have ofCells:∀(b o:Nat) (l:List CV),l.all bE=true→(∀(i:Nat) (c:CV),l[i]?=some c→∃u,w.cell? ⟨b,o+i,Option.none⟩=some u∧V K m.get Q true c u) →
   ∃vs:List Value,vs.length=l.length∧Vs K m.get Q true l vs∧∀j u,vs[j]?=some u→w.cell? ⟨b,o+j,Option.none⟩=some u:=by
  intro b o l
  induction l generalizing o with
  |nil=>intro _ _;exact⟨[],rfl,by simp[Vs],by simp⟩
  |cons c l ih=>
   intro hall hc;simp only[List.all_cons,Bool.and_eq_true] at hall;obtain⟨u,hu,hV⟩:=hc 0 c (by simp);obtain⟨vs,h1,h2,h3⟩:=ih (o+1) hall.2 λi c' hc'=>by
    obtain⟨u',a,b'⟩:=hc (i+1) c' (by simpa using hc')
    exact⟨u',by rw[show o+1+i=o+(i+1) from by omega];exact a,b'⟩
   refine⟨u::vs,by simp[h1],by simp only[Vs];exact⟨u,vs,rfl,hV,h2⟩,λj x hx=>?_⟩
   cases j with
   |zero=>simp at hx;subst hx;simpa using hu
   |succ j=>simp at hx;rw[show o+(j+1)=o+1+j from by omega];exact h3 j x hx
 unfold bN at h
 split at h
 ·rename_i l
  simp only[V] at hp;obtain⟨hall,b,o,rfl,hk⟩:=hp
  split at h
  ·rename_i hle
   simp only[Option.some.injEq] at h;subst h;have hall':(l.take n).all bE=true:=List.all_eq_true.2 λx hx=>List.all_eq_true.1 hall x (List.mem_of_mem_take hx);obtain⟨vs,h1,h2,h3⟩:=ofCells b o (l.take n) hall' λi c hc=>by
    obtain⟨u,hu,hV⟩:=qo (uU hk n) hc
    exact⟨u,hR.stab _ _ _ hu,rx hV⟩
   exact⟨b,o,vs,rfl,by simp[h1];omega,hall',h2,h3⟩
  ·simp at h
 ·rename_i k gn off
  simp only[V] at hp;obtain⟨_,x,a,hx,hg,rfl,hr⟩:=hp;rw[hx] at h;simp only[] at h
  split at h
  ·rename_i hcond
   obtain⟨hgn,hmap,hlen⟩:=hcond;simp only[Option.some.injEq] at h;subst h;obtain⟨q,hq,rfl⟩:=hr hgn.symm;have hok:=hR.objs k x hx q hq;have hcell:CellsOK K m.get Q w (en k x) x.cells x.vl q:=by cases x<;>simp_all [HO.isMap]
   obtain⟨⟨es,t,h1,h2,h3⟩,_,_⟩:=hcell;have hall':((x.cells.drop off).take n).all bE=true:=List.all_eq_true.2 λc hc=>by
    obtain⟨i,hi⟩:=List.getElem?_of_mem (List.mem_of_mem_drop (List.mem_of_mem_take hc))
    exact(h3 i c hi).1
   obtain⟨vs,g1,g2,g3⟩:=ofCells q.blk (q.base+off) _ hall' λi c hc=>by
    rw[List.getElem?_take] at hc
    split at hc
    ·rw[List.getElem?_drop] at hc
     obtain⟨_,u,hu,hV⟩:=h3 _ _ hc
     refine⟨u,by rw[gM h1];rw[show q.base+off+i=q.base+(off+i) from by omega];exact hu,?_⟩
     cases hf:en k x
     ·rw[hf] at hV;exact rx hV
     ·rw[hf] at hV;exact hV
    ·simp at hc
   exact⟨q.blk,q.base+off,vs,rfl,by simp[g1];omega,hall',g2,g3⟩
  ·simp at h
 ·simp at h
theorem pE {P:Program}{w:World}{m:Mem}{t:TypeId}{p c:CV}{v:Value}(hR:MR K m.get Q w) (hp:V K m.get Q true p v) (h:eW P m t p=some c) :
  ∃u,(Instr.loadAt t v).run P w=.ok u w∧V K m.get Q true c u:=by
 unfold eW at h
 split at h
 ·rename_i ht
  cases hs:bK P t with
  |none=>simp[hs] at h
  |some sz=>
   simp only[hs,Option.bind_some,Option.map_eq_some_iff] at h;obtain⟨cs,hcs,rfl⟩:=h;obtain⟨b,o,vs,rfl,hl,hall,hV,hc⟩:=iF hR hp hcs;have:=run_loadCells_list (P:=P) (w:=w) ⟨b,o,Option.none⟩ vs λj u hu=>by rw[Addr.add_none];exact hc j u hu
   refine⟨.agg vs.toArray,?_,?_⟩
   ·simp[Instr.loadAt,Instr.sureAddr,loadVar,K3 ht,co hs,←hl,this]
   ·simp only[V];exact⟨hall,vs.toArray,rfl,by simpa using hV⟩
 ·rename_i ht
  cases hcs:bN m p 1 with
  |none=>simp[hcs] at h
  |some cs=>
   simp only[hcs,Option.bind_some] at h;obtain⟨b,o,vs,rfl,hl,hall,hV,hc⟩:=iF hR hp hcs
   match vs,hl with
   |[u],_=>
    match cs,h,hV with
    |x::r,h,hV=>
     simp only[List.head?_cons,Option.some.injEq] at h;subst h;simp only[Vs] at hV;obtain⟨u',r',he,hx,_⟩:=hV;simp only[List.cons.injEq] at he;obtain⟨rfl,_⟩:=he
     refine⟨u,?_,hx⟩
     have:=hc 0 u (by simp);simp only[Nat.add_zero] at this;simp[Instr.loadAt,Instr.sureAddr,loadVar,K3 ht,this]
 ·simp at h
theorem jv {P:Program}{w:World}{t:TypeId}{cs:List CV}{off:Nat}{c:CV}{vs:Array Value}{loc:Bool}(hall:cs.all bE=true) (hV:Vs K M Q loc cs vs.toList) (h:iu P t cs off=some c) :
  ∃u,(part t vs off).run P w=.ok u w∧V K M Q loc c u:=by
 have hlen:=bT hV;simp only[Array.length_toList] at hlen;unfold iu at h
 split at h
 ·rename_i ht
  simp only[Option.map_eq_some_iff] at h;obtain⟨sz,hs,rfl⟩:=h
  refine⟨.agg (vs.extract off (off+sz)),by simp[part,K3 ht,co hs],?_⟩
  simp only[V]
  refine⟨List.all_eq_true.2 λx hx=>List.all_eq_true.1 hall x (List.mem_of_mem_drop (List.mem_of_mem_take hx)),_,rfl,?_⟩
  refine pi (by simp[hlen]<;>omega) λi x hx=>?_;rw[List.getElem?_take] at hx
  split at hx
  ·rename_i hi
   rw[List.getElem?_drop] at hx;obtain⟨v,h1,h2⟩:=dX hV hx
   refine⟨v,?_,h2⟩
   have hlt:off+i<vs.size:=by
    have:=(List.getElem?_eq_some_iff.1 hx).1;omega
   simp only[Array.getElem?_toList] at h1 ⊢;rw[Array.getElem?_extract];rw[if_pos (by omega)];exact h1
  ·simp at hx
 ·rename_i ht
  obtain⟨v,h1,h2⟩:=dX hV h
  refine⟨v,?_,h2⟩
  simp only[Array.getElem?_toList] at h1;simp[part,K3 ht,h1]
 ·simp at h
end
end Go.Cm
namespace Go.Cm
section
variable {K:KM}{Q:PM}{P:Program}{w:World}{m:Mem}
abbrev Vt (K:KM) (m:Mem) (Q:PM) (c:CV) (v:Value):Prop:=V K m.get Q true c v
theorem ceq_run:∀(d:Nat) (t:TypeId) (x y:CV) (r:Bool),ceq P d t x y=some r→∀{loc:Bool}{M:MM}(v u:Value),V K M Q loc x v→V K M Q loc y u→∀D,d≤D →
  (Op.equalIn D t v u).run P w=.ok r w:=by
 intro d
 induction d with
 |zero=>intro t x y r h;simp[ceq] at h
 |succ d ih=>
  intro t x y r h loc M v u hv hu D hD;obtain⟨D,rfl⟩:∃e,D=e+1:=⟨D - 1,by omega⟩;unfold ceq at h
  split at h
  ·rename_i hk
   split at h
   ·simp only[V] at hv hu;subst hv hu
    simp only[Option.some.injEq] at h;subst h;simp[Op.equalIn,underlying,hk]
   ·simp at h
  ·rename_i k hk
   split at h
   ·simp only[V] at hv hu;subst hv hu
    split at h
    ·rename_i he;subst he
     simp only[Option.some.injEq] at h;subst h;simp[Op.equalIn,underlying,hk]
    ·simp at h
   ·simp at h
  ·rename_i hk
   split at h
   ·simp only[V] at hv hu;subst hv hu
    simp only[Option.some.injEq] at h;subst h;simp[Op.equalIn,underlying,hk]
   ·simp at h
  ·rename_i e hk
   split at h
   ·simp only[V] at hv hu;subst hv hu
    simp only[Option.some.injEq] at h;subst h;simp[Op.equalIn,underlying,hk]
   ·simp only[V] at hv hu;subst hv
    obtain⟨_,b,o,rfl,_⟩:=hu;simp only[Option.some.injEq] at h;subst h;simp[Op.equalIn,underlying,hk]
   ·simp only[V] at hv hu;subst hu
    obtain⟨_,b,o,rfl,_⟩:=hv;simp only[Option.some.injEq] at h;subst h;simp[Op.equalIn,underlying,hk]
   ·simp only[V] at hv hu;subst hu
    obtain⟨_,_,_,_,_,rfl,_⟩:=hv;simp only[Option.some.injEq] at h;subst h;simp[Op.equalIn,underlying,hk]
   ·simp at h
  ·rename_i e hk
   split at h
   ·simp only[V] at hv hu;subst hv hu
    simp only[Option.some.injEq] at h;subst h;simp[Op.equalIn,underlying,hk]
   ·simp only[V] at hv hu;subst hu
    obtain⟨_,a,cap,rfl,_,hv⟩:=hv;rcases hv with hv|⟨b,o,rfl,_⟩
    ·cases hv
    ·simp only[Option.some.injEq] at h;subst h
     simp[Op.equalIn,underlying,hk]
   ·simp only[V] at hv hu;subst hu
    obtain⟨_,_,a,cap,_,_,rfl,hc,ha,_⟩:=hv;obtain⟨a,rfl⟩:∃b,a=some b:=by
     rcases ha with ha|ha
     ·omega
     ·exact Option.isSome_iff_exists.1 ha
    simp only[Option.some.injEq] at h;subst h;simp[Op.equalIn,underlying,hk]
   ·simp at h
  ·rename_i e1 e2 hk
   split at h
   ·simp only[V] at hv hu;subst hv hu
    simp only[Option.some.injEq] at h;subst h;simp[Op.equalIn,underlying,hk]
   ·simp only[V] at hv hu;subst hu
    obtain⟨_,_,_,_,_,rfl,_⟩:=hv;simp only[Option.some.injEq] at h;subst h;simp[Op.equalIn,underlying,hk]
   ·simp at h
  ·rename_i e hk
   split at h
   ·simp only[V] at hv hu;subst hv hu
    simp only[Option.some.injEq] at h;subst h;simp[Op.equalIn,underlying,hk]
   ·simp only[V] at hv hu;subst hv
    obtain⟨z,rfl,_⟩:=hu;simp only[Option.some.injEq] at h;subst h;simp[Op.equalIn,underlying,hk]
   ·simp only[V] at hv hu;subst hu
    obtain⟨z,rfl,_⟩:=hv;simp only[Option.some.injEq] at h;subst h;simp[Op.equalIn,underlying,hk]
   ·rename_i tx vx ty vy
    simp only[V] at hv hu;obtain⟨a,rfl,ha⟩:=hv;obtain⟨b,rfl,hb⟩:=hu
    split at h
    ·rename_i hne
     simp only[Option.some.injEq] at h;subst h;simp[Op.equalIn,underlying,hk,hne]
    ·rename_i he
     simp only[ne_eq,Decidable.not_not] at he;subst he
     split at h
     ·rename_i hcomp
      cases hi:P.info? tx with
      |none=>simp[hi] at hcomp
      |some i=>
       simp only[hi,Option.map_some,Option.some.injEq] at hcomp;have:=ih tx vx vy r h a b ha hb D (by omega);simp[Op.equalIn,underlying,hk,typeInfo,hi,hcomp,this]
     ·simp at h
   ·simp at h
  ·rename_i fields hk
   split at h
   ·rename_i xs ys
    split at h
    ·simp at h
    ·rename_i hst
     simp only[V] at hv hu;obtain⟨hax,vs,rfl,hvs⟩:=hv;obtain⟨hay,us,rfl,hus⟩:=hu;have hfs:P.fieldsOf t=fields:=by unfold Program.fieldsOf;rw[hk]
     rw[run_equalIn_struct w D t vs us (by rw[hfs];exact hk) (by simpa using hst),hfs];clear hk hfs hst;generalize fields.toList=fs at h
     induction fs with
     |nil=>simp only[DQ,Option.some.injEq] at h;subst h;simp[Op.eqFields]
     |cons f fs ihf=>
      simp only[DQ] at h;simp only[Op.eqFields]
      by_cases hn:f.name = "_"
      ·simp only[hn,if_true] at h
       simp only[hn,ne_eq,not_true_eq_false,if_false];exact ihf h
      ·simp only[hn,if_false] at h
       simp only[hn,ne_eq,not_false_eq_true,if_true]
       cases hpa:iu P f.type xs f.offset with
       |none=>simp[hpa] at h
       |some a=>
        cases hpb:iu P f.type ys f.offset with
        |none=>simp[hpa,hpb] at h
        |some b=>
         simp only[hpa,hpb] at h;obtain⟨a',ha1,ha2⟩:=jv (P:=P) (w:=w) hax hvs hpa;obtain⟨b',hb1,hb2⟩:=jv (P:=P) (w:=w) hay hus hpb;simp only[Sem.run_bind,ha1,hb1,Result.andThen_ok]
         cases hq:ceq P d f.type a b with
         |none=>simp[hq] at h
         |some r'=>
          rw[ih f.type a b r' hq a' b' ha2 hb2 D (by omega)];simp only[hq] at h
          cases r' with
          |true=>simp only[] at h;simpa using ihf h
          |false=>simp only[Option.some.injEq] at h;subst h;simp
   ·simp at h
  ·simp at h
def lF:Value→Bool
 |.int _ _=>false
 |.float _ _=>false
 |.complex _ _ _=>false
 |.string _=>false
 |_=>true
theorem wS {t:TypeId}{v u:Value}(hv:lF v=true):binOp .eql t v u=(do pure (.bool (←Op.equal t v u))):=by
 cases v<;>first|(simp[lF] at hv;done)|(cases u<;>rfl)
theorem wT {t:TypeId}{v u:Value}(hv:lF v=true):binOp .neq t v u=(do pure (.bool (!(←Op.equal t v u)))):=by
 cases v<;>first|(simp[lF] at hv;done)|(cases u<;>rfl)
theorem V_plain {loc:Bool}{M:MM}{c:CV}{v:Value}(h:V K M Q loc c v) (h0:c≠.dead) (h1:∀k n,c≠.int k n) (h2:∀s,c≠.str s):lF v=true:=by
 cases c<;>simp only[ne_eq,not_true_eq_false,reduceCtorEq,not_false_eq_true,CV.int.injEq,CV.str.injEq] at h0 h1 h2
 all_goals simp only[V] at h
 case int k n=>exact absurd ⟨rfl,rfl⟩ (h1 k n)
 case str s=>exact absurd rfl (h2 s)
 all_goals
  first
   |(subst h;rfl)
   |(obtain⟨_,_,_,h,_⟩:=h;subst h;rfl)
   |(obtain⟨_,_,_,_,_,_,h,_⟩:=h;subst h;rfl)
   |(obtain⟨_,_,_,_,_,h,_⟩:=h;subst h;rfl)
   |(obtain⟨_,_,h,_⟩:=h;subst h;rfl)
   |(obtain⟨_,h,_⟩:=h;subst h;rfl)
theorem rG {d:Nat}{t:TypeId}{x y:CV}{r:Bool}(h:ceq P d t x y=some r):x≠.dead:=by
 rintro rfl
 cases d with
 |zero=>simp[ceq] at h
 |succ d=>unfold ceq at h;split at h<;>simp at h
theorem xP {loc:Bool}{M:MM}{c:CV}(h:V K M Q loc c .nilIface):c=.inil∨c=.dead:=by
 cases c<;>simp only[V] at h
 case inil=>exact .inl rfl
 case dead=>exact .inr rfl
 all_goals
  first
   |exact h.elim
   |(cases h;done)
   |(obtain⟨_,_,_,h,_⟩:=h;cases h;done)
   |(obtain⟨_,_,_,_,_,_,h,_⟩:=h;cases h;done)
   |(obtain⟨_,_,_,_,_,h,_⟩:=h;cases h;done)
   |(obtain⟨_,_,h,_⟩:=h;cases h;done)
   |(obtain⟨_,h,_⟩:=h;cases h;done)
theorem V_agg {loc:Bool}{M:MM}{c:CV}{vs:Array Value}(h:V K M Q loc c (.agg vs)):(∃cs,c=.agg cs)∨c=.dead:=by
 cases c<;>simp only[V] at h
 case agg cs=>exact .inl ⟨cs,rfl⟩
 case dead=>exact .inr rfl
 all_goals
  first
   |exact h.elim
   |(cases h;done)
   |(obtain⟨_,_,_,h,_⟩:=h;cases h;done)
   |(obtain⟨_,_,_,_,_,_,h,_⟩:=h;cases h;done)
   |(obtain⟨_,_,_,_,_,h,_⟩:=h;cases h;done)
   |(obtain⟨_,_,h,_⟩:=h;cases h;done)
   |(obtain⟨_,h,_⟩:=h;cases h;done)
theorem jH {op:BinOp}{t:TypeId}{x y:Operand}{v u:Value}(h1:v=.nilIface→u≠.nilIface) (h2:∀a b,v=.agg a→u≠.agg b) :
  (eqGuard op t x y v u).run P w=.ok () w:=by
 unfold eqGuard
 cases op<;>first
  |(simp;done)
  |(simp only[Bool.not_true,Bool.false_eq_true,if_false]
    split
    ·exact absurd rfl (h1 rfl)
    ·exact absurd rfl (h2 _ _ rfl)
    ·simp)
theorem l9 {op:BinOp}{t:TypeId}{x y:Operand}{a b:CV}{r:Bool}{v u:Value}(hv:Vt K m Q a v) (hu:Vt K m Q b u) (h:eqC P t x y a b=some r) :
  (eqGuard op t x y v u).run P w=.ok () w:=by
 unfold eqC at h
 split at h
 ·simp only[Vt,V] at hv hu;subst hv hu
  split at h
  ·rename_i hc
   cases x<;>cases y<;>simp[qE] at hc<;>cases op<;>simp[eqGuard]
  ·simp at h
 ·simp only[Vt,V] at hv hu
  obtain⟨_,vs,rfl,_⟩:=hv;obtain⟨_,us,rfl,_⟩:=hu
  split at h
  ·simp at h
  ·rename_i hg
   unfold eqGuard
   cases op<;>simp[hg]
 ·rename_i h1 h2
  have hk:=rG h
  apply jH
  ·rintro rfl rfl
   rcases xP hv with rfl|rfl
   ·rcases xP hu with rfl|rfl
    ·exact h1 rfl rfl
    ·simp[ceq] at h
     split at h<;>simp at h
   ·exact hk rfl
  ·rintro _ _ rfl rfl
   rcases V_agg hv with⟨_,rfl⟩|rfl
   ·rcases V_agg hu with⟨_,rfl⟩|rfl
    ·exact h2 _ _ rfl rfl
    ·simp[ceq] at h
     split at h<;>simp at h
   ·exact hk rfl
theorem eqC_ceq {t:TypeId}{x y:Operand}{a b:CV}{r:Bool}(h:eqC P t x y a b=some r):ceq P 20 t a b=some r:=by
 unfold eqC at h
 split at h
 ·split at h
  ·exact h
  ·simp at h
 ·split at h
  ·simp at h
  ·exact h
 ·exact h
theorem ceq_int {d:Nat}{t:TypeId}{k:IntKind}{i:Int}{y:CV}{r:Bool}(h:ceq P d t (.int k i) y=some r):∃k' j,y=.int k' j:=by
 cases d with
 |zero=>simp[ceq] at h
 |succ d=>
  unfold ceq at h
  split at h<;>(try (simp at h;done))
  split at h
  ·exact⟨_,_,rfl⟩
  ·simp at h
theorem ceq_str {d:Nat}{t:TypeId}{i:ByteArray}{y:CV}{r:Bool}(h:ceq P d t (.str i) y=some r):∃j,y=.str j:=by
 cases d with
 |zero=>simp[ceq] at h
 |succ d=>
  unfold ceq at h
  split at h<;>(try (simp at h;done))
  split at h
  ·exact⟨_,rfl⟩
  ·simp at h
theorem tW {op:BinOp}{k:IntKind}{a b:Int}{c:CV}{t:TypeId}(hs:op≠.shl) (hs':op≠.shr) (h:fv op k a b=some c) :
  ∃v,(binOp op t (.int k a) (.int k b)).run P w=.ok v w∧V K m.get Q true c v:=by
 cases op<;>simp only[fv,Option.some.injEq,reduceCtorEq] at h<;>first
  |exact absurd rfl hs
  |exact absurd rfl hs'
  |(subst h;exact⟨_,by simp[binOp,Op.intArith,Op.intCmp,Op.intBits];first|done|rfl,by simp[V,lY]⟩)
  |(split at h
    ·simp at h
    ·rename_i hz
     simp only[Option.some.injEq] at h;subst h
     exact⟨_,by simp[binOp,Op.intDiv,hz];first|done|rfl,by simp[V]⟩)
theorem KS {op:BinOp}{t:TypeId}{x y:Operand}{v u:Value}(h1:v≠.nilIface) (h2:∀a,v≠.agg a):(eqGuard op t x y v u).run P w=.ok () w:=
 jH (λh=>absurd h h1) (λa _ h=>absurd h (h2 a))
theorem DP {op:BinOp}{t:TypeId}{x y:Operand}{a b c:CV}{v u:Value}(hv:Vt K m Q a v) (hu:Vt K m Q b u) (h:aw P op t x y a b=some c) :
  ∃r,((do eqGuard op t x y v u;binOp op t v u):Sem Value).run P w=.ok r w∧Vt K m Q c r:=by
 unfold aw at h
 split at h
 ·rename_i k a k' b
  simp only[Vt,V] at hv hu;subst hv hu;simp only[Sem.run_bind,KS (P:=P) (w:=w) (op:=op) (t:=t) (x:=x) (y:=y) (v:=.int k a) (u:=.int k' b) (by simp) (by simp),Result.andThen_ok]
  split at h
  ·simp only[qY] at h
   split at h
   ·simp at h
   ·rename_i hlt
    simp only[Option.some.injEq] at h;subst h
    exact⟨_,by simp[binOp,Op.shift,hlt];rfl,by simp[Vt,V]⟩
  ·simp only[qY] at h
   split at h
   ·simp at h
   ·rename_i hlt
    simp only[Option.some.injEq] at h;subst h
    exact⟨_,by simp[binOp,Op.shift,hlt];rfl,by simp[Vt,V]⟩
  ·rename_i hs hs'
   split at h
   ·rename_i he;subst he
    exact tW hs hs' h
   ·simp at h
 ·rename_i a b
  simp only[Vt,V] at hv hu;subst hv hu;simp only[Sem.run_bind,KS (P:=P) (w:=w) (op:=op) (t:=t) (x:=x) (y:=y) (v:=.string a) (u:=.string b) (by simp) (by simp),Result.andThen_ok]
  split at h
  ·simp only[Option.some.injEq] at h;subst h
   exact⟨.bool (a.toList==b.toList),by simp[binOp,Op.stringOp],by simp[Vt,V]⟩
  ·simp only[Option.some.injEq] at h;subst h
   exact⟨.bool (!(a.toList==b.toList)),by simp[binOp,Op.stringOp],by simp[Vt,V]⟩
  ·simp at h
 ·rename_i hi hs
  have key:∀r,eqC P t x y a b=some r→lF v=true∧(Op.equal t v u).run P w=.ok r w:=by
   intro r hr;have hc:=eqC_ceq hr
   refine⟨V_plain hv (rG hc) ?_ ?_,ceq_run 20 t a b r hc v u hv hu 10000 (by omega)⟩
   ·rintro k n rfl
    obtain⟨k',j,rfl⟩:=ceq_int hc;exact hi _ _ _ _ rfl rfl
   ·rintro s rfl
    obtain⟨j,rfl⟩:=ceq_str hc;exact hs _ _ rfl rfl
  split at h
  ·cases hr:eqC P t x y a b with
   |none=>simp[hr] at h
   |some r=>
    simp only[hr,Option.map_some,Option.some.injEq] at h;subst h;obtain⟨h1,h2⟩:=key r hr
    exact⟨.bool r,by simp only[Sem.run_bind,l9 hv hu hr,Result.andThen_ok,wS h1,h2,Sem.run_pure],by simp[Vt,V]⟩
  ·cases hr:eqC P t x y a b with
   |none=>simp[hr] at h
   |some r=>
    simp only[hr,Option.map_some,Option.some.injEq] at h;subst h;obtain⟨h1,h2⟩:=key r hr
    exact⟨.bool (!r),by simp only[Sem.run_bind,l9 hv hu hr,Result.andThen_ok,wT h1,h2,Sem.run_pure],by simp[Vt,V]⟩
  ·simp at h
end
end Go.Cm
namespace Go.Cm
section
variable {K:KM}{Q:PM}{P:Program}{w:World}{m:Mem}
theorem cun_run {op:UnOp}{a c:CV}{v:Value}(hv:Vt K m Q a v) (h:cun op a=some c):∃r,(Op.unary op v).run P w=.ok r w∧Vt K m Q c r:=by
 unfold cun at h
 split at h
 ·simp only[Vt,V] at hv;subst hv;simp only[Option.some.injEq] at h;subst h
  exact⟨_,by simp[Op.unary,Op.intArith];rfl,by simp[Vt,V]⟩
 ·simp only[Vt,V] at hv;subst hv;simp only[Option.some.injEq] at h;subst h
  exact⟨_,by simp[Op.unary,Op.intBits];rfl,by simp[Vt,V,lY]⟩
 ·simp only[Vt,V] at hv;subst hv;simp only[Option.some.injEq] at h;subst h
  exact⟨_,by simp[Op.unary];rfl,by simp[Vt,V]⟩
 ·simp at h
theorem jN {α β:Type}(f:α→Sem β) (g:α→β) (w:World):∀(l:List α),(∀x∈l,(f x).run P w=.ok (g x) w)→(l.mapM f).run P w=.ok (l.map g) w
 |[],_=>by simp
 |x::l,h=>by
  simp only[List.mapM_cons,Sem.run_bind,h x (by simp),Result.andThen_ok,jN f g w l (λy hy=>h y (by simp[hy])),Sem.run_pure,List.map_cons]
theorem Eo {α β:Type}(f:α→Sem β) (g:α→β) (w:World) (l:Array α) (h:∀x∈l.toList,(f x).run P w=.ok (g x) w):(l.mapM f).run P w=.ok (l.map g) w:=by
 rw[Array.mapM_eq_mapM_toList];simp only[Sem.run_map,jN f g w l.toList h,Result.andThen_ok]
 congr 1
 apply Array.ext'
 simp
theorem ff {cs new:List CV}{off:Nat}(h:off+new.length≤cs.length):(ay cs off new).length=cs.length:=by
 simp[ay];omega
theorem iq {cs new:List CV}{off:Nat}(h:off+new.length≤cs.length) (i:Nat) :
  (ay cs off new)[i]?=if off≤i∧i<off+new.length then new[i - off]? else cs[i]?:=by
 simp only[ay]
 by_cases h1:i<off
 ·rw[List.getElem?_append_left (by simp;omega),List.getElem?_take,if_pos h1,if_neg (by omega)]
 ·rw[List.getElem?_append_right (by simp;omega)]
  simp only[List.length_take];rw[show min off cs.length=off from by omega]
  by_cases h2:i<off+new.length
  ·rw[List.getElem?_append_left (by omega),if_pos (by omega)]
  ·rw[List.getElem?_append_right (by omega),List.getElem?_drop,if_neg (by omega)]
   congr 1;omega
theorem tn {cs new:List CV}{off:Nat}{p:CV→Bool}(h1:cs.all p=true) (h2:new.all p=true):(ay cs off new).all p=true:=by
 simp only[ay,List.all_append,Bool.and_eq_true,List.all_eq_true] at *
 exact⟨λx hx=>h1 x (List.mem_of_mem_take hx),h2,λx hx=>h1 x (List.mem_of_mem_drop hx)⟩
theorem xh (vs:List Value):∀(cells:Array Value) (off k:Nat),
  ((vs.zipIdx k).foldl (λ(cs:Array Value) (x:Value×Nat)=>cs.setIfInBounds (off+x.2) x.1) cells).size=cells.size ∧
  ∀i,((vs.zipIdx k).foldl (λ(cs:Array Value) (x:Value×Nat)=>cs.setIfInBounds (off+x.2) x.1) cells)[i]? =
   if off+k≤i∧i<off+k+vs.length∧i<cells.size then vs[i - (off+k)]? else cells[i]?:=by
 induction vs with
 |nil=>intro cells off k;simp;intro i h1 h2;omega
 |cons v vs ih=>
  intro cells off k;simp only[List.zipIdx_cons,List.foldl_cons];obtain⟨h1,h2⟩:=ih (cells.setIfInBounds (off+k) v) off (k+1)
  refine⟨by simpa using h1,λi=>?_⟩
  rw[h2 i];simp only[Array.size_setIfInBounds,List.length_cons]
  by_cases hi:i=off+k
  ·subst hi
   rw[if_neg (by omega)]
   by_cases hs:off+k<cells.size
   ·rw[if_pos (by omega)];simp[hs]
   ·rw[if_neg (by omega)]
    rw[Array.getElem?_eq_none (by simp;omega),Array.getElem?_eq_none (by omega)]
  ·by_cases hc:off+(k+1)≤i∧i<off+(k+1)+vs.length∧i<cells.size
   ·rw[if_pos hc,if_pos (by omega)]
    rw[show i - (off+k)=i - (off+(k+1))+1 from by omega];simp
   ·rw[if_neg hc,if_neg (by omega)]
    exact Array.getElem?_setIfInBounds_ne (by omega)
theorem LF {M:MM}{loc:Bool}{place:Nat→Option (Nat×Nat)}:∀(parts:List (Nat×CV)) (vparts:List (Nat×Value)) (cells:List CV) (vs:Array Value) (cs':List CV),
  parts.length=vparts.length→(∀(i:Nat) (a:Nat×CV) (b:Nat×Value),parts[i]?=some a→vparts[i]?=some b→a.1=b.1∧V K M Q loc a.2 b.2)→cells.all bE=true→Vs K M Q loc cells vs.toList→KT place cells parts=some cs' →
  ∃vs':Array Value,Instr.fill place vs vparts=some vs'∧cs'.all bE=true∧Vs K M Q loc cs' vs'.toList∧cs'.length=cells.length:=by
 intro parts
 induction parts with
 |nil=>
  intro vparts cells vs cs' hl _ hall hV h;have:vparts=[]:=List.eq_nil_of_length_eq_zero (by simpa using hl.symm);subst this;simp only[KT,Option.some.injEq] at h;subst h
  exact⟨vs,by simp[Instr.fill],hall,hV,rfl⟩
 |cons a parts ih=>
  intro vparts cells vs cs' hl hp hall hV h;obtain⟨i,c⟩:=a
  cases vparts with
  |nil=>simp at hl
  |cons b vparts=>
   obtain⟨i',v⟩:=b;obtain⟨hii,hcv⟩:=hp 0 (i,c) (i',v) (by simp) (by simp);simp only[] at hii;subst hii;simp only[] at hcv;simp only[KT] at h;simp only[Instr.fill]
   cases hpl:place i with
   |none=>simp[hpl] at h
   |some os=>
    obtain⟨off,size⟩:=os;simp only[hpl] at h ⊢
    cases hcc:ap c with
    |none=>simp[hcc] at h
    |some ccs=>
     simp only[hcc] at h
     split at h
     ·rename_i hcond
      obtain⟨hc1,hc2⟩:=iE hcc hcv;have hlen1:=bT hc2;have hlen2:=bT hV;simp only[Array.length_toList] at hlen1 hlen2;have hcond':(decide (v.cells.size≠size)||decide (off+v.cells.size>vs.size))=false:=by simp;omega
      simp only[hcond',Bool.false_eq_true,if_false];have hz:v.cells.zipIdx.foldl (λcs (x:Value×Nat)=>cs.setIfInBounds (off+x.2) x.1) vs=(v.cells.toList.zipIdx 0).foldl (λ(cs:Array Value) (x:Value×Nat)=>cs.setIfInBounds (off+x.2) x.1) vs:=by
       rw[←Array.foldl_toList,Array.toList_zipIdx]
      obtain⟨f1,f2⟩:=xh v.cells.toList vs off 0;have hnew:=ih vparts (ay cells off ccs) ((v.cells.toList.zipIdx 0).foldl (λ(cs:Array Value) (x:Value×Nat)=>cs.setIfInBounds (off+x.2) x.1) vs) cs' (by simpa using hl)
       (λj a b ha hb=>hp (j+1) a b (by simpa using ha) (by simpa using hb)) (tn hall hc1) ?_ h
      ·obtain⟨vs',h1,h2,h3,h4⟩:=hnew
       refine⟨vs',?_,h2,h3,by rw[h4,ff (by omega)]⟩
       rw[←h1];exact congrArg (λz=>Instr.fill place z vparts) hz
      ·refine pi (by simp only[Array.length_toList];rw[f1,ff (by omega)];omega) λj x hx=>?_
       rw[iq (by omega)] at hx;simp only[Array.getElem?_toList];rw[f2 j]
       split at hx
       ·rename_i hj
        rw[if_pos (show off+0≤j∧j<off+0+v.cells.toList.length∧j<vs.size by simp only[Array.length_toList];omega)];obtain⟨u,hu,hxu⟩:=dX hc2 hx
        exact⟨u,by simpa using hu,hxu⟩
       ·rename_i hj
        rw[if_neg (show ¬(off+0≤j∧j<off+0+v.cells.toList.length∧j<vs.size) by simp only[Array.length_toList];omega)];obtain⟨u,hu,hxu⟩:=dX hV hx
        exact⟨u,by simpa using hu,hxu⟩
     ·simp at h
theorem fG {c:CV}{n:Nat}{v:Value}(hv:Vt K m Q c v) (h:eH c=some n):∃k i,v=.int k i∧0≤i∧i.toNat=n:=by
 unfold eH at h
 split at h
 ·simp only[Vt,V] at hv;subst hv
  split at h
  ·simp only[Option.some.injEq] at h
   exact⟨_,_,rfl,by assumption,h⟩
  ·simp at h
 ·simp at h
theorem eT {v:Value}{k:IntKind}{i:Int}{y:Nat}{code:BoundsCode}(hv:v=.int k i) (h0:0≤i) (h1:i.toNat≤y):(Instr.sliceBound v y code).run P w=.ok i.toNat w:=by
 subst hv;simp only[Instr.sliceBound,asIntOf,Sem.run_bind,Sem.run_pure,Result.andThen_ok];rw[if_pos ⟨h0,by omega⟩];simp
def iU (K:KM) (m:Mem) (Q:PM):Option CV→Option Value→Prop
 |none,none=>True
 |some c,some v=>Vt K m Q c v
 |_,_=>False
theorem LB {b:Bool}{len cap l h:Nat}{lo hi mx:Option CV}{lo' hi' mx':Option Value}(hcap:len≤cap)
  (hlo:iU K m Q lo lo') (hhi:iU K m Q hi hi') (hmx:iU K m Q mx mx')
  (hm:qN hi mx=true)
  (hb:fp len lo hi=some (l,h)) :
  ∃c,(Instr.sliceBounds b len cap lo' hi' mx').run P w=.ok (l,h,c) w∧h≤c∧c≤cap∧l≤h∧h≤len:=by
 unfold fp at hb
 cases hi with
 |none=>
  cases hi' with
  |some _=>simp[iU] at hhi
  |none=>
   cases mx with
   |some _=>simp[qN] at hm
   |none=>
    cases mx' with
    |some _=>simp[iU] at hmx
    |none=>
     cases lo with
     |none=>
      cases lo' with
      |some _=>simp[iU] at hlo
      |none=>
       simp only[] at hb
       split at hb
       ·simp only[Option.some.injEq,Prod.mk.injEq] at hb
        obtain⟨rfl,rfl⟩:=hb
        exact⟨cap,by simp[Instr.sliceBounds],hcap,Nat.le_refl _,by omega,Nat.le_refl _⟩
       ·simp at hb
     |some c=>
      cases lo' with
      |none=>simp[iU] at hlo
      |some v=>
       simp only[] at hb
       cases ha:eH c with
       |none=>simp[ha] at hb
       |some n=>
        simp only[ha] at hb
        split at hb
        ·simp only[Option.some.injEq,Prod.mk.injEq] at hb
         obtain⟨rfl,rfl⟩:=hb;obtain⟨k,i,hv,h0,h1⟩:=fG (show Vt K m Q c v from hlo) ha
         refine⟨cap,?_,hcap,Nat.le_refl _,by omega,Nat.le_refl _⟩
         have:=eT (P:=P) (w:=w) (y:=len) (code:=.sliceB) hv h0 (by omega);simp[Instr.sliceBounds,this,h1]
        ·simp at hb
 |some hc=>
  cases hi' with
  |none=>simp[iU] at hhi
  |some hv=>
   simp only[] at hb
   cases hah:eH hc with
   |none=>simp[hah] at hb
   |some hn=>
    obtain⟨kh,ih,hvh,h0h,h1h⟩:=fG (show Vt K m Q hc hv from hhi) hah;simp only[hah] at hb;have h3:∃c,hn≤c∧c≤cap∧((mx'=none∧c=cap)∨(∃v k i,mx'=some v∧v=.int k i∧0≤i∧i.toNat=hn∧c=hn))∧hn≤len:=by
     have hle:hn≤len:=by
      cases lo with
      |none=>simp only[] at hb;split at hb<;>simp at hb;omega
      |some c=>
       simp only[] at hb
       cases ha:eH c with
       |none=>simp[ha] at hb
       |some n=>simp only[ha] at hb;split at hb<;>simp at hb;omega
     cases mx with
     |none=>
      cases mx' with
      |some _=>simp[iU] at hmx
      |none=>exact⟨cap,by omega,Nat.le_refl _,.inl ⟨rfl,rfl⟩,hle⟩
     |some mc=>
      cases mx' with
      |none=>simp[iU] at hmx
      |some mv=>
       cases hc<;>simp only[qN,Bool.false_eq_true] at hm
       rename_i kb bb
       cases mc<;>simp only[qN,Bool.false_eq_true] at hm
       rename_i ka aa;simp only[beq_iff_eq] at hm;subst hm;have hmv:Vt K m Q _ mv:=hmx;simp only[Vt,V] at hmv;have hhv:Vt K m Q _ hv:=hhi;simp only[Vt,V] at hhv;rw[hvh] at hhv;simp only[Value.int.injEq] at hhv
       exact⟨hn,Nat.le_refl _,by omega,.inr ⟨mv,_,_,rfl,hmv,by omega,by omega,rfl⟩,hle⟩
    obtain⟨c,hc1,hc2,hc3,hle⟩:=h3;have hrunh:∀y code,hn≤y→(Instr.sliceBound hv y code).run P w=.ok hn w:=λy code hy=>by
     rw[←h1h];exact eT hvh h0h (by omega)
    have hlow:∃l',(match lo' with|some v=>Instr.sliceBound v hn (if mx'.isSome then .slice3C else .sliceB)|none=>pure 0).run P w=.ok l' w∧l'=l∧h=hn∧l≤hn:=by
     cases lo with
     |none=>
      cases lo' with
      |some _=>simp[iU] at hlo
      |none=>
       simp only[] at hb
       split at hb
       ·simp only[Option.some.injEq,Prod.mk.injEq] at hb
        exact⟨0,by simp,hb.1,hb.2.symm,by omega⟩
       ·simp at hb
     |some lc=>
      cases lo' with
      |none=>simp[iU] at hlo
      |some lv=>
       simp only[] at hb
       cases ha:eH lc with
       |none=>simp[ha] at hb
       |some n=>
        simp only[ha] at hb
        split at hb
        ·simp only[Option.some.injEq,Prod.mk.injEq] at hb
         obtain⟨k,i,hv',h0,h1⟩:=fG (show Vt K m Q lc lv from hlo) ha
         exact⟨i.toNat,eT hv' h0 (by omega),by omega,hb.2.symm,by omega⟩
        ·simp at hb
    obtain⟨l',hl1,rfl,rfl,hl4⟩:=hlow
    refine⟨c,?_,hc1,hc2,hl4,hle⟩
    rcases hc3 with⟨rfl,rfl⟩|⟨mv,k,i,rfl,hmv,h0,h1,rfl⟩
    ·cases lo' with
     |none=>simp at hl1;subst hl1;simp[Instr.sliceBounds,hrunh _ _ hc1]
     |some v=>simp at hl1;simp[Instr.sliceBounds,hrunh _ _ hc1,hl1]
    ·have hm1:∀code,(Instr.sliceBound mv cap code).run P w=.ok c w:=λcode=>by
      rw[←h1];exact eT hmv h0 (by omega)
     cases lo' with
     |none=>simp at hl1;subst hl1;simp[Instr.sliceBounds,hm1,hrunh _ _ (Nat.le_refl _)]
     |some v=>simp at hl1;simp[Instr.sliceBounds,hm1,hrunh _ _ (Nat.le_refl _),hl1]
end
end Go.Cm
