import Derived.Test.YtjhndbgokapikaaCwP
set_option linter.unusedSimpArgs false
set_option linter.unusedVariables false
namespace Go.Cm
section
variable {P:Program}{A:Ann}{F:aW}{fid:FuncId}
theorem ov:∀(c:SC) (n n':Nat) (s:CS) (r:CE×CS),n≤n'→cA P A F fid n c s=some r→cA P A F fid n' c s=some r:=by
 intro c
 induction c with
 |seq x y ihx ihy=>
  intro n n' s r hle h;simp only[cA,Option.bind_eq_some_iff] at h ⊢;obtain⟨⟨e,s1⟩,h1,h2⟩:=h
  refine⟨_,ihx _ _ _ _ hle h1,?_⟩
  cases e
  case normal=>exact ihy _ _ _ _ hle h2
  all_goals exact h2
 |cond c x y ihx ihy=>
  intro n n' s r hle h;simp only[cA] at h ⊢
  split at h
  ·exact ihx _ _ _ _ hle h
  ·exact ihy _ _ _ _ hle h
  ·cases h
 |block id c ih=>
  intro n n' s r hle h;simp only[cA,Option.map_eq_some_iff] at h ⊢;obtain⟨r1,h1,h2⟩:=h
  exact⟨r1,ih _ _ _ _ hle h1,h2⟩
 |loop c ih=>
  intro n n' s r hle h;simp only[cA] at h ⊢;exact lz (λs r h=>ih _ _ _ _ hle h) _ _ _ _ hle h
 |_=>intro n n' s r hle h;simpa only[cA] using h
def Sx (P:Program) (A:Ann) (F:aW) (fid:FuncId) (c:SC) (s:CS) (r:CE×CS):Prop:=∃n,cA P A F fid n c s=some r
theorem Sx.of {c:SC}{s:CS}{r:CE×CS}(h:cA P A F fid 0 c s=some r):Sx P A F fid c s r:=⟨0,h⟩
theorem Sx.seq {x y:SC}{s s1:CS}{r:CE×CS}(h1:Sx P A F fid x s (.normal,s1)) (h2:Sx P A F fid y s1 r):Sx P A F fid (.seq x y) s r:=by
 obtain⟨n1,h1⟩:=h1;obtain⟨n2,h2⟩:=h2
 refine⟨max n1 n2,?_⟩
 simp only[cA,ov _ _ _ _ _ (Nat.le_max_left n1 n2) h1,Option.bind_some];exact ov _ _ _ _ _ (Nat.le_max_right n1 n2) h2
theorem Sx.block {id:Nat}{c:SC}{s:CS}{r r':CE×CS}(h:Sx P A F fid c s r) (hr:r'=(match r.1 with|.exit i=>if i=id then (.normal,r.2) else r|_=>r)):Sx P A F fid (.block id c) s r':=by
 obtain⟨n,h⟩:=h
 refine⟨n,?_⟩
 subst hr;simp only[cA,h,Option.map_some];obtain⟨e,s1⟩:=r
 cases e<;>rfl
theorem Sx.sim (hS:Sim P F) (hN:cm P=true) (hM:P.follows .mixedOrders=true) {f:FuncId}{fn:Func}{c:SC}{args:List CV}{H:List HO}{r:CE×CS}{vs xs:List CV}{m':Mem}{v:CV}{H':List HO}
  (hf:P.funcs[f]?=some fn) (hb:fn.body.bind (bh P A f fn.ntmps)=some c) (hlen:args.length≤fn.ntmps) (he:Sx P A F f c { sl:=args,m:={ L:=[],H:=H } } r) (hne:∀i,r.1≠.exit i)
  (hv:ii P r.2.sl r.2.m fn.results.toList=some vs) (hx:am gD vs r.2.m=some (xs,m')) (hvv:v=tup xs) (hH:H'=m'.H):SimAt P f args H v H':=by
 obtain⟨n,he⟩:=he;simp only[Option.bind_eq_some_iff] at hb;obtain⟨c0,hb,hs⟩:=hb;subst hvv hH;exact pw hS hN hM hf hb hlen (sH _ _ hs _ _ _ he) hne hv hx
end
end Go.Cm
namespace Go.Cm
def Obt {α:Type}(x:Option α) (K:α→Prop):Prop:=∃y,x=some y∧K y
theorem aJ {α:Type}{y:α}{K:α→Prop}:Obt (some y) K=K y:=propext ⟨λ⟨z,h,k⟩=>by simp only[Option.some.injEq] at h;subst h;exact k,λk=>⟨y,rfl,k⟩⟩
theorem mP {α:Type}{K:α→Prop}:Obt none K=False:=propext ⟨λ⟨_,h,_⟩=>(by cases h),False.elim⟩
theorem dU {α β:Type}{x:Option α}{f:α→β}{K:β→Prop}:Obt (x.map f) K=Obt x λy=>K (f y):=by
 cases x<;>simp[mP,aJ]
theorem cD {α β:Type}{x:Option α}{f:α→Option β}{K:β→Prop}:Obt (x.bind f) K=Obt x λy=>Obt (f y) K:=by
 cases x<;>simp[mP,aJ]
theorem Hq {α:Type}{c:Prop} [Decidable c] {x:Option α}{K:α→Prop}:Obt (if c then none else x) K=(¬c∧Obt x K):=by
 by_cases h:c<;>simp[h,mP]
theorem sI (n:Nat):bH [] n=.dead:=by cases n<;>rfl
section
variable (P:Program) (A:Ann) (F:aW) (fid:FuncId)
end
section
variable {P:Program}{A:Ann}{F:aW}{fid:FuncId}{s:CS}{Q:CE→CS→Prop}
def after (b:CS→Prop) (Q:CE→CS→Prop):CE→CS→Prop
 |.normal,s=>b s
 |e,s=>Q e s
def within (id:Nat) (Q:CE→CS→Prop):CE→CS→Prop
 |.exit i,s=>if i=id then Q .normal s else Q (.exit i) s
 |e,s=>Q e s
end
end Go.Cm
namespace Go.Cm
section
variable {P:Program}{A:Ann}{F:aW}{fid:FuncId}{dr:Bool}{s:CS}{K:CS→Prop}{d:Tmp}{od:Option Tmp}{L:List CV}{m:Mem}
section
variable {t:TypeId}{x y:Operand}{k:IntKind}{a b:Int}{K:CV→Prop}
theorem kp {p:Prop} [Decidable p]:Obt (some (CV.bool (decide p))) K=((p→K (.bool true))∧(¬p→K (.bool false))):=by
 rw[aJ];by_cases h:p<;>simp[h]
theorem eN:Obt (aw P .lss t x y (.int k a) (.int k b)) K=((a<b→K (.bool true))∧(¬a<b→K (.bool false))):=by
 rw[←kp];simp[aw,fv]
theorem cB:Obt (aw P .leq t x y (.int k a) (.int k b)) K=((a≤b→K (.bool true))∧(¬a≤b→K (.bool false))):=by
 rw[←kp];simp[aw,fv]
theorem bq:Obt (aw P .gtr t x y (.int k a) (.int k b)) K=((b<a→K (.bool true))∧(¬b<a→K (.bool false))):=by
 rw[←kp];simp[aw,fv]
theorem gU:Obt (aw P .geq t x y (.int k a) (.int k b)) K=((b≤a→K (.bool true))∧(¬b≤a→K (.bool false))):=by
 rw[←kp];simp[aw,fv]
theorem gT:Obt (aw P .eql t x y (.int k a) (.int k b)) K=((a=b→K (.bool true))∧(¬a=b→K (.bool false))):=by
 rw[←kp];simp[aw,fv];rfl
theorem br:Obt (aw P .neq t x y (.int k a) (.int k b)) K=((a=b→K (.bool false))∧(¬a=b→K (.bool true))):=by
 have hb:(a != b)=!(decide (a=b)):=rfl;simp only[aw,if_true,fv,aJ,hb]
 by_cases h:a=b<;>simp[h]
theorem fc {b:Bool}:Obt (cun .not (.bool b)) K=K (.bool (!b)):=by simp[cun,aJ]
end
def bj (ML:List (Nat×HO)) (j:Nat):Nat:=((aK ML j).map HO.gn).getD 0+1
variable {ML:List (Nat×HO)}{H:List HO}
theorem dJ {m:Mem}{j:Nat}{mk:Nat→HO}:Mem.add m false j mk=(.l j,bj m.L j,⟨gb m.L j (mk (bj m.L j)),m.H⟩):=rfl
def bw (m:Mem) (j:Nat) (cs:List CV):Mem:=⟨gb m.L j (.var (bj m.L j) cs 0),m.H⟩
def bo (m:Mem) (j:Nat):CV:=.ptr (.l j) (bj m.L j) 0
theorem eQ {cs:List CV}{off:Nat}:(if off+1≤cs.length then some ((cs.drop off).take 1) else none).bind (·.head?)=cs[off]?:=by
 split
 ·rename_i h
  rw[Option.bind_some];have hlt:off<cs.length:=by omega
  rw[List.getElem?_eq_getElem hlt,List.drop_eq_getElem_cons hlt];rfl
 ·rename_i h
  rw[List.getElem?_eq_none (by omega)];rfl
theorem ng {f:FuncId}{args xs:List CV}{m1:Mem}{r:CV}{H':List HO}(hp:A.pure f=true) (hx:bp m args=some (xs,m1)) (hn:noGs xs=true) (hF:F f xs []=some (r,H')) (hr:noG r=true) :
  cd A F fid (some d) f args m=some (adopt ((A.glob fid).contains d) d r (if fa r then m else m1)):=by
 simp only[cd,hx,Option.bind_some,hp,if_true,hn,hF,hr,jf]
def gdO {α:Type}(c:CV) (w:Bool) (x:Option α) (dflt:α):Option α:=
 match c with
 |.bool b=>if b=w then x else some dflt
 |.tuple []=>some dflt
 |_=>none
theorem nL {α:Type}{x:Option α}{e:α}:gdO (.bool true) true x e=x:=rfl
theorem qy {α:Type}{x:Option α}{e:α}:gdO (.bool false) false x e=x:=rfl
theorem qz {α:Type}{x:Option α}{e:α}:gdO (.bool true) false x e=some e:=rfl
theorem lw {α:Type}{x:Option α}{e:α}:gdO (.bool false) true x e=some e:=rfl
theorem bI {α:Type}{w:Bool}{x:Option α}{e:α}:gdO (.tuple []) w x e=some e:=rfl
end
end Go.Cm
