import Derived.Test.YtijcpefcfcbcnaaCwJ
set_option linter.unusedSimpArgs false
set_option linter.unusedVariables false
namespace Go.Cm
section
variable {P:Program}{A:Ann}{F:aW}{fid:FuncId}{dr:Bool}{s:CS}{K:CS→Prop}{d:Tmp}{od:Option Tmp}{L:List CV}{m:Mem}
section
variable {t:TypeId}{x y:Operand}{k:IntKind}{a b:Int}{K:CV→Prop}
theorem kp {p:Prop} [Decidable p]:Obt (some (CV.bool (decide p))) K=((p→K (.bool true))∧(¬p→K (.bool false))):=by
 rw[aJ];by_cases h:p<;>simp[h]
theorem eN:Obt (aw P .lss t x y (.int k a) (.int k b)) K=((a<b→K (.bool true))∧(¬a<b→K (.bool false))):=by
 rw[←kp];simp[aw,fv]
theorem cB:Obt (aw P .leq t x y (.int k a) (.int k b)) K=((a≤b→K (.bool true))∧(¬a≤b→K (.bool false))):=by
 rw[←kp];simp[aw,fv]
theorem bq:Obt (aw P .gtr t x y (.int k a) (.int k b)) K=((b<a→K (.bool true))∧(¬b<a→K (.bool false))):=by
 rw[←kp];simp[aw,fv]
theorem gU:Obt (aw P .geq t x y (.int k a) (.int k b)) K=((b≤a→K (.bool true))∧(¬b≤a→K (.bool false))):=by
 rw[←kp];simp[aw,fv]
theorem gT:Obt (aw P .eql t x y (.int k a) (.int k b)) K=((a=b→K (.bool true))∧(¬a=b→K (.bool false))):=by
 rw[←kp];simp[aw,fv];rfl
theorem br:Obt (aw P .neq t x y (.int k a) (.int k b)) K=((a=b→K (.bool false))∧(¬a=b→K (.bool true))):=by
 have hb:(a != b)=!(decide (a=b)):=rfl;simp only[aw,if_true,fv,aJ,hb]
 by_cases h:a=b<;>simp[h]
theorem fc {b:Bool}:Obt (cun .not (.bool b)) K=K (.bool (!b)):=by simp[cun,aJ]
end
def bj (ML:List (Nat×HO)) (j:Nat):Nat:=((aK ML j).map HO.gn).getD 0+1
variable {ML:List (Nat×HO)}{H:List HO}
theorem dJ {m:Mem}{j:Nat}{mk:Nat→HO}:Mem.add m false j mk=(.l j,bj m.L j,⟨cF m.L j (mk (bj m.L j)),m.H⟩):=rfl
def bw (m:Mem) (j:Nat) (cs:List CV):Mem:=⟨cF m.L j (.var (bj m.L j) cs 0),m.H⟩
def bo (m:Mem) (j:Nat):CV:=.ptr (.l j) (bj m.L j) 0
theorem eQ {cs:List CV}{off:Nat}:(if off+1≤cs.length then some ((cs.drop off).take 1) else none).bind (·.head?)=cs[off]?:=by
 split
 ·rename_i h
  rw[Option.bind_some];have hlt:off<cs.length:=by omega
  rw[List.getElem?_eq_getElem hlt,List.drop_eq_getElem_cons hlt];rfl
 ·rename_i h
  rw[List.getElem?_eq_none (by omega)];rfl
theorem ng {f:FuncId}{args xs:List CV}{m1:Mem}{r:CV}{H':List HO}(hp:A.pure f=true) (hx:bp m args=some (xs,m1)) (hn:noGs xs=true) (hF:F f xs []=some (r,H')) (hr:noG r=true) :
  aB A F fid (some d) f args m=some (adopt ((A.glob fid).contains d) d r (if fa r then m else m1)):=by
 simp only[aB,hx,Option.bind_some,hp,if_true,hn,hF,hr,jf]
theorem nr {n:Nat}{cs:List CV}:cK (.imm n cs)=some n:=rfl
def gdO {α:Type}(c:CV) (w:Bool) (x:Option α) (dflt:α):Option α:=
 match c with
 |.bool b=>if b=w then x else some dflt
 |.tuple []=>some dflt
 |_=>none
theorem nL {α:Type}{x:Option α}{e:α}:gdO (.bool true) true x e=x:=rfl
theorem qy {α:Type}{x:Option α}{e:α}:gdO (.bool false) false x e=x:=rfl
theorem qz {α:Type}{x:Option α}{e:α}:gdO (.bool true) false x e=some e:=rfl
theorem lw {α:Type}{x:Option α}{e:α}:gdO (.bool false) true x e=some e:=rfl
theorem bI {α:Type}{w:Bool}{x:Option α}{e:α}:gdO (.tuple []) w x e=some e:=rfl
end
end Go.Cm
