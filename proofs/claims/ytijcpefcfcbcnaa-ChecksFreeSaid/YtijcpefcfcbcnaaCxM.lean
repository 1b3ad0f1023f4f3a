import Derived.Test.YtijcpefcfcbcnaaCxH
set_option linter.unusedSimpArgs false
set_option linter.unusedVariables false
namespace Go.Cm
def iv:List (Bool×Nat)→Mem→Mem→Prop
 |[],_,_=>True
 |x::r,m,m'=>(x.1=false→aK m.L (16*x.2)=aK m'.L (16*x.2))∧iv r m m'
theorem xE {m m':Mem}:iv [] m m'=True:=rfl
theorem sameL_t {d:Nat}{r:List (Bool×Nat)}{m m':Mem}:iv ((true,d)::r) m m'=iv r m m':=by simp[iv]
theorem sameL_f {d:Nat}{r:List (Bool×Nat)}{m m':Mem}:iv ((false,d)::r) m m'=(aK m.L (16*d)=aK m'.L (16*d)∧iv r m m'):=by simp[iv]
theorem xD {off:List (Bool×Nat)}{m m':Mem}:iv off m m'=∀ z ∈ off,z.1=false→aK m.L (16*z.2)=aK m'.L (16*z.2):=by
 induction off with
 |nil=>simp[iv]
 |cons x r ih=>simp only[iv,ih,List.forall_mem_cons]
theorem wM {off:List (Bool×Nat)}{m:Mem}{x:Option (CV×Mem)}{K:CV×Mem→Prop}:Obt (qR off m x) K=Obt x fun y=>iv off m y.2∧K y:=by
 simp only[xL,xD]
end Go.Cm
