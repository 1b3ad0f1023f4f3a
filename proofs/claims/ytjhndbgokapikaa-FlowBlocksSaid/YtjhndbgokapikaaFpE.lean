import Derived.Test.YtjhndbgokapikaaFpB
import Derived.KernelRfl
set_option linter.unusedSimpArgs false
set_option linter.unusedVariables false
namespace Go.Cm
open Go.Proofs
theorem N4:LL hx14=true:=by kernel_rfl
end Go.Cm
