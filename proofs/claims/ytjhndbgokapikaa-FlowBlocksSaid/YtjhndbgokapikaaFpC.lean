import Derived.Test.YtjhndbgokapikaaFpB
import Derived.KernelRfl
set_option linter.unusedSimpArgs false
set_option linter.unusedVariables false
namespace Go.Cm
open Go.Proofs
theorem Qf:is18 run18=true:=by kernel_rfl
theorem Qe:is11 run11=true:=by kernel_rfl
end Go.Cm
