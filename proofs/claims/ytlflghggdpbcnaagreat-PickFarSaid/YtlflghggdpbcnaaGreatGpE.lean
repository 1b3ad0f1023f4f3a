import Derived.Test.YtlflghggdpbcnaaGreatGpA
import Derived.KernelRfl
set_option linter.unusedSimpArgs false
set_option linter.unusedVariables false
namespace Go.Cm
open Go.Proofs
theorem run29_false : isFalse25 run29 = true := by kernel_rfl
end Go.Cm
