import Derived.Test.YtlflghggdpbcnaaGreatGpA
import Derived.KernelRfl
set_option linter.unusedSimpArgs false
set_option linter.unusedVariables false
namespace Go.Cm
open Go.Proofs
theorem run55_zero : isZero run55 = true := by kernel_rfl
end Go.Cm
