import Derived.Test.YtlflghggdpbcnaaGreatGpA
import Derived.KernelRfl
set_option linter.unusedSimpArgs false
set_option linter.unusedVariables false
namespace Go.Cm
open Go.Proofs
theorem hx25_true : isTrue25 hx25 = true := by kernel_rfl
end Go.Cm
