import Derived.Test.YtlflghggdpbcnaaGreatGyA
set_option linter.unusedSimpArgs false
set_option linter.unusedVariables false
namespace Go.Cm
open Go.Proofs
noncomputable section
theorem cl52 {m : Mem} {p : CV} : cload Tryz.prog m 52 p = ldA 8 m p := by kernel_rfl
end
end Go.Cm
