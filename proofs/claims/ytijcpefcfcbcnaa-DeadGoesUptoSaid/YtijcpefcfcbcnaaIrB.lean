import Derived.Test.YtijcpefcfcbcnaaGrB
set_option linter.unusedSimpArgs false
set_option linter.unusedVariables false
namespace Go.Ir
open Go.Gr
end Go.Ir
namespace Go.Cm
open Go.Proofs
end Go.Cm
