import Derived.Test.YtijcpefcfcbcnaaIzA
set_option linter.unusedSimpArgs false
set_option linter.unusedVariables false
namespace Go.Cm
open Go.Proofs
end Go.Cm
