import Derived.Test.YtijcpefcfcbcnaaIyD
set_option linter.unusedSimpArgs false
set_option linter.unusedVariables false
namespace Go.Cm
open Go.Proofs
-- clevis/clevisref15.walk
end Go.Cm
