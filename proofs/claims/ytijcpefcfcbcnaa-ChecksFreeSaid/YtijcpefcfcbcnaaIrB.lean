import Derived.Test.YtijcpefcfcbcnaaIrA
set_option linter.unusedSimpArgs false
set_option linter.unusedVariables false
namespace Go.Ir
open Go.Gr
end Go.Ir
