import Derived.Test.YtlflghggdpbcnaaGreatCxH
set_option linter.unusedSimpArgs false
set_option linter.unusedVariables false
namespace Go.Cm
end Go.Cm
