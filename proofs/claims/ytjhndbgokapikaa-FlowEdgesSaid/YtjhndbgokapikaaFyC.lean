import Derived.Test.YtjhndbgokapikaaFyB
set_option linter.unusedSimpArgs false
set_option linter.unusedVariables false
namespace Go.Cm
open Go.Proofs
noncomputable section
end
end Go.Cm
