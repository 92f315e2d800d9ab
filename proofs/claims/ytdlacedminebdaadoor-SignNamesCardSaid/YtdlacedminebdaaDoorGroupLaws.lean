/- The laws on group that compare it with its reference. -/
import Derived.Test.YtdlacedminebdaaDoorGroupRefs
import Derived.OpenShut
namespace Go.Proofs.YtdlacedminebdaaDoor
set_option linter.unusedSimpArgs false
set_option linter.unusedVariables false
set_option linter.unnecessarySimpa false
open Go.RowKit

end Go.Proofs.YtdlacedminebdaaDoor
