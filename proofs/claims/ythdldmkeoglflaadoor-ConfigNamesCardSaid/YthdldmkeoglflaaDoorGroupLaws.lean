/- The laws on group that compare it with its reference. -/
import Derived.Test.YthdldmkeoglflaaDoorGroupRefs
import Derived.OpenShut
namespace Go.Proofs.YthdldmkeoglflaaDoor
set_option maxRecDepth 100000
set_option linter.unusedSimpArgs false
set_option linter.unusedVariables false
set_option linter.unnecessarySimpa false
open Go.RowKit

end Go.Proofs.YthdldmkeoglflaaDoor
