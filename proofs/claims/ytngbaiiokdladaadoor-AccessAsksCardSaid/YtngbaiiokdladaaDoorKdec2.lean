/- dev: what records say, the document's answer -/
import Derived.Test.YtngbaiiokdladaaDoorKdec
set_option linter.all false
namespace Go.Ev
open Go Go.Proofs
set_option maxRecDepth 4000
set_option maxHeartbeats 4000000
end Go.Ev
