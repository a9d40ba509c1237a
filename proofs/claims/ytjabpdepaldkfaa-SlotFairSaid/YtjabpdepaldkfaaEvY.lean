/- Ev: rows with package tables; flat arguments. -/
import Derived.Test.YtjabpdepaldkfaaEvX
import Derived.OpenShut
import Derived.Lib.LaidU8
import Derived.MakeChecks
set_option linter.all false
namespace Go.Ev
open Go.RowKit

/-! a flat value: whole numbers and bools, cell by cell -/
end Go.Ev
