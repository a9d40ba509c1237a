/- Ev: arguments that are slices of flat elements (whole numbers, bools, structs of them, nested too). -/
import Derived.Test.YtmdkhaoppklokaaDoorEvY
import Derived.WideShapes
import Derived.ChangeArms
import Derived.DataReads
set_option linter.all false
namespace Go.Ev
open Go.RowKit

section
variable {H : Type} {enc : TypeId × Value → H} {P : Program} {w : World} {base : Nat} {sp : Nat → Bool} {held : Bool}

end
end Go.Ev
