/- Ev: rows whose argument is a slice of structs of two whole numbers. -/
import Derived.Test.YtngbaiiokdladaaDoorEvT
import Derived.WideShapes
import Derived.ChangeArms
import Derived.Lib.SmallJoins
namespace Go.Ev
open Go.RowKit

section
variable {H : Type} {enc : TypeId × Value → H} {P : Program} {w : World} {base : Nat} {sp : Nat → Bool} {held : Bool}

end
end Go.Ev
