/-
  DERIVED. GIVEN WITH THE SEED: THE CARDS: each row of YtidpndncnhdkiaaDoorRows.lean that lists a variable, with what it lists TIED to the program's text (the seventh form; the later family's looks); each row that meets fmt, with fmt's text TOLD by the authors' own Lean function (tested against real Go, not proved from fmt's source: count such statements apart). THE CARD IS WHAT COUNTS. Prove the row's statement (the work); the ties are given (YtidpndncnhdkiaaDoorTie.lean); close each card by the builder's one call (the guide's Derived/Test/ToyasCard.lean, 'card_holds'). Laid BY PROGRAM, IN A SANDBOX (cutbox-door.mjs). By AI agents, Wed Nov 11 2026. No macro, syntax, notation, axiom, sorry.
-/
import Derived.Test.YtidpndncnhdkiaaDoorRows
import GoSem.ClaimSeven
namespace Go.Proofs.YtidpndncnhdkiaaDoor
namespace Rows

/-- THE TIED CARD OF 'septumlaw06.RegionAsks'. -/
def regionAsksCard : Claim7 := { stood := { row := regionAsksRow, standIns := [], harness := (true, "b3b3a9a9c161fe625a420b5474acb590f7f13b23abef12663977cd5400f54534"), looks := false }, kinds := [], alts := [], laidByText := true, laidKinds := [.widerDeep], laidTests := true, laidLooks := .later }
def RegionAsksCardSaid : Prop := Claim7.holds Tryd.pinned (.plain (OpenSpec.ofChange regionAsksSpec)) regionAsksCard

/-- THE TIED CARD OF 'septumlaw06.RegionEnds'. -/
def regionEndsCard : Claim7 := { stood := { row := regionEndsRow, standIns := [], harness := (true, "b3b3a9a9c161fe625a420b5474acb590f7f13b23abef12663977cd5400f54534"), looks := false }, kinds := [], alts := [], laidByText := true, laidKinds := [.widerDeep], laidTests := true, laidLooks := .later }
def RegionEndsCardSaid : Prop := Claim7.holds Tryd.pinned (.plain (OpenSpec.ofChange regionEndsSpec)) regionEndsCard

/-- THE TIED CARD OF 'septumlaw06.RegionClashes'. -/
def regionClashesCard : Claim7 := { stood := { row := regionClashesRow, standIns := [], harness := (true, "b3b3a9a9c161fe625a420b5474acb590f7f13b23abef12663977cd5400f54534"), looks := false }, kinds := [], alts := [], laidByText := true, laidKinds := [.widerDeep], laidTests := true, laidLooks := .later }
def RegionClashesCardSaid : Prop := Claim7.holds Tryd.pinned (.plain (OpenSpec.ofChange regionClashesSpec)) regionClashesCard

/-- THE TIED CARD OF 'septumlaw06.RegionLess'. -/
def regionLessCard : Claim7 := { stood := { row := regionLessRow, standIns := [], harness := (true, "b3b3a9a9c161fe625a420b5474acb590f7f13b23abef12663977cd5400f54534"), looks := false }, kinds := [], alts := [], laidByText := true, laidKinds := [.widerDeep], laidTests := true, laidLooks := .later }
def RegionLessCardSaid : Prop := Claim7.holds Tryd.pinned (.plain (OpenSpec.ofChange regionLessSpec)) regionLessCard

/-- THE SECOND FORM's CARD OF 'septumlaw06.RegionAsks'. -/
def regionAsksUptoCard : Claim7 := { stood := { row := regionAsksUptoRow, standIns := [], harness := (true, "b3b3a9a9c161fe625a420b5474acb590f7f13b23abef12663977cd5400f54534"), looks := false }, kinds := [], alts := [], laidByText := true, laidKinds := [.widerDeep], laidTests := true, laidLooks := .later }
def RegionAsksUptoCardSaid : Prop := Claim7.holds Tryd.pinned (.plain (OpenSpec.upto regionAsksSpec)) regionAsksUptoCard

/-- THE SECOND FORM's CARD OF 'septumlaw06.RegionEnds'. -/
def regionEndsUptoCard : Claim7 := { stood := { row := regionEndsUptoRow, standIns := [], harness := (true, "b3b3a9a9c161fe625a420b5474acb590f7f13b23abef12663977cd5400f54534"), looks := false }, kinds := [], alts := [], laidByText := true, laidKinds := [.widerDeep], laidTests := true, laidLooks := .later }
def RegionEndsUptoCardSaid : Prop := Claim7.holds Tryd.pinned (.plain (OpenSpec.upto regionEndsSpec)) regionEndsUptoCard

/-- THE SECOND FORM's CARD OF 'septumlaw06.RegionClashes'. -/
def regionClashesUptoCard : Claim7 := { stood := { row := regionClashesUptoRow, standIns := [], harness := (true, "b3b3a9a9c161fe625a420b5474acb590f7f13b23abef12663977cd5400f54534"), looks := false }, kinds := [], alts := [], laidByText := true, laidKinds := [.widerDeep], laidTests := true, laidLooks := .later }
def RegionClashesUptoCardSaid : Prop := Claim7.holds Tryd.pinned (.plain (OpenSpec.upto regionClashesSpec)) regionClashesUptoCard

/-- THE SECOND FORM's CARD OF 'septumlaw06.RegionLess'. -/
def regionLessUptoCard : Claim7 := { stood := { row := regionLessUptoRow, standIns := [], harness := (true, "b3b3a9a9c161fe625a420b5474acb590f7f13b23abef12663977cd5400f54534"), looks := false }, kinds := [], alts := [], laidByText := true, laidKinds := [.widerDeep], laidTests := true, laidLooks := .later }
def RegionLessUptoCardSaid : Prop := Claim7.holds Tryd.pinned (.plain (OpenSpec.upto regionLessSpec)) regionLessUptoCard
end Rows
end Go.Proofs.YtidpndncnhdkiaaDoor
