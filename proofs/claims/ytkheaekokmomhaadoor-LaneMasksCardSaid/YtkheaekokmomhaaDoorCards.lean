/-
  DERIVED. GIVEN WITH THE SEED: THE CARDS: each row of YtkheaekokmomhaaDoorRows.lean that lists a variable, with what it lists TIED to the program's text (the seventh form; the later family's looks); each row that meets fmt, with fmt's text TOLD by the authors' own Lean function (tested against real Go, not proved from fmt's source: count such statements apart). THE CARD IS WHAT COUNTS. Prove the row's statement (the work); the ties are given (YtkheaekokmomhaaDoorTie.lean); close each card by the builder's one call (the guide's Derived/Test/ToyasCard.lean, 'card_holds'). Laid BY PROGRAM, IN A SANDBOX (cutbox-door.mjs). By AI agents, Wed Nov 11 2026. No macro, syntax, notation, axiom, sorry.
-/
import Derived.Test.YtkheaekokmomhaaDoorRows
import GoSem.ClaimSeven
namespace Go.Proofs.YtkheaekokmomhaaDoor
namespace Rows

/-- THE TIED CARD OF 'septumlaw03.LanePlaces'. -/
def lanePlacesCard : Claim7 := { stood := { row := lanePlacesRow, standIns := [], harness := (true, "4be238cb31771d3d7efc704f3900ce6b6c62ede052faad4a756a1332e6f4c80f"), looks := false }, kinds := [], alts := [], laidByText := true, laidKinds := [.widerDeep, .data], laidTests := true, laidLooks := .later }
def LanePlacesCardSaid : Prop := Claim7.holds Tryd.pinned (.plain (OpenSpec.ofChange lanePlacesSpec)) lanePlacesCard

/-- THE TIED CARD OF 'septumlaw03.LaneMoves'. -/
def laneMovesCard : Claim7 := { stood := { row := laneMovesRow, standIns := [], harness := (true, "4be238cb31771d3d7efc704f3900ce6b6c62ede052faad4a756a1332e6f4c80f"), looks := false }, kinds := [], alts := [], laidByText := true, laidKinds := [.widerDeep, .data], laidTests := true, laidLooks := .later }
def LaneMovesCardSaid : Prop := Claim7.holds Tryd.pinned (.plain (OpenSpec.ofChange laneMovesSpec)) laneMovesCard

/-- THE TIED CARD OF 'septumlaw03.LaneEnds'. -/
def laneEndsCard : Claim7 := { stood := { row := laneEndsRow, standIns := [], harness := (true, "4be238cb31771d3d7efc704f3900ce6b6c62ede052faad4a756a1332e6f4c80f"), looks := false }, kinds := [], alts := [], laidByText := true, laidKinds := [.widerDeep, .data], laidTests := true, laidLooks := .later }
def LaneEndsCardSaid : Prop := Claim7.holds Tryd.pinned (.plain (OpenSpec.ofChange laneEndsSpec)) laneEndsCard

/-- THE TIED CARD OF 'septumlaw03.LaneBack'. -/
def laneBackCard : Claim7 := { stood := { row := laneBackRow, standIns := [], harness := (true, "4be238cb31771d3d7efc704f3900ce6b6c62ede052faad4a756a1332e6f4c80f"), looks := false }, kinds := [], alts := [], laidByText := true, laidKinds := [.widerDeep, .data], laidTests := true, laidLooks := .later }
def LaneBackCardSaid : Prop := Claim7.holds Tryd.pinned (.plain (OpenSpec.ofChange laneBackSpec)) laneBackCard

/-- THE TIED CARD OF 'septumlaw03.LaneMasks'. -/
def laneMasksCard : Claim7 := { stood := { row := laneMasksRow, standIns := [], harness := (true, "4be238cb31771d3d7efc704f3900ce6b6c62ede052faad4a756a1332e6f4c80f"), looks := false }, kinds := [], alts := [], laidByText := true, laidKinds := [.widerDeep, .data], laidTests := true, laidLooks := .later }
def LaneMasksCardSaid : Prop := Claim7.holds Tryd.pinned (.plain (OpenSpec.ofChange laneMasksSpec)) laneMasksCard

/-- THE SECOND FORM's CARD OF 'septumlaw03.LanePlaces'. -/
def lanePlacesUptoCard : Claim7 := { stood := { row := lanePlacesUptoRow, standIns := [], harness := (true, "4be238cb31771d3d7efc704f3900ce6b6c62ede052faad4a756a1332e6f4c80f"), looks := false }, kinds := [], alts := [], laidByText := true, laidKinds := [.widerDeep, .data], laidTests := true, laidLooks := .later }
def LanePlacesUptoCardSaid : Prop := Claim7.holds Tryd.pinned (.plain (OpenSpec.upto lanePlacesSpec)) lanePlacesUptoCard

/-- THE SECOND FORM's CARD OF 'septumlaw03.LaneMoves'. -/
def laneMovesUptoCard : Claim7 := { stood := { row := laneMovesUptoRow, standIns := [], harness := (true, "4be238cb31771d3d7efc704f3900ce6b6c62ede052faad4a756a1332e6f4c80f"), looks := false }, kinds := [], alts := [], laidByText := true, laidKinds := [.widerDeep, .data], laidTests := true, laidLooks := .later }
def LaneMovesUptoCardSaid : Prop := Claim7.holds Tryd.pinned (.plain (OpenSpec.upto laneMovesSpec)) laneMovesUptoCard

/-- THE SECOND FORM's CARD OF 'septumlaw03.LaneEnds'. -/
def laneEndsUptoCard : Claim7 := { stood := { row := laneEndsUptoRow, standIns := [], harness := (true, "4be238cb31771d3d7efc704f3900ce6b6c62ede052faad4a756a1332e6f4c80f"), looks := false }, kinds := [], alts := [], laidByText := true, laidKinds := [.widerDeep, .data], laidTests := true, laidLooks := .later }
def LaneEndsUptoCardSaid : Prop := Claim7.holds Tryd.pinned (.plain (OpenSpec.upto laneEndsSpec)) laneEndsUptoCard

/-- THE SECOND FORM's CARD OF 'septumlaw03.LaneBack'. -/
def laneBackUptoCard : Claim7 := { stood := { row := laneBackUptoRow, standIns := [], harness := (true, "4be238cb31771d3d7efc704f3900ce6b6c62ede052faad4a756a1332e6f4c80f"), looks := false }, kinds := [], alts := [], laidByText := true, laidKinds := [.widerDeep, .data], laidTests := true, laidLooks := .later }
def LaneBackUptoCardSaid : Prop := Claim7.holds Tryd.pinned (.plain (OpenSpec.upto laneBackSpec)) laneBackUptoCard

/-- THE SECOND FORM's CARD OF 'septumlaw03.LaneMasks'. -/
def laneMasksUptoCard : Claim7 := { stood := { row := laneMasksUptoRow, standIns := [], harness := (true, "4be238cb31771d3d7efc704f3900ce6b6c62ede052faad4a756a1332e6f4c80f"), looks := false }, kinds := [], alts := [], laidByText := true, laidKinds := [.widerDeep, .data], laidTests := true, laidLooks := .later }
def LaneMasksUptoCardSaid : Prop := Claim7.holds Tryd.pinned (.plain (OpenSpec.upto laneMasksSpec)) laneMasksUptoCard
end Rows
end Go.Proofs.YtkheaekokmomhaaDoor
