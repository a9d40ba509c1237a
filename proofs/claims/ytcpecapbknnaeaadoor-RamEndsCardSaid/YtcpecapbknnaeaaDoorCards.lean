/-
  DERIVED. GIVEN WITH THE SEED: THE CARDS: each row of YtcpecapbknnaeaaDoorRows.lean that lists a variable, with what it lists TIED to the program's text (the seventh form; the later family's looks); each row that meets fmt, with fmt's text TOLD by the authors' own Lean function (tested against real Go, not proved from fmt's source: count such statements apart). THE CARD IS WHAT COUNTS. Prove the row's statement (the work); the ties are given (YtcpecapbknnaeaaDoorTie.lean); close each card by the builder's one call (the guide's Derived/Test/ToyasCard.lean, 'card_holds'). Laid BY PROGRAM, IN A SANDBOX (cutbox-door.mjs). By AI agents, Wed Nov 11 2026. No macro, syntax, notation, axiom, sorry.
-/
import Derived.Test.YtcpecapbknnaeaaDoorRows
import GoSem.ClaimSeven
namespace Go.Proofs.YtcpecapbknnaeaaDoor
namespace Rows

/-- THE TIED CARD OF 'septumlaw09.RamApart'. -/
def ramApartCard : Claim7 := { stood := { row := ramApartRow, standIns := [], harness := (true, "93b25cf644b2153e74e4309fc5d100cccab3f43165023edad6fec6dbca590c28"), looks := false }, kinds := [], alts := [], laidByText := true, laidKinds := [.widerDeep, .data], laidTests := true, laidLooks := .later }
def RamApartCardSaid : Prop := Claim7.holds Tryd.pinned (.plain (OpenSpec.ofChange ramApartSpec)) ramApartCard

/-- THE TIED CARD OF 'septumlaw09.RamDoes'. -/
def ramDoesCard : Claim7 := { stood := { row := ramDoesRow, standIns := [], harness := (true, "93b25cf644b2153e74e4309fc5d100cccab3f43165023edad6fec6dbca590c28"), looks := false }, kinds := [], alts := [], laidByText := true, laidKinds := [.widerDeep, .data], laidTests := true, laidLooks := .later }
def RamDoesCardSaid : Prop := Claim7.holds Tryd.pinned (.plain (OpenSpec.ofChange ramDoesSpec)) ramDoesCard

/-- THE TIED CARD OF 'septumlaw09.RamEnds'. -/
def ramEndsCard : Claim7 := { stood := { row := ramEndsRow, standIns := [], harness := (true, "93b25cf644b2153e74e4309fc5d100cccab3f43165023edad6fec6dbca590c28"), looks := false }, kinds := [], alts := [], laidByText := true, laidKinds := [.widerDeep, .data], laidTests := true, laidLooks := .later }
def RamEndsCardSaid : Prop := Claim7.holds Tryd.pinned (.plain (OpenSpec.ofChange ramEndsSpec)) ramEndsCard

/-- THE TIED CARD OF 'septumlaw09.RamKeeps'. -/
def ramKeepsCard : Claim7 := { stood := { row := ramKeepsRow, standIns := [], harness := (true, "93b25cf644b2153e74e4309fc5d100cccab3f43165023edad6fec6dbca590c28"), looks := false }, kinds := [], alts := [], laidByText := true, laidKinds := [.widerDeep, .data], laidTests := true, laidLooks := .later }
def RamKeepsCardSaid : Prop := Claim7.holds Tryd.pinned (.plain (OpenSpec.ofChange ramKeepsSpec)) ramKeepsCard

/-- THE SECOND FORM's CARD OF 'septumlaw09.RamApart'. -/
def ramApartUptoCard : Claim7 := { stood := { row := ramApartUptoRow, standIns := [], harness := (true, "93b25cf644b2153e74e4309fc5d100cccab3f43165023edad6fec6dbca590c28"), looks := false }, kinds := [], alts := [], laidByText := true, laidKinds := [.widerDeep, .data], laidTests := true, laidLooks := .later }
def RamApartUptoCardSaid : Prop := Claim7.holds Tryd.pinned (.plain (OpenSpec.upto ramApartSpec)) ramApartUptoCard

/-- THE SECOND FORM's CARD OF 'septumlaw09.RamDoes'. -/
def ramDoesUptoCard : Claim7 := { stood := { row := ramDoesUptoRow, standIns := [], harness := (true, "93b25cf644b2153e74e4309fc5d100cccab3f43165023edad6fec6dbca590c28"), looks := false }, kinds := [], alts := [], laidByText := true, laidKinds := [.widerDeep, .data], laidTests := true, laidLooks := .later }
def RamDoesUptoCardSaid : Prop := Claim7.holds Tryd.pinned (.plain (OpenSpec.upto ramDoesSpec)) ramDoesUptoCard

/-- THE SECOND FORM's CARD OF 'septumlaw09.RamEnds'. -/
def ramEndsUptoCard : Claim7 := { stood := { row := ramEndsUptoRow, standIns := [], harness := (true, "93b25cf644b2153e74e4309fc5d100cccab3f43165023edad6fec6dbca590c28"), looks := false }, kinds := [], alts := [], laidByText := true, laidKinds := [.widerDeep, .data], laidTests := true, laidLooks := .later }
def RamEndsUptoCardSaid : Prop := Claim7.holds Tryd.pinned (.plain (OpenSpec.upto ramEndsSpec)) ramEndsUptoCard

/-- THE SECOND FORM's CARD OF 'septumlaw09.RamKeeps'. -/
def ramKeepsUptoCard : Claim7 := { stood := { row := ramKeepsUptoRow, standIns := [], harness := (true, "93b25cf644b2153e74e4309fc5d100cccab3f43165023edad6fec6dbca590c28"), looks := false }, kinds := [], alts := [], laidByText := true, laidKinds := [.widerDeep, .data], laidTests := true, laidLooks := .later }
def RamKeepsUptoCardSaid : Prop := Claim7.holds Tryd.pinned (.plain (OpenSpec.upto ramKeepsSpec)) ramKeepsUptoCard
end Rows
end Go.Proofs.YtcpecapbknnaeaaDoor
