/-
  DERIVED. GIVEN WITH THE SEED: THE CARDS: each row of YtngbaiiokdladaaDoorRows.lean that lists a variable, with what it lists TIED to the program's text (the seventh form; the later family's looks); each row that meets fmt, with fmt's text TOLD by the authors' own Lean function (tested against real Go, not proved from fmt's source: count such statements apart). THE CARD IS WHAT COUNTS. Prove the row's statement (the work); the ties are given (YtngbaiiokdladaaDoorTie.lean); close each card by the builder's one call (the guide's Derived/Test/ToyasCard.lean, 'card_holds'). Laid BY PROGRAM, IN A SANDBOX (cutbox-door.mjs). By AI agents, Wed Nov 11 2026. No macro, syntax, notation, axiom, sorry.
-/
import Derived.Test.YtngbaiiokdladaaDoorRows
import GoSem.ClaimSeven
namespace Go.Proofs.YtngbaiiokdladaaDoor
namespace Rows

/-- THE TIED CARD OF 'septumlaw04.AccessReads'. -/
def accessReadsCard : Claim7 := { stood := { row := accessReadsRow, standIns := [], harness := (true, "8128d3a7a06999bc17a11e058e5130f6d6582d6791fa47a3f68f2b4bc7d16397"), looks := false }, kinds := [], alts := [], laidByText := true, laidKinds := [.widerDeep], laidTests := true, laidLooks := .later }
def AccessReadsCardSaid : Prop := Claim7.holds Tryd.pinned (.plain (OpenSpec.ofChange accessReadsSpec)) accessReadsCard

/-- THE TIED CARD OF 'septumlaw04.AccessParts'. -/
def accessPartsCard : Claim7 := { stood := { row := accessPartsRow, standIns := [], harness := (true, "8128d3a7a06999bc17a11e058e5130f6d6582d6791fa47a3f68f2b4bc7d16397"), looks := false }, kinds := [], alts := [], laidByText := true, laidKinds := [.widerDeep], laidTests := true, laidLooks := .later }
def AccessPartsCardSaid : Prop := Claim7.holds Tryd.pinned (.plain (OpenSpec.ofChange accessPartsSpec)) accessPartsCard

/-- THE TIED CARD OF 'septumlaw04.AccessAsks'. -/
def accessAsksCard : Claim7 := { stood := { row := accessAsksRow, standIns := [], harness := (true, "8128d3a7a06999bc17a11e058e5130f6d6582d6791fa47a3f68f2b4bc7d16397"), looks := false }, kinds := [], alts := [], laidByText := true, laidKinds := [.widerDeep], laidTests := true, laidLooks := .later }
def AccessAsksCardSaid : Prop := Claim7.holds Tryd.pinned (.plain (OpenSpec.ofChange accessAsksSpec)) accessAsksCard

/-- THE TIED CARD OF 'septumlaw04.AccessEnds'. -/
def accessEndsCard : Claim7 := { stood := { row := accessEndsRow, standIns := [], harness := (true, "8128d3a7a06999bc17a11e058e5130f6d6582d6791fa47a3f68f2b4bc7d16397"), looks := false }, kinds := [], alts := [], laidByText := true, laidKinds := [.widerDeep], laidTests := true, laidLooks := .later }
def AccessEndsCardSaid : Prop := Claim7.holds Tryd.pinned (.plain (OpenSpec.ofChange accessEndsSpec)) accessEndsCard

/-- THE TIED CARD OF 'septumlaw04.AccessBack'. -/
def accessBackCard : Claim7 := { stood := { row := accessBackRow, standIns := [], harness := (true, "8128d3a7a06999bc17a11e058e5130f6d6582d6791fa47a3f68f2b4bc7d16397"), looks := false }, kinds := [], alts := [], laidByText := true, laidKinds := [.widerDeep], laidTests := true, laidLooks := .later }
def AccessBackCardSaid : Prop := Claim7.holds Tryd.pinned (.plain (OpenSpec.ofChange accessBackSpec)) accessBackCard

/-- THE SECOND FORM's CARD OF 'septumlaw04.AccessReads'. -/
def accessReadsUptoCard : Claim7 := { stood := { row := accessReadsUptoRow, standIns := [], harness := (true, "8128d3a7a06999bc17a11e058e5130f6d6582d6791fa47a3f68f2b4bc7d16397"), looks := false }, kinds := [], alts := [], laidByText := true, laidKinds := [.widerDeep], laidTests := true, laidLooks := .later }
def AccessReadsUptoCardSaid : Prop := Claim7.holds Tryd.pinned (.plain (OpenSpec.upto accessReadsSpec)) accessReadsUptoCard

/-- THE SECOND FORM's CARD OF 'septumlaw04.AccessParts'. -/
def accessPartsUptoCard : Claim7 := { stood := { row := accessPartsUptoRow, standIns := [], harness := (true, "8128d3a7a06999bc17a11e058e5130f6d6582d6791fa47a3f68f2b4bc7d16397"), looks := false }, kinds := [], alts := [], laidByText := true, laidKinds := [.widerDeep], laidTests := true, laidLooks := .later }
def AccessPartsUptoCardSaid : Prop := Claim7.holds Tryd.pinned (.plain (OpenSpec.upto accessPartsSpec)) accessPartsUptoCard

/-- THE SECOND FORM's CARD OF 'septumlaw04.AccessAsks'. -/
def accessAsksUptoCard : Claim7 := { stood := { row := accessAsksUptoRow, standIns := [], harness := (true, "8128d3a7a06999bc17a11e058e5130f6d6582d6791fa47a3f68f2b4bc7d16397"), looks := false }, kinds := [], alts := [], laidByText := true, laidKinds := [.widerDeep], laidTests := true, laidLooks := .later }
def AccessAsksUptoCardSaid : Prop := Claim7.holds Tryd.pinned (.plain (OpenSpec.upto accessAsksSpec)) accessAsksUptoCard

/-- THE SECOND FORM's CARD OF 'septumlaw04.AccessEnds'. -/
def accessEndsUptoCard : Claim7 := { stood := { row := accessEndsUptoRow, standIns := [], harness := (true, "8128d3a7a06999bc17a11e058e5130f6d6582d6791fa47a3f68f2b4bc7d16397"), looks := false }, kinds := [], alts := [], laidByText := true, laidKinds := [.widerDeep], laidTests := true, laidLooks := .later }
def AccessEndsUptoCardSaid : Prop := Claim7.holds Tryd.pinned (.plain (OpenSpec.upto accessEndsSpec)) accessEndsUptoCard

/-- THE SECOND FORM's CARD OF 'septumlaw04.AccessBack'. -/
def accessBackUptoCard : Claim7 := { stood := { row := accessBackUptoRow, standIns := [], harness := (true, "8128d3a7a06999bc17a11e058e5130f6d6582d6791fa47a3f68f2b4bc7d16397"), looks := false }, kinds := [], alts := [], laidByText := true, laidKinds := [.widerDeep], laidTests := true, laidLooks := .later }
def AccessBackUptoCardSaid : Prop := Claim7.holds Tryd.pinned (.plain (OpenSpec.upto accessBackSpec)) accessBackUptoCard
end Rows
end Go.Proofs.YtngbaiiokdladaaDoor
