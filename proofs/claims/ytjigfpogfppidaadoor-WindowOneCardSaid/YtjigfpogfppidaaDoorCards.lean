/-
  DERIVED. GIVEN WITH THE SEED: THE CARDS: each row of YtjigfpogfppidaaDoorRows.lean that lists a variable, with what it lists TIED to the program's text (the seventh form; the later family's looks); each row that meets fmt, with fmt's text TOLD by the authors' own Lean function (tested against real Go, not proved from fmt's source: count such statements apart). THE CARD IS WHAT COUNTS. Prove the row's statement (the work); the ties are given (YtjigfpogfppidaaDoorTie.lean); close each card by the builder's one call (the guide's Derived/Test/ToyasCard.lean, 'card_holds'). Laid BY PROGRAM, IN A SANDBOX (cutbox-door.mjs). By AI agents, Wed Nov 11 2026. No macro, syntax, notation, axiom, sorry.
-/
import Derived.Test.YtjigfpogfppidaaDoorRows
import GoSem.ClaimSeven
namespace Go.Proofs.YtjigfpogfppidaaDoor
namespace Rows

/-- THE TIED CARD OF 'septumlaw08.WindowAsks'. -/
def windowAsksCard : Claim7 := { stood := { row := windowAsksRow, standIns := [], harness := (true, "cef1cefbad671b191349a5aa6bae7a489ddee2e5c57a0e243a0e9476502eaf1c"), looks := false }, kinds := [], alts := [], laidByText := true, laidKinds := [.widerDeep], laidTests := true, laidLooks := .later }
def WindowAsksCardSaid : Prop := Claim7.holds Tryd.pinned (.plain (OpenSpec.ofChange windowAsksSpec)) windowAsksCard

/-- THE TIED CARD OF 'septumlaw08.WindowEnds'. -/
def windowEndsCard : Claim7 := { stood := { row := windowEndsRow, standIns := [], harness := (true, "cef1cefbad671b191349a5aa6bae7a489ddee2e5c57a0e243a0e9476502eaf1c"), looks := false }, kinds := [], alts := [], laidByText := true, laidKinds := [.widerDeep], laidTests := true, laidLooks := .later }
def WindowEndsCardSaid : Prop := Claim7.holds Tryd.pinned (.plain (OpenSpec.ofChange windowEndsSpec)) windowEndsCard

/-- THE TIED CARD OF 'septumlaw08.WindowOne'. -/
def windowOneCard : Claim7 := { stood := { row := windowOneRow, standIns := [], harness := (true, "cef1cefbad671b191349a5aa6bae7a489ddee2e5c57a0e243a0e9476502eaf1c"), looks := false }, kinds := [], alts := [], laidByText := true, laidKinds := [.widerDeep], laidTests := true, laidLooks := .later }
def WindowOneCardSaid : Prop := Claim7.holds Tryd.pinned (.plain (OpenSpec.ofChange windowOneSpec)) windowOneCard

/-- THE TIED CARD OF 'septumlaw08.WindowApart'. -/
def windowApartCard : Claim7 := { stood := { row := windowApartRow, standIns := [], harness := (true, "cef1cefbad671b191349a5aa6bae7a489ddee2e5c57a0e243a0e9476502eaf1c"), looks := false }, kinds := [], alts := [], laidByText := true, laidKinds := [.widerDeep], laidTests := true, laidLooks := .later }
def WindowApartCardSaid : Prop := Claim7.holds Tryd.pinned (.plain (OpenSpec.ofChange windowApartSpec)) windowApartCard

/-- THE SECOND FORM's CARD OF 'septumlaw08.WindowAsks'. -/
def windowAsksUptoCard : Claim7 := { stood := { row := windowAsksUptoRow, standIns := [], harness := (true, "cef1cefbad671b191349a5aa6bae7a489ddee2e5c57a0e243a0e9476502eaf1c"), looks := false }, kinds := [], alts := [], laidByText := true, laidKinds := [.widerDeep], laidTests := true, laidLooks := .later }
def WindowAsksUptoCardSaid : Prop := Claim7.holds Tryd.pinned (.plain (OpenSpec.upto windowAsksSpec)) windowAsksUptoCard

/-- THE SECOND FORM's CARD OF 'septumlaw08.WindowEnds'. -/
def windowEndsUptoCard : Claim7 := { stood := { row := windowEndsUptoRow, standIns := [], harness := (true, "cef1cefbad671b191349a5aa6bae7a489ddee2e5c57a0e243a0e9476502eaf1c"), looks := false }, kinds := [], alts := [], laidByText := true, laidKinds := [.widerDeep], laidTests := true, laidLooks := .later }
def WindowEndsUptoCardSaid : Prop := Claim7.holds Tryd.pinned (.plain (OpenSpec.upto windowEndsSpec)) windowEndsUptoCard

/-- THE SECOND FORM's CARD OF 'septumlaw08.WindowOne'. -/
def windowOneUptoCard : Claim7 := { stood := { row := windowOneUptoRow, standIns := [], harness := (true, "cef1cefbad671b191349a5aa6bae7a489ddee2e5c57a0e243a0e9476502eaf1c"), looks := false }, kinds := [], alts := [], laidByText := true, laidKinds := [.widerDeep], laidTests := true, laidLooks := .later }
def WindowOneUptoCardSaid : Prop := Claim7.holds Tryd.pinned (.plain (OpenSpec.upto windowOneSpec)) windowOneUptoCard

/-- THE SECOND FORM's CARD OF 'septumlaw08.WindowApart'. -/
def windowApartUptoCard : Claim7 := { stood := { row := windowApartUptoRow, standIns := [], harness := (true, "cef1cefbad671b191349a5aa6bae7a489ddee2e5c57a0e243a0e9476502eaf1c"), looks := false }, kinds := [], alts := [], laidByText := true, laidKinds := [.widerDeep], laidTests := true, laidLooks := .later }
def WindowApartUptoCardSaid : Prop := Claim7.holds Tryd.pinned (.plain (OpenSpec.upto windowApartSpec)) windowApartUptoCard
end Rows
end Go.Proofs.YtjigfpogfppidaaDoor
