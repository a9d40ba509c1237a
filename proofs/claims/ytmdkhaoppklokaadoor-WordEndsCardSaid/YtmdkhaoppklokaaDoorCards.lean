/-
  DERIVED. GIVEN WITH THE SEED: THE CARDS: each row of YtmdkhaoppklokaaDoorRows.lean that lists a variable, with what it lists TIED to the program's text (the seventh form; the later family's looks); each row that meets fmt, with fmt's text TOLD by the authors' own Lean function (tested against real Go, not proved from fmt's source: count such statements apart). THE CARD IS WHAT COUNTS. Prove the row's statement (the work); the ties are given (YtmdkhaoppklokaaDoorTie.lean); close each card by the builder's one call (the guide's Derived/Test/ToyasCard.lean, 'card_holds'). Laid BY PROGRAM, IN A SANDBOX (cutbox-door.mjs). By AI agents, Wed Nov 11 2026. No macro, syntax, notation, axiom, sorry.
-/
import Derived.Test.YtmdkhaoppklokaaDoorRows
import GoSem.ClaimSeven
namespace Go.Proofs.YtmdkhaoppklokaaDoor
namespace Rows

/-- THE TIED CARD OF 'septumlaw01.WordReads'. -/
def wordReadsCard : Claim7 := { stood := { row := wordReadsRow, standIns := [], harness := (true, "6cef76eda044bd44d8be78540063d477d37fbcba4877643ff8e32dd1b2fe8a0d"), looks := false }, kinds := [], alts := [], laidByText := true, laidKinds := [.widerDeep, .widerDeep], laidTests := true, laidLooks := .later }
def WordReadsCardSaid : Prop := Claim7.holds Tryd.pinned (.plain (OpenSpec.ofChange wordReadsSpec)) wordReadsCard

/-- THE TIED CARD OF 'septumlaw01.WordParts'. -/
def wordPartsCard : Claim7 := { stood := { row := wordPartsRow, standIns := [], harness := (true, "6cef76eda044bd44d8be78540063d477d37fbcba4877643ff8e32dd1b2fe8a0d"), looks := false }, kinds := [], alts := [], laidByText := true, laidKinds := [.widerDeep, .widerDeep], laidTests := true, laidLooks := .later }
def WordPartsCardSaid : Prop := Claim7.holds Tryd.pinned (.plain (OpenSpec.ofChange wordPartsSpec)) wordPartsCard

/-- THE TIED CARD OF 'septumlaw01.WordWhole'. -/
def wordWholeCard : Claim7 := { stood := { row := wordWholeRow, standIns := [], harness := (true, "6cef76eda044bd44d8be78540063d477d37fbcba4877643ff8e32dd1b2fe8a0d"), looks := false }, kinds := [], alts := [], laidByText := true, laidKinds := [.widerDeep, .widerDeep], laidTests := true, laidLooks := .later }
def WordWholeCardSaid : Prop := Claim7.holds Tryd.pinned (.plain (OpenSpec.ofChange wordWholeSpec)) wordWholeCard

/-- THE TIED CARD OF 'septumlaw01.WordSums'. -/
def wordSumsCard : Claim7 := { stood := { row := wordSumsRow, standIns := [], harness := (true, "6cef76eda044bd44d8be78540063d477d37fbcba4877643ff8e32dd1b2fe8a0d"), looks := false }, kinds := [], alts := [], laidByText := true, laidKinds := [.widerDeep, .widerDeep], laidTests := true, laidLooks := .later }
def WordSumsCardSaid : Prop := Claim7.holds Tryd.pinned (.plain (OpenSpec.ofChange wordSumsSpec)) wordSumsCard

/-- THE TIED CARD OF 'septumlaw01.WordBack'. -/
def wordBackCard : Claim7 := { stood := { row := wordBackRow, standIns := [], harness := (true, "6cef76eda044bd44d8be78540063d477d37fbcba4877643ff8e32dd1b2fe8a0d"), looks := false }, kinds := [], alts := [], laidByText := true, laidKinds := [.widerDeep, .widerDeep], laidTests := true, laidLooks := .later }
def WordBackCardSaid : Prop := Claim7.holds Tryd.pinned (.plain (OpenSpec.ofChange wordBackSpec)) wordBackCard

/-- THE TIED CARD OF 'septumlaw01.WordEnds'. -/
def wordEndsCard : Claim7 := { stood := { row := wordEndsRow, standIns := [], harness := (true, "6cef76eda044bd44d8be78540063d477d37fbcba4877643ff8e32dd1b2fe8a0d"), looks := false }, kinds := [], alts := [], laidByText := true, laidKinds := [.widerDeep, .widerDeep], laidTests := true, laidLooks := .later }
def WordEndsCardSaid : Prop := Claim7.holds Tryd.pinned (.plain (OpenSpec.ofChange wordEndsSpec)) wordEndsCard

/-- THE SECOND FORM's CARD OF 'septumlaw01.WordReads'. -/
def wordReadsUptoCard : Claim7 := { stood := { row := wordReadsUptoRow, standIns := [], harness := (true, "6cef76eda044bd44d8be78540063d477d37fbcba4877643ff8e32dd1b2fe8a0d"), looks := false }, kinds := [], alts := [], laidByText := true, laidKinds := [.widerDeep, .widerDeep], laidTests := true, laidLooks := .later }
def WordReadsUptoCardSaid : Prop := Claim7.holds Tryd.pinned (.plain (OpenSpec.upto wordReadsSpec)) wordReadsUptoCard

/-- THE SECOND FORM's CARD OF 'septumlaw01.WordParts'. -/
def wordPartsUptoCard : Claim7 := { stood := { row := wordPartsUptoRow, standIns := [], harness := (true, "6cef76eda044bd44d8be78540063d477d37fbcba4877643ff8e32dd1b2fe8a0d"), looks := false }, kinds := [], alts := [], laidByText := true, laidKinds := [.widerDeep, .widerDeep], laidTests := true, laidLooks := .later }
def WordPartsUptoCardSaid : Prop := Claim7.holds Tryd.pinned (.plain (OpenSpec.upto wordPartsSpec)) wordPartsUptoCard

/-- THE SECOND FORM's CARD OF 'septumlaw01.WordWhole'. -/
def wordWholeUptoCard : Claim7 := { stood := { row := wordWholeUptoRow, standIns := [], harness := (true, "6cef76eda044bd44d8be78540063d477d37fbcba4877643ff8e32dd1b2fe8a0d"), looks := false }, kinds := [], alts := [], laidByText := true, laidKinds := [.widerDeep, .widerDeep], laidTests := true, laidLooks := .later }
def WordWholeUptoCardSaid : Prop := Claim7.holds Tryd.pinned (.plain (OpenSpec.upto wordWholeSpec)) wordWholeUptoCard

/-- THE SECOND FORM's CARD OF 'septumlaw01.WordSums'. -/
def wordSumsUptoCard : Claim7 := { stood := { row := wordSumsUptoRow, standIns := [], harness := (true, "6cef76eda044bd44d8be78540063d477d37fbcba4877643ff8e32dd1b2fe8a0d"), looks := false }, kinds := [], alts := [], laidByText := true, laidKinds := [.widerDeep, .widerDeep], laidTests := true, laidLooks := .later }
def WordSumsUptoCardSaid : Prop := Claim7.holds Tryd.pinned (.plain (OpenSpec.upto wordSumsSpec)) wordSumsUptoCard

/-- THE SECOND FORM's CARD OF 'septumlaw01.WordBack'. -/
def wordBackUptoCard : Claim7 := { stood := { row := wordBackUptoRow, standIns := [], harness := (true, "6cef76eda044bd44d8be78540063d477d37fbcba4877643ff8e32dd1b2fe8a0d"), looks := false }, kinds := [], alts := [], laidByText := true, laidKinds := [.widerDeep, .widerDeep], laidTests := true, laidLooks := .later }
def WordBackUptoCardSaid : Prop := Claim7.holds Tryd.pinned (.plain (OpenSpec.upto wordBackSpec)) wordBackUptoCard

/-- THE SECOND FORM's CARD OF 'septumlaw01.WordEnds'. -/
def wordEndsUptoCard : Claim7 := { stood := { row := wordEndsUptoRow, standIns := [], harness := (true, "6cef76eda044bd44d8be78540063d477d37fbcba4877643ff8e32dd1b2fe8a0d"), looks := false }, kinds := [], alts := [], laidByText := true, laidKinds := [.widerDeep, .widerDeep], laidTests := true, laidLooks := .later }
def WordEndsUptoCardSaid : Prop := Claim7.holds Tryd.pinned (.plain (OpenSpec.upto wordEndsSpec)) wordEndsUptoCard
end Rows
end Go.Proofs.YtmdkhaoppklokaaDoor
