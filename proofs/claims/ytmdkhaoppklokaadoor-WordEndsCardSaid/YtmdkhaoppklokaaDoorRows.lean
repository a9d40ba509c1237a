/-
  NARROWER THAN 'FOR EVERY INPUT', by the rows' own cells (each row's printed sentence says how): WordReads: laid · WordParts: laid · WordWhole: laid · WordSums: laid · WordBack: laid · WordEnds: laid.
  DERIVED. THE GIVEN ROWS OF THIS SEAT. 6 by the template 'for every input the law returns true; each argument reads behind the call as it read before'; 0 by the template 'total and deterministic' (their statements: YtmdkhaoppklokaaDoorTotals.lean).
  GIVEN WITH THE SEED: the statements are not yours to turn. If you find one false, say at which input.
  Laid BY PROGRAM, IN A SANDBOX (cutbox-rows.mjs): the forced cells as the released guide's own fill.sh prints them over the translation 3057785b95496dc1… (all of the seat's roots in one cut). By AI agents, Wed Nov 11 2026. No macro, syntax, notation, axiom, sorry.
-/
import Derived.Test.YtmdkhaoppklokaaDoorChecked
import GoSem.Claim
import GoSem.ClaimJoined
import GoSem.ClaimMapViews
import Derived.JoinedTies
import Derived.KernelRfl
namespace Go.Proofs.YtmdkhaoppklokaaDoor
/- THE CELL 'sum', in the pinned program and in every row, IS THE sha256 OF THE DUMP (.gsa) THAT YtmdkhaoppklokaaDoorProg.lean LOADS. Nothing in Lean hashes anything: it is a label: what it is worth is what the hold of that sum in a sandbox is worth. -/
noncomputable def Tryd.pinned : Pinned := { name := "ytmdkhaoppklokaadoor", sum := "3057785b95496dc19b43cc71efef20e1dc7bc426c005fe0280efad01ca1cea8c", checked := Tryd.checked }
namespace Rows
def none {H : Type} : Left H := { results := [], args := [] }

/- WHAT THE LISTED PACKAGE-LEVEL VARIABLES READ AS WHEN THE CALL BEGINS. Each datum BY PROGRAM (the guide's laid-datum.mjs) off the statement by which the dump's own 'gosem.cut.vars' lays the variable. In a bare row this is a premise. The card (YtmdkhaoppklokaaDoorCards.lean) ties it to the program's text. -/
def laid_septum_word_sizes {H : Type} : DataW H := .agg [.lit (.int .i64 1), .lit (.int .i64 2), .lit (.int .i64 4)]
def laid_septum_word_digits {H : Type} : DataW H := .agg [.lit (.int .u8 48), .lit (.int .u8 49), .lit (.int .u8 50), .lit (.int .u8 51), .lit (.int .u8 52), .lit (.int .u8 53), .lit (.int .u8 54), .lit (.int .u8 55), .lit (.int .u8 56), .lit (.int .u8 57), .lit (.int .u8 97), .lit (.int .u8 98), .lit (.int .u8 99), .lit (.int .u8 100), .lit (.int .u8 101), .lit (.int .u8 102)]

/-- 'septumlaw01.WordReads': WHATEVER THE INPUT: true; the input reads as it did. -/
def wordReadsSpec : ChangeSpec := { name := "wordReads", fn := fun _ => fun
  | [d1, d2] => { results := [.lit (.bool true)], args := [d1, d2] }
  | _ => none }
def wordReadsRow : OpenClaim := { program := "ytmdkhaoppklokaadoor", sum := "3057785b95496dc19b43cc71efef20e1dc7bc426c005fe0280efad01ca1cea8c", func := "septum/septumlaw01.WordReads", spec := "wordReads", unfollowed := true, recurses := true, named := ["septum/word.sizes", "septum/word.digits"], apart := false, laid := [("septum/word.sizes", laid_septum_word_sizes), ("septum/word.digits", laid_septum_word_digits)] }
def WordReadsSaid : Prop := wordReadsRow.holds Tryd.pinned (OpenSpec.ofChange wordReadsSpec)

/-- ITS FALSE NEIGHBOUR: 'it returns false'. Refute it at one input. -/
def wordReadsWrong : ChangeSpec := { name := "wordReads", fn := fun _ => fun
  | [d1, d2] => { results := [.lit (.bool false)], args := [d1, d2] }
  | _ => none }
def WordReadsWrongFalsely : Prop := wordReadsRow.holds Tryd.pinned (OpenSpec.ofChange wordReadsWrong)

/-- 'septumlaw01.WordParts': WHATEVER THE INPUT: true; the input reads as it did. -/
def wordPartsSpec : ChangeSpec := { name := "wordParts", fn := fun _ => fun
  | [d1, d2, d3] => { results := [.lit (.bool true)], args := [d1, d2, d3] }
  | _ => none }
def wordPartsRow : OpenClaim := { program := "ytmdkhaoppklokaadoor", sum := "3057785b95496dc19b43cc71efef20e1dc7bc426c005fe0280efad01ca1cea8c", func := "septum/septumlaw01.WordParts", spec := "wordParts", unfollowed := true, recurses := true, named := ["septum/word.sizes", "septum/word.digits"], apart := false, laid := [("septum/word.sizes", laid_septum_word_sizes), ("septum/word.digits", laid_septum_word_digits)] }
def WordPartsSaid : Prop := wordPartsRow.holds Tryd.pinned (OpenSpec.ofChange wordPartsSpec)

/-- ITS FALSE NEIGHBOUR: 'it returns false'. Refute it at one input. -/
def wordPartsWrong : ChangeSpec := { name := "wordParts", fn := fun _ => fun
  | [d1, d2, d3] => { results := [.lit (.bool false)], args := [d1, d2, d3] }
  | _ => none }
def WordPartsWrongFalsely : Prop := wordPartsRow.holds Tryd.pinned (OpenSpec.ofChange wordPartsWrong)

/-- 'septumlaw01.WordWhole': WHATEVER THE INPUT: true; the input reads as it did. -/
def wordWholeSpec : ChangeSpec := { name := "wordWhole", fn := fun _ => fun
  | [d1, d2] => { results := [.lit (.bool true)], args := [d1, d2] }
  | _ => none }
def wordWholeRow : OpenClaim := { program := "ytmdkhaoppklokaadoor", sum := "3057785b95496dc19b43cc71efef20e1dc7bc426c005fe0280efad01ca1cea8c", func := "septum/septumlaw01.WordWhole", spec := "wordWhole", unfollowed := true, recurses := true, named := ["septum/word.sizes", "septum/word.digits"], apart := false, laid := [("septum/word.sizes", laid_septum_word_sizes), ("septum/word.digits", laid_septum_word_digits)] }
def WordWholeSaid : Prop := wordWholeRow.holds Tryd.pinned (OpenSpec.ofChange wordWholeSpec)

/-- ITS FALSE NEIGHBOUR: 'it returns false'. Refute it at one input. -/
def wordWholeWrong : ChangeSpec := { name := "wordWhole", fn := fun _ => fun
  | [d1, d2] => { results := [.lit (.bool false)], args := [d1, d2] }
  | _ => none }
def WordWholeWrongFalsely : Prop := wordWholeRow.holds Tryd.pinned (OpenSpec.ofChange wordWholeWrong)

/-- 'septumlaw01.WordSums': WHATEVER THE INPUT: true; the input reads as it did. -/
def wordSumsSpec : ChangeSpec := { name := "wordSums", fn := fun _ => fun
  | [d1, d2] => { results := [.lit (.bool true)], args := [d1, d2] }
  | _ => none }
def wordSumsRow : OpenClaim := { program := "ytmdkhaoppklokaadoor", sum := "3057785b95496dc19b43cc71efef20e1dc7bc426c005fe0280efad01ca1cea8c", func := "septum/septumlaw01.WordSums", spec := "wordSums", unfollowed := true, recurses := true, named := ["septum/word.sizes", "septum/word.digits"], apart := false, laid := [("septum/word.sizes", laid_septum_word_sizes), ("septum/word.digits", laid_septum_word_digits)] }
def WordSumsSaid : Prop := wordSumsRow.holds Tryd.pinned (OpenSpec.ofChange wordSumsSpec)

/-- ITS FALSE NEIGHBOUR: 'it returns false'. Refute it at one input. -/
def wordSumsWrong : ChangeSpec := { name := "wordSums", fn := fun _ => fun
  | [d1, d2] => { results := [.lit (.bool false)], args := [d1, d2] }
  | _ => none }
def WordSumsWrongFalsely : Prop := wordSumsRow.holds Tryd.pinned (OpenSpec.ofChange wordSumsWrong)

/-- 'septumlaw01.WordBack': WHATEVER THE INPUT: true; the input reads as it did. -/
def wordBackSpec : ChangeSpec := { name := "wordBack", fn := fun _ => fun
  | [d1, d2] => { results := [.lit (.bool true)], args := [d1, d2] }
  | _ => none }
def wordBackRow : OpenClaim := { program := "ytmdkhaoppklokaadoor", sum := "3057785b95496dc19b43cc71efef20e1dc7bc426c005fe0280efad01ca1cea8c", func := "septum/septumlaw01.WordBack", spec := "wordBack", unfollowed := true, recurses := true, named := ["septum/word.sizes", "septum/word.digits"], apart := false, laid := [("septum/word.sizes", laid_septum_word_sizes), ("septum/word.digits", laid_septum_word_digits)] }
def WordBackSaid : Prop := wordBackRow.holds Tryd.pinned (OpenSpec.ofChange wordBackSpec)

/-- ITS FALSE NEIGHBOUR: 'it returns false'. Refute it at one input. -/
def wordBackWrong : ChangeSpec := { name := "wordBack", fn := fun _ => fun
  | [d1, d2] => { results := [.lit (.bool false)], args := [d1, d2] }
  | _ => none }
def WordBackWrongFalsely : Prop := wordBackRow.holds Tryd.pinned (OpenSpec.ofChange wordBackWrong)

/-- 'septumlaw01.WordEnds': WHATEVER THE INPUT: true; the input reads as it did. -/
def wordEndsSpec : ChangeSpec := { name := "wordEnds", fn := fun _ => fun
  | [] => { results := [.lit (.bool true)], args := [] }
  | _ => none }
def wordEndsRow : OpenClaim := { program := "ytmdkhaoppklokaadoor", sum := "3057785b95496dc19b43cc71efef20e1dc7bc426c005fe0280efad01ca1cea8c", func := "septum/septumlaw01.WordEnds", spec := "wordEnds", unfollowed := true, recurses := true, named := ["septum/word.digits", "septum/word.sizes"], apart := false, laid := [("septum/word.sizes", laid_septum_word_sizes), ("septum/word.digits", laid_septum_word_digits)] }
def WordEndsSaid : Prop := wordEndsRow.holds Tryd.pinned (OpenSpec.ofChange wordEndsSpec)

/-- ITS FALSE NEIGHBOUR: 'it returns false'. Refute it at one input. -/
def wordEndsWrong : ChangeSpec := { name := "wordEnds", fn := fun _ => fun
  | [] => { results := [.lit (.bool false)], args := [] }
  | _ => none }
def WordEndsWrongFalsely : Prop := wordEndsRow.holds Tryd.pinned (OpenSpec.ofChange wordEndsWrong)

/- THE SECOND FORM. 'bulk': how many values and letters a reading holds, each counted each time it is reached (what is shared counts as often as it is met; a slice's spare places count too). A statement '..UptoSaid' is the law's where the arguments, and the package variables that the reading takes, are together of bulk at most 1048576: NARROWER than '..Said'. Prove '..Said' where nothing that the law and all that it calls make is longer than what came in: it says more and counts as full. Else prove '..UptoSaid'. A law counts once. -/
mutual
def uptoBulk {H : Type} : DataW H → Nat
  | .lit (.string bytes) => bytes.length + 1
  | .lit _ => 1
  | .nil => 1
  | .ptr d => uptoBulk d + 1
  | .slice elems spare => uptoBulkAll elems + uptoBulkAll spare + 1
  | .agg parts => uptoBulkAll parts + 1
  | .iface _ d => uptoBulk d + 1
  | .map entries => uptoBulkEntries entries + 1
  | .held _ => 1
def uptoBulkAll {H : Type} : List (DataW H) → Nat
  | [] => 0
  | d :: r => uptoBulk d + uptoBulkAll r
def uptoBulkEntries {H : Type} : List (Lit × DataW H) → Nat
  | [] => 0
  | x :: r => uptoBulkEntry x + uptoBulkEntries r
def uptoBulkEntry {H : Type} : Lit × DataW H → Nat
  | (.string bytes, d) => bytes.length + uptoBulk d + 1
  | (_, d) => uptoBulk d + 1
 end
def uptoSmall : (H : Type) → List (DataW H) → Bool := fun _ ds => decide (uptoBulkAll ds ≤ 1048576)
def OpenSpec.upto (s : _root_.Go.ChangeSpec) : _root_.Go.OpenSpec := { _root_.Go.OpenSpec.ofChange s with cond := some uptoSmall }

/-- 'septumlaw01.WordReads', WHERE WHAT IT READS IS OF BULK AT MOST 1048576: true; the input reads as it did. -/
def wordReadsUptoRow : OpenClaim := { program := "ytmdkhaoppklokaadoor", sum := "3057785b95496dc19b43cc71efef20e1dc7bc426c005fe0280efad01ca1cea8c", func := "septum/septumlaw01.WordReads", spec := "wordReads", unfollowed := true, recurses := true, named := ["septum/word.sizes", "septum/word.digits"], apart := false, laid := [("septum/word.sizes", laid_septum_word_sizes), ("septum/word.digits", laid_septum_word_digits)], narrowed := true }
def WordReadsUptoSaid : Prop := wordReadsUptoRow.holds Tryd.pinned (OpenSpec.upto wordReadsSpec)

/-- 'septumlaw01.WordParts', WHERE WHAT IT READS IS OF BULK AT MOST 1048576: true; the input reads as it did. -/
def wordPartsUptoRow : OpenClaim := { program := "ytmdkhaoppklokaadoor", sum := "3057785b95496dc19b43cc71efef20e1dc7bc426c005fe0280efad01ca1cea8c", func := "septum/septumlaw01.WordParts", spec := "wordParts", unfollowed := true, recurses := true, named := ["septum/word.sizes", "septum/word.digits"], apart := false, laid := [("septum/word.sizes", laid_septum_word_sizes), ("septum/word.digits", laid_septum_word_digits)], narrowed := true }
def WordPartsUptoSaid : Prop := wordPartsUptoRow.holds Tryd.pinned (OpenSpec.upto wordPartsSpec)

/-- 'septumlaw01.WordWhole', WHERE WHAT IT READS IS OF BULK AT MOST 1048576: true; the input reads as it did. -/
def wordWholeUptoRow : OpenClaim := { program := "ytmdkhaoppklokaadoor", sum := "3057785b95496dc19b43cc71efef20e1dc7bc426c005fe0280efad01ca1cea8c", func := "septum/septumlaw01.WordWhole", spec := "wordWhole", unfollowed := true, recurses := true, named := ["septum/word.sizes", "septum/word.digits"], apart := false, laid := [("septum/word.sizes", laid_septum_word_sizes), ("septum/word.digits", laid_septum_word_digits)], narrowed := true }
def WordWholeUptoSaid : Prop := wordWholeUptoRow.holds Tryd.pinned (OpenSpec.upto wordWholeSpec)

/-- 'septumlaw01.WordSums', WHERE WHAT IT READS IS OF BULK AT MOST 1048576: true; the input reads as it did. -/
def wordSumsUptoRow : OpenClaim := { program := "ytmdkhaoppklokaadoor", sum := "3057785b95496dc19b43cc71efef20e1dc7bc426c005fe0280efad01ca1cea8c", func := "septum/septumlaw01.WordSums", spec := "wordSums", unfollowed := true, recurses := true, named := ["septum/word.sizes", "septum/word.digits"], apart := false, laid := [("septum/word.sizes", laid_septum_word_sizes), ("septum/word.digits", laid_septum_word_digits)], narrowed := true }
def WordSumsUptoSaid : Prop := wordSumsUptoRow.holds Tryd.pinned (OpenSpec.upto wordSumsSpec)

/-- 'septumlaw01.WordBack', WHERE WHAT IT READS IS OF BULK AT MOST 1048576: true; the input reads as it did. -/
def wordBackUptoRow : OpenClaim := { program := "ytmdkhaoppklokaadoor", sum := "3057785b95496dc19b43cc71efef20e1dc7bc426c005fe0280efad01ca1cea8c", func := "septum/septumlaw01.WordBack", spec := "wordBack", unfollowed := true, recurses := true, named := ["septum/word.sizes", "septum/word.digits"], apart := false, laid := [("septum/word.sizes", laid_septum_word_sizes), ("septum/word.digits", laid_septum_word_digits)], narrowed := true }
def WordBackUptoSaid : Prop := wordBackUptoRow.holds Tryd.pinned (OpenSpec.upto wordBackSpec)

/-- 'septumlaw01.WordEnds', WHERE WHAT IT READS IS OF BULK AT MOST 1048576: true; the input reads as it did. -/
def wordEndsUptoRow : OpenClaim := { program := "ytmdkhaoppklokaadoor", sum := "3057785b95496dc19b43cc71efef20e1dc7bc426c005fe0280efad01ca1cea8c", func := "septum/septumlaw01.WordEnds", spec := "wordEnds", unfollowed := true, recurses := true, named := ["septum/word.digits", "septum/word.sizes"], apart := false, laid := [("septum/word.sizes", laid_septum_word_sizes), ("septum/word.digits", laid_septum_word_digits)], narrowed := true }
def WordEndsUptoSaid : Prop := wordEndsUptoRow.holds Tryd.pinned (OpenSpec.upto wordEndsSpec)

end Rows
end Go.Proofs.YtmdkhaoppklokaaDoor
