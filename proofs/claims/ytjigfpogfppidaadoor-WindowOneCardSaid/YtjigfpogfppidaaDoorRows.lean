/-
  NARROWER THAN 'FOR EVERY INPUT', by the rows' own cells (each row's printed sentence says how): WindowAsks: laid · WindowEnds: laid · WindowOne: laid · WindowApart: laid.
  DERIVED. THE GIVEN ROWS OF THIS SEAT. 4 by the template 'for every input the law returns true; each argument reads behind the call as it read before'; 0 by the template 'total and deterministic' (their statements: YtjigfpogfppidaaDoorTotals.lean).
  GIVEN WITH THE SEED: the statements are not yours to turn. If you find one false, say at which input.
  Laid BY PROGRAM, IN A SANDBOX (cutbox-rows.mjs): the forced cells as the released guide's own fill.sh prints them over the translation 3b6336ab0fe14f94… (all of the seat's roots in one cut). By AI agents, Wed Nov 11 2026. No macro, syntax, notation, axiom, sorry.
-/
import Derived.Test.YtjigfpogfppidaaDoorChecked
import GoSem.Claim
import GoSem.ClaimJoined
import GoSem.ClaimMapViews
import Derived.JoinedTies
import Derived.KernelRfl
namespace Go.Proofs.YtjigfpogfppidaaDoor
/- THE CELL 'sum', in the pinned program and in every row, IS THE sha256 OF THE DUMP (.gsa) THAT YtjigfpogfppidaaDoorProg.lean LOADS. Nothing in Lean hashes anything: it is a label: what it is worth is what the hold of that sum in a sandbox is worth. -/
noncomputable def Tryd.pinned : Pinned := { name := "ytjigfpogfppidaadoor", sum := "3b6336ab0fe14f9411124a74fcaf120260aaaecdd59f5a790d589c9ad94ebda9", checked := Tryd.checked }
namespace Rows
def none {H : Type} : Left H := { results := [], args := [] }

/- WHAT THE LISTED PACKAGE-LEVEL VARIABLES READ AS WHEN THE CALL BEGINS. Each datum BY PROGRAM (the guide's laid-datum.mjs) off the statement by which the dump's own 'gosem.cut.vars' lays the variable. In a bare row this is a premise. The card (YtjigfpogfppidaaDoorCards.lean) ties it to the program's text. -/
def laid_septum_word_sizes {H : Type} : DataW H := .agg [.lit (.int .i64 1), .lit (.int .i64 2), .lit (.int .i64 4)]

/-- 'septumlaw08.WindowAsks': WHATEVER THE INPUT: true; the input reads as it did. -/
def windowAsksSpec : ChangeSpec := { name := "windowAsks", fn := fun _ => fun
  | [d1, d2, d3, d4] => { results := [.lit (.bool true)], args := [d1, d2, d3, d4] }
  | _ => none }
def windowAsksRow : OpenClaim := { program := "ytjigfpogfppidaadoor", sum := "3b6336ab0fe14f9411124a74fcaf120260aaaecdd59f5a790d589c9ad94ebda9", func := "septum/septumlaw08.WindowAsks", spec := "windowAsks", unfollowed := true, recurses := true, named := ["septum/word.sizes"], apart := false, laid := [("septum/word.sizes", laid_septum_word_sizes)] }
def WindowAsksSaid : Prop := windowAsksRow.holds Tryd.pinned (OpenSpec.ofChange windowAsksSpec)

/-- ITS FALSE NEIGHBOUR: 'it returns false'. Refute it at one input. -/
def windowAsksWrong : ChangeSpec := { name := "windowAsks", fn := fun _ => fun
  | [d1, d2, d3, d4] => { results := [.lit (.bool false)], args := [d1, d2, d3, d4] }
  | _ => none }
def WindowAsksWrongFalsely : Prop := windowAsksRow.holds Tryd.pinned (OpenSpec.ofChange windowAsksWrong)

/-- 'septumlaw08.WindowEnds': WHATEVER THE INPUT: true; the input reads as it did. -/
def windowEndsSpec : ChangeSpec := { name := "windowEnds", fn := fun _ => fun
  | [] => { results := [.lit (.bool true)], args := [] }
  | _ => none }
def windowEndsRow : OpenClaim := { program := "ytjigfpogfppidaadoor", sum := "3b6336ab0fe14f9411124a74fcaf120260aaaecdd59f5a790d589c9ad94ebda9", func := "septum/septumlaw08.WindowEnds", spec := "windowEnds", unfollowed := true, recurses := true, named := ["septum/word.sizes"], apart := false, laid := [("septum/word.sizes", laid_septum_word_sizes)] }
def WindowEndsSaid : Prop := windowEndsRow.holds Tryd.pinned (OpenSpec.ofChange windowEndsSpec)

/-- ITS FALSE NEIGHBOUR: 'it returns false'. Refute it at one input. -/
def windowEndsWrong : ChangeSpec := { name := "windowEnds", fn := fun _ => fun
  | [] => { results := [.lit (.bool false)], args := [] }
  | _ => none }
def WindowEndsWrongFalsely : Prop := windowEndsRow.holds Tryd.pinned (OpenSpec.ofChange windowEndsWrong)

/-- 'septumlaw08.WindowOne': WHATEVER THE INPUT: true; the input reads as it did. -/
def windowOneSpec : ChangeSpec := { name := "windowOne", fn := fun _ => fun
  | [d1, d2, d3, d4, d5] => { results := [.lit (.bool true)], args := [d1, d2, d3, d4, d5] }
  | _ => none }
def windowOneRow : OpenClaim := { program := "ytjigfpogfppidaadoor", sum := "3b6336ab0fe14f9411124a74fcaf120260aaaecdd59f5a790d589c9ad94ebda9", func := "septum/septumlaw08.WindowOne", spec := "windowOne", unfollowed := true, recurses := true, named := ["septum/word.sizes"], apart := false, laid := [("septum/word.sizes", laid_septum_word_sizes)] }
def WindowOneSaid : Prop := windowOneRow.holds Tryd.pinned (OpenSpec.ofChange windowOneSpec)

/-- ITS FALSE NEIGHBOUR: 'it returns false'. Refute it at one input. -/
def windowOneWrong : ChangeSpec := { name := "windowOne", fn := fun _ => fun
  | [d1, d2, d3, d4, d5] => { results := [.lit (.bool false)], args := [d1, d2, d3, d4, d5] }
  | _ => none }
def WindowOneWrongFalsely : Prop := windowOneRow.holds Tryd.pinned (OpenSpec.ofChange windowOneWrong)

/-- 'septumlaw08.WindowApart': WHATEVER THE INPUT: true; the input reads as it did. -/
def windowApartSpec : ChangeSpec := { name := "windowApart", fn := fun _ => fun
  | [d1, d2, d3] => { results := [.lit (.bool true)], args := [d1, d2, d3] }
  | _ => none }
def windowApartRow : OpenClaim := { program := "ytjigfpogfppidaadoor", sum := "3b6336ab0fe14f9411124a74fcaf120260aaaecdd59f5a790d589c9ad94ebda9", func := "septum/septumlaw08.WindowApart", spec := "windowApart", unfollowed := true, recurses := true, named := ["septum/word.sizes"], apart := false, laid := [("septum/word.sizes", laid_septum_word_sizes)] }
def WindowApartSaid : Prop := windowApartRow.holds Tryd.pinned (OpenSpec.ofChange windowApartSpec)

/-- ITS FALSE NEIGHBOUR: 'it returns false'. Refute it at one input. -/
def windowApartWrong : ChangeSpec := { name := "windowApart", fn := fun _ => fun
  | [d1, d2, d3] => { results := [.lit (.bool false)], args := [d1, d2, d3] }
  | _ => none }
def WindowApartWrongFalsely : Prop := windowApartRow.holds Tryd.pinned (OpenSpec.ofChange windowApartWrong)

/- THE SECOND FORM. 'bulk': how many values and letters a reading holds, each counted each time it is reached (what is shared counts as often as it is met; a slice's spare places count too). A statement '..UptoSaid' is the law's where the arguments, and the package variables that the reading takes, are together of bulk at most 1048576: NARROWER than '..Said'. Prove '..Said' where nothing that the law and all that it calls make is longer than what came in: it says more and counts as full. Else prove '..UptoSaid'. A law counts once. -/
mutual
def uptoBulk {H : Type} : DataW H → Nat
  | .lit (.string bytes) => bytes.length + 1
  | .lit _ => 1
  | .nil => 1
  | .ptr d => uptoBulk d + 1
  | .slice elems spare => uptoBulkAll elems + uptoBulkAll spare + 1
  | .agg parts => uptoBulkAll parts + 1
  | .iface _ d => uptoBulk d + 1
  | .map entries => uptoBulkEntries entries + 1
  | .held _ => 1
def uptoBulkAll {H : Type} : List (DataW H) → Nat
  | [] => 0
  | d :: r => uptoBulk d + uptoBulkAll r
def uptoBulkEntries {H : Type} : List (Lit × DataW H) → Nat
  | [] => 0
  | x :: r => uptoBulkEntry x + uptoBulkEntries r
def uptoBulkEntry {H : Type} : Lit × DataW H → Nat
  | (.string bytes, d) => bytes.length + uptoBulk d + 1
  | (_, d) => uptoBulk d + 1
 end
def uptoSmall : (H : Type) → List (DataW H) → Bool := fun _ ds => decide (uptoBulkAll ds ≤ 1048576)
def OpenSpec.upto (s : _root_.Go.ChangeSpec) : _root_.Go.OpenSpec := { _root_.Go.OpenSpec.ofChange s with cond := some uptoSmall }

/-- 'septumlaw08.WindowAsks', WHERE WHAT IT READS IS OF BULK AT MOST 1048576: true; the input reads as it did. -/
def windowAsksUptoRow : OpenClaim := { program := "ytjigfpogfppidaadoor", sum := "3b6336ab0fe14f9411124a74fcaf120260aaaecdd59f5a790d589c9ad94ebda9", func := "septum/septumlaw08.WindowAsks", spec := "windowAsks", unfollowed := true, recurses := true, named := ["septum/word.sizes"], apart := false, laid := [("septum/word.sizes", laid_septum_word_sizes)], narrowed := true }
def WindowAsksUptoSaid : Prop := windowAsksUptoRow.holds Tryd.pinned (OpenSpec.upto windowAsksSpec)

/-- 'septumlaw08.WindowEnds', WHERE WHAT IT READS IS OF BULK AT MOST 1048576: true; the input reads as it did. -/
def windowEndsUptoRow : OpenClaim := { program := "ytjigfpogfppidaadoor", sum := "3b6336ab0fe14f9411124a74fcaf120260aaaecdd59f5a790d589c9ad94ebda9", func := "septum/septumlaw08.WindowEnds", spec := "windowEnds", unfollowed := true, recurses := true, named := ["septum/word.sizes"], apart := false, laid := [("septum/word.sizes", laid_septum_word_sizes)], narrowed := true }
def WindowEndsUptoSaid : Prop := windowEndsUptoRow.holds Tryd.pinned (OpenSpec.upto windowEndsSpec)

/-- 'septumlaw08.WindowOne', WHERE WHAT IT READS IS OF BULK AT MOST 1048576: true; the input reads as it did. -/
def windowOneUptoRow : OpenClaim := { program := "ytjigfpogfppidaadoor", sum := "3b6336ab0fe14f9411124a74fcaf120260aaaecdd59f5a790d589c9ad94ebda9", func := "septum/septumlaw08.WindowOne", spec := "windowOne", unfollowed := true, recurses := true, named := ["septum/word.sizes"], apart := false, laid := [("septum/word.sizes", laid_septum_word_sizes)], narrowed := true }
def WindowOneUptoSaid : Prop := windowOneUptoRow.holds Tryd.pinned (OpenSpec.upto windowOneSpec)

/-- 'septumlaw08.WindowApart', WHERE WHAT IT READS IS OF BULK AT MOST 1048576: true; the input reads as it did. -/
def windowApartUptoRow : OpenClaim := { program := "ytjigfpogfppidaadoor", sum := "3b6336ab0fe14f9411124a74fcaf120260aaaecdd59f5a790d589c9ad94ebda9", func := "septum/septumlaw08.WindowApart", spec := "windowApart", unfollowed := true, recurses := true, named := ["septum/word.sizes"], apart := false, laid := [("septum/word.sizes", laid_septum_word_sizes)], narrowed := true }
def WindowApartUptoSaid : Prop := windowApartUptoRow.holds Tryd.pinned (OpenSpec.upto windowApartSpec)

end Rows
end Go.Proofs.YtjigfpogfppidaaDoor
