/-
  NARROWER THAN 'FOR EVERY INPUT', by the rows' own cells (each row's printed sentence says how): RegionAsks: laid · RegionEnds: laid · RegionClashes: laid · RegionLess: laid.
  DERIVED. THE GIVEN ROWS OF THIS SEAT. 4 by the template 'for every input the law returns true; each argument reads behind the call as it read before'; 0 by the template 'total and deterministic' (their statements: YtidpndncnhdkiaaDoorTotals.lean).
  GIVEN WITH THE SEED: the statements are not yours to turn. If you find one false, say at which input.
  Laid BY PROGRAM, IN A SANDBOX (cutbox-rows.mjs): the forced cells as the released guide's own fill.sh prints them over the translation 75a7662154bb899f… (all of the seat's roots in one cut). By AI agents, Wed Nov 11 2026. No macro, syntax, notation, axiom, sorry.
-/
import Derived.Test.YtidpndncnhdkiaaDoorChecked
import GoSem.Claim
import GoSem.ClaimJoined
import GoSem.ClaimMapViews
import Derived.JoinedTies
import Derived.KernelRfl
namespace Go.Proofs.YtidpndncnhdkiaaDoor
/- THE CELL 'sum', in the pinned program and in every row, IS THE sha256 OF THE DUMP (.gsa) THAT YtidpndncnhdkiaaDoorProg.lean LOADS. Nothing in Lean hashes anything: it is a label: what it is worth is what the hold of that sum in a sandbox is worth. -/
noncomputable def Tryd.pinned : Pinned := { name := "ytidpndncnhdkiaadoor", sum := "75a7662154bb899fd7d92b76dcff38d3ec06adb13091b73040de7a44d594c877", checked := Tryd.checked }
namespace Rows
def none {H : Type} : Left H := { results := [], args := [] }

/- WHAT THE LISTED PACKAGE-LEVEL VARIABLES READ AS WHEN THE CALL BEGINS. Each datum BY PROGRAM (the guide's laid-datum.mjs) off the statement by which the dump's own 'gosem.cut.vars' lays the variable. In a bare row this is a premise. The card (YtidpndncnhdkiaaDoorCards.lean) ties it to the program's text. -/
def laid_septum_word_sizes {H : Type} : DataW H := .agg [.lit (.int .i64 1), .lit (.int .i64 2), .lit (.int .i64 4)]

/-- 'septumlaw06.RegionAsks': WHATEVER THE INPUT: true; the input reads as it did. -/
def regionAsksSpec : ChangeSpec := { name := "regionAsks", fn := fun _ => fun
  | [d1, d2, d3] => { results := [.lit (.bool true)], args := [d1, d2, d3] }
  | _ => none }
def regionAsksRow : OpenClaim := { program := "ytidpndncnhdkiaadoor", sum := "75a7662154bb899fd7d92b76dcff38d3ec06adb13091b73040de7a44d594c877", func := "septum/septumlaw06.RegionAsks", spec := "regionAsks", unfollowed := true, recurses := true, named := ["septum/word.sizes"], apart := false, laid := [("septum/word.sizes", laid_septum_word_sizes)] }
def RegionAsksSaid : Prop := regionAsksRow.holds Tryd.pinned (OpenSpec.ofChange regionAsksSpec)

/-- ITS FALSE NEIGHBOUR: 'it returns false'. Refute it at one input. -/
def regionAsksWrong : ChangeSpec := { name := "regionAsks", fn := fun _ => fun
  | [d1, d2, d3] => { results := [.lit (.bool false)], args := [d1, d2, d3] }
  | _ => none }
def RegionAsksWrongFalsely : Prop := regionAsksRow.holds Tryd.pinned (OpenSpec.ofChange regionAsksWrong)

/-- 'septumlaw06.RegionEnds': WHATEVER THE INPUT: true; the input reads as it did. -/
def regionEndsSpec : ChangeSpec := { name := "regionEnds", fn := fun _ => fun
  | [] => { results := [.lit (.bool true)], args := [] }
  | _ => none }
def regionEndsRow : OpenClaim := { program := "ytidpndncnhdkiaadoor", sum := "75a7662154bb899fd7d92b76dcff38d3ec06adb13091b73040de7a44d594c877", func := "septum/septumlaw06.RegionEnds", spec := "regionEnds", unfollowed := true, recurses := true, named := ["septum/word.sizes"], apart := false, laid := [("septum/word.sizes", laid_septum_word_sizes)] }
def RegionEndsSaid : Prop := regionEndsRow.holds Tryd.pinned (OpenSpec.ofChange regionEndsSpec)

/-- ITS FALSE NEIGHBOUR: 'it returns false'. Refute it at one input. -/
def regionEndsWrong : ChangeSpec := { name := "regionEnds", fn := fun _ => fun
  | [] => { results := [.lit (.bool false)], args := [] }
  | _ => none }
def RegionEndsWrongFalsely : Prop := regionEndsRow.holds Tryd.pinned (OpenSpec.ofChange regionEndsWrong)

/-- 'septumlaw06.RegionClashes': WHATEVER THE INPUT: true; the input reads as it did. -/
def regionClashesSpec : ChangeSpec := { name := "regionClashes", fn := fun _ => fun
  | [d1, d2, d3, d4] => { results := [.lit (.bool true)], args := [d1, d2, d3, d4] }
  | _ => none }
def regionClashesRow : OpenClaim := { program := "ytidpndncnhdkiaadoor", sum := "75a7662154bb899fd7d92b76dcff38d3ec06adb13091b73040de7a44d594c877", func := "septum/septumlaw06.RegionClashes", spec := "regionClashes", unfollowed := true, recurses := true, named := ["septum/word.sizes"], apart := false, laid := [("septum/word.sizes", laid_septum_word_sizes)] }
def RegionClashesSaid : Prop := regionClashesRow.holds Tryd.pinned (OpenSpec.ofChange regionClashesSpec)

/-- ITS FALSE NEIGHBOUR: 'it returns false'. Refute it at one input. -/
def regionClashesWrong : ChangeSpec := { name := "regionClashes", fn := fun _ => fun
  | [d1, d2, d3, d4] => { results := [.lit (.bool false)], args := [d1, d2, d3, d4] }
  | _ => none }
def RegionClashesWrongFalsely : Prop := regionClashesRow.holds Tryd.pinned (OpenSpec.ofChange regionClashesWrong)

/-- 'septumlaw06.RegionLess': WHATEVER THE INPUT: true; the input reads as it did. -/
def regionLessSpec : ChangeSpec := { name := "regionLess", fn := fun _ => fun
  | [d1, d2, d3] => { results := [.lit (.bool true)], args := [d1, d2, d3] }
  | _ => none }
def regionLessRow : OpenClaim := { program := "ytidpndncnhdkiaadoor", sum := "75a7662154bb899fd7d92b76dcff38d3ec06adb13091b73040de7a44d594c877", func := "septum/septumlaw06.RegionLess", spec := "regionLess", unfollowed := true, recurses := true, named := ["septum/word.sizes"], apart := false, laid := [("septum/word.sizes", laid_septum_word_sizes)] }
def RegionLessSaid : Prop := regionLessRow.holds Tryd.pinned (OpenSpec.ofChange regionLessSpec)

/-- ITS FALSE NEIGHBOUR: 'it returns false'. Refute it at one input. -/
def regionLessWrong : ChangeSpec := { name := "regionLess", fn := fun _ => fun
  | [d1, d2, d3] => { results := [.lit (.bool false)], args := [d1, d2, d3] }
  | _ => none }
def RegionLessWrongFalsely : Prop := regionLessRow.holds Tryd.pinned (OpenSpec.ofChange regionLessWrong)

/- THE SECOND FORM. 'bulk': how many values and letters a reading holds, each counted each time it is reached (what is shared counts as often as it is met; a slice's spare places count too). A statement '..UptoSaid' is the law's where the arguments, and the package variables that the reading takes, are together of bulk at most 1048576: NARROWER than '..Said'. Prove '..Said' where nothing that the law and all that it calls make is longer than what came in: it says more and counts as full. Else prove '..UptoSaid'. A law counts once. -/
mutual
def uptoBulk {H : Type} : DataW H → Nat
  | .lit (.string bytes) => bytes.length + 1
  | .lit _ => 1
  | .nil => 1
  | .ptr d => uptoBulk d + 1
  | .slice elems spare => uptoBulkAll elems + uptoBulkAll spare + 1
  | .agg parts => uptoBulkAll parts + 1
  | .iface _ d => uptoBulk d + 1
  | .map entries => uptoBulkEntries entries + 1
  | .held _ => 1
def uptoBulkAll {H : Type} : List (DataW H) → Nat
  | [] => 0
  | d :: r => uptoBulk d + uptoBulkAll r
def uptoBulkEntries {H : Type} : List (Lit × DataW H) → Nat
  | [] => 0
  | x :: r => uptoBulkEntry x + uptoBulkEntries r
def uptoBulkEntry {H : Type} : Lit × DataW H → Nat
  | (.string bytes, d) => bytes.length + uptoBulk d + 1
  | (_, d) => uptoBulk d + 1
 end
def uptoSmall : (H : Type) → List (DataW H) → Bool := fun _ ds => decide (uptoBulkAll ds ≤ 1048576)
def OpenSpec.upto (s : _root_.Go.ChangeSpec) : _root_.Go.OpenSpec := { _root_.Go.OpenSpec.ofChange s with cond := some uptoSmall }

/-- 'septumlaw06.RegionAsks', WHERE WHAT IT READS IS OF BULK AT MOST 1048576: true; the input reads as it did. -/
def regionAsksUptoRow : OpenClaim := { program := "ytidpndncnhdkiaadoor", sum := "75a7662154bb899fd7d92b76dcff38d3ec06adb13091b73040de7a44d594c877", func := "septum/septumlaw06.RegionAsks", spec := "regionAsks", unfollowed := true, recurses := true, named := ["septum/word.sizes"], apart := false, laid := [("septum/word.sizes", laid_septum_word_sizes)], narrowed := true }
def RegionAsksUptoSaid : Prop := regionAsksUptoRow.holds Tryd.pinned (OpenSpec.upto regionAsksSpec)

/-- 'septumlaw06.RegionEnds', WHERE WHAT IT READS IS OF BULK AT MOST 1048576: true; the input reads as it did. -/
def regionEndsUptoRow : OpenClaim := { program := "ytidpndncnhdkiaadoor", sum := "75a7662154bb899fd7d92b76dcff38d3ec06adb13091b73040de7a44d594c877", func := "septum/septumlaw06.RegionEnds", spec := "regionEnds", unfollowed := true, recurses := true, named := ["septum/word.sizes"], apart := false, laid := [("septum/word.sizes", laid_septum_word_sizes)], narrowed := true }
def RegionEndsUptoSaid : Prop := regionEndsUptoRow.holds Tryd.pinned (OpenSpec.upto regionEndsSpec)

/-- 'septumlaw06.RegionClashes', WHERE WHAT IT READS IS OF BULK AT MOST 1048576: true; the input reads as it did. -/
def regionClashesUptoRow : OpenClaim := { program := "ytidpndncnhdkiaadoor", sum := "75a7662154bb899fd7d92b76dcff38d3ec06adb13091b73040de7a44d594c877", func := "septum/septumlaw06.RegionClashes", spec := "regionClashes", unfollowed := true, recurses := true, named := ["septum/word.sizes"], apart := false, laid := [("septum/word.sizes", laid_septum_word_sizes)], narrowed := true }
def RegionClashesUptoSaid : Prop := regionClashesUptoRow.holds Tryd.pinned (OpenSpec.upto regionClashesSpec)

/-- 'septumlaw06.RegionLess', WHERE WHAT IT READS IS OF BULK AT MOST 1048576: true; the input reads as it did. -/
def regionLessUptoRow : OpenClaim := { program := "ytidpndncnhdkiaadoor", sum := "75a7662154bb899fd7d92b76dcff38d3ec06adb13091b73040de7a44d594c877", func := "septum/septumlaw06.RegionLess", spec := "regionLess", unfollowed := true, recurses := true, named := ["septum/word.sizes"], apart := false, laid := [("septum/word.sizes", laid_septum_word_sizes)], narrowed := true }
def RegionLessUptoSaid : Prop := regionLessUptoRow.holds Tryd.pinned (OpenSpec.upto regionLessSpec)

end Rows
end Go.Proofs.YtidpndncnhdkiaaDoor
