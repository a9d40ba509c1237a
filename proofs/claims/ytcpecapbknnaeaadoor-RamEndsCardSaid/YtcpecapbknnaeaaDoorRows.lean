/-
  NARROWER THAN 'FOR EVERY INPUT', by the rows' own cells (each row's printed sentence says how): RamApart: laid · RamDoes: laid · RamEnds: laid · RamKeeps: laid.
  DERIVED. THE GIVEN ROWS OF THIS SEAT. 4 by the template 'for every input the law returns true; each argument reads behind the call as it read before'; 0 by the template 'total and deterministic' (their statements: YtcpecapbknnaeaaDoorTotals.lean).
  GIVEN WITH THE SEED: the statements are not yours to turn. If you find one false, say at which input.
  Laid BY PROGRAM, IN A SANDBOX (cutbox-rows.mjs): the forced cells as the released guide's own fill.sh prints them over the translation 5187345299b1b662… (all of the seat's roots in one cut). By AI agents, Wed Nov 11 2026. No macro, syntax, notation, axiom, sorry.
-/
import Derived.Test.YtcpecapbknnaeaaDoorChecked
import GoSem.Claim
import GoSem.ClaimJoined
import GoSem.ClaimMapViews
import Derived.JoinedTies
import Derived.KernelRfl
namespace Go.Proofs.YtcpecapbknnaeaaDoor
/- THE CELL 'sum', in the pinned program and in every row, IS THE sha256 OF THE DUMP (.gsa) THAT YtcpecapbknnaeaaDoorProg.lean LOADS. Nothing in Lean hashes anything: it is a label: what it is worth is what the hold of that sum in a sandbox is worth. -/
noncomputable def Tryd.pinned : Pinned := { name := "ytcpecapbknnaeaadoor", sum := "5187345299b1b662ef772adb8018090fa18c8517d6475407bd92058f765cddb0", checked := Tryd.checked }
namespace Rows
def none {H : Type} : Left H := { results := [], args := [] }

/- WHAT THE LISTED PACKAGE-LEVEL VARIABLES READ AS WHEN THE CALL BEGINS. Each datum BY PROGRAM (the guide's laid-datum.mjs) off the statement by which the dump's own 'gosem.cut.vars' lays the variable. In a bare row this is a premise. The card (YtcpecapbknnaeaaDoorCards.lean) ties it to the program's text. -/
def laid_septum_word_sizes {H : Type} : DataW H := .agg [.lit (.int .i64 1), .lit (.int .i64 2), .lit (.int .i64 4)]
def laid_septum_lane_wide {H : Type} : DataW H := .agg [.lit (.int .u32 255), .lit (.int .u32 65280), .lit (.int .u32 16711680), .lit (.int .u32 4278190080)]

/-- 'septumlaw09.RamApart': WHATEVER THE INPUT: true; the input reads as it did. -/
def ramApartSpec : ChangeSpec := { name := "ramApart", fn := fun _ => fun
  | [d1, d2, d3, d4] => { results := [.lit (.bool true)], args := [d1, d2, d3, d4] }
  | _ => none }
def ramApartRow : OpenClaim := { program := "ytcpecapbknnaeaadoor", sum := "5187345299b1b662ef772adb8018090fa18c8517d6475407bd92058f765cddb0", func := "septum/septumlaw09.RamApart", spec := "ramApart", unfollowed := true, recurses := true, named := ["septum/word.sizes", "septum/lane.wide"], apart := false, laid := [("septum/word.sizes", laid_septum_word_sizes), ("septum/lane.wide", laid_septum_lane_wide)] }
def RamApartSaid : Prop := ramApartRow.holds Tryd.pinned (OpenSpec.ofChange ramApartSpec)

/-- ITS FALSE NEIGHBOUR: 'it returns false'. Refute it at one input. -/
def ramApartWrong : ChangeSpec := { name := "ramApart", fn := fun _ => fun
  | [d1, d2, d3, d4] => { results := [.lit (.bool false)], args := [d1, d2, d3, d4] }
  | _ => none }
def RamApartWrongFalsely : Prop := ramApartRow.holds Tryd.pinned (OpenSpec.ofChange ramApartWrong)

/-- 'septumlaw09.RamDoes': WHATEVER THE INPUT: true; the input reads as it did. -/
def ramDoesSpec : ChangeSpec := { name := "ramDoes", fn := fun _ => fun
  | [d1, d2] => { results := [.lit (.bool true)], args := [d1, d2] }
  | _ => none }
def ramDoesRow : OpenClaim := { program := "ytcpecapbknnaeaadoor", sum := "5187345299b1b662ef772adb8018090fa18c8517d6475407bd92058f765cddb0", func := "septum/septumlaw09.RamDoes", spec := "ramDoes", unfollowed := true, recurses := true, named := ["septum/word.sizes", "septum/lane.wide"], apart := false, laid := [("septum/word.sizes", laid_septum_word_sizes), ("septum/lane.wide", laid_septum_lane_wide)] }
def RamDoesSaid : Prop := ramDoesRow.holds Tryd.pinned (OpenSpec.ofChange ramDoesSpec)

/-- ITS FALSE NEIGHBOUR: 'it returns false'. Refute it at one input. -/
def ramDoesWrong : ChangeSpec := { name := "ramDoes", fn := fun _ => fun
  | [d1, d2] => { results := [.lit (.bool false)], args := [d1, d2] }
  | _ => none }
def RamDoesWrongFalsely : Prop := ramDoesRow.holds Tryd.pinned (OpenSpec.ofChange ramDoesWrong)

/-- 'septumlaw09.RamEnds': WHATEVER THE INPUT: true; the input reads as it did. -/
def ramEndsSpec : ChangeSpec := { name := "ramEnds", fn := fun _ => fun
  | [] => { results := [.lit (.bool true)], args := [] }
  | _ => none }
def ramEndsRow : OpenClaim := { program := "ytcpecapbknnaeaadoor", sum := "5187345299b1b662ef772adb8018090fa18c8517d6475407bd92058f765cddb0", func := "septum/septumlaw09.RamEnds", spec := "ramEnds", unfollowed := true, recurses := true, named := ["septum/word.sizes", "septum/lane.wide"], apart := false, laid := [("septum/word.sizes", laid_septum_word_sizes), ("septum/lane.wide", laid_septum_lane_wide)] }
def RamEndsSaid : Prop := ramEndsRow.holds Tryd.pinned (OpenSpec.ofChange ramEndsSpec)

/-- ITS FALSE NEIGHBOUR: 'it returns false'. Refute it at one input. -/
def ramEndsWrong : ChangeSpec := { name := "ramEnds", fn := fun _ => fun
  | [] => { results := [.lit (.bool false)], args := [] }
  | _ => none }
def RamEndsWrongFalsely : Prop := ramEndsRow.holds Tryd.pinned (OpenSpec.ofChange ramEndsWrong)

/-- 'septumlaw09.RamKeeps': WHATEVER THE INPUT: true; the input reads as it did. -/
def ramKeepsSpec : ChangeSpec := { name := "ramKeeps", fn := fun _ => fun
  | [d1, d2, d3, d4, d5, d6, d7] => { results := [.lit (.bool true)], args := [d1, d2, d3, d4, d5, d6, d7] }
  | _ => none }
def ramKeepsRow : OpenClaim := { program := "ytcpecapbknnaeaadoor", sum := "5187345299b1b662ef772adb8018090fa18c8517d6475407bd92058f765cddb0", func := "septum/septumlaw09.RamKeeps", spec := "ramKeeps", unfollowed := true, recurses := true, named := ["septum/word.sizes", "septum/lane.wide"], apart := false, laid := [("septum/word.sizes", laid_septum_word_sizes), ("septum/lane.wide", laid_septum_lane_wide)] }
def RamKeepsSaid : Prop := ramKeepsRow.holds Tryd.pinned (OpenSpec.ofChange ramKeepsSpec)

/-- ITS FALSE NEIGHBOUR: 'it returns false'. Refute it at one input. -/
def ramKeepsWrong : ChangeSpec := { name := "ramKeeps", fn := fun _ => fun
  | [d1, d2, d3, d4, d5, d6, d7] => { results := [.lit (.bool false)], args := [d1, d2, d3, d4, d5, d6, d7] }
  | _ => none }
def RamKeepsWrongFalsely : Prop := ramKeepsRow.holds Tryd.pinned (OpenSpec.ofChange ramKeepsWrong)

/- THE SECOND FORM. 'bulk': how many values and letters a reading holds, each counted each time it is reached (what is shared counts as often as it is met; a slice's spare places count too). A statement '..UptoSaid' is the law's where the arguments, and the package variables that the reading takes, are together of bulk at most 1048576: NARROWER than '..Said'. Prove '..Said' where nothing that the law and all that it calls make is longer than what came in: it says more and counts as full. Else prove '..UptoSaid'. A law counts once. -/
mutual
def uptoBulk {H : Type} : DataW H → Nat
  | .lit (.string bytes) => bytes.length + 1
  | .lit _ => 1
  | .nil => 1
  | .ptr d => uptoBulk d + 1
  | .slice elems spare => uptoBulkAll elems + uptoBulkAll spare + 1
  | .agg parts => uptoBulkAll parts + 1
  | .iface _ d => uptoBulk d + 1
  | .map entries => uptoBulkEntries entries + 1
  | .held _ => 1
def uptoBulkAll {H : Type} : List (DataW H) → Nat
  | [] => 0
  | d :: r => uptoBulk d + uptoBulkAll r
def uptoBulkEntries {H : Type} : List (Lit × DataW H) → Nat
  | [] => 0
  | x :: r => uptoBulkEntry x + uptoBulkEntries r
def uptoBulkEntry {H : Type} : Lit × DataW H → Nat
  | (.string bytes, d) => bytes.length + uptoBulk d + 1
  | (_, d) => uptoBulk d + 1
 end
def uptoSmall : (H : Type) → List (DataW H) → Bool := fun _ ds => decide (uptoBulkAll ds ≤ 1048576)
def OpenSpec.upto (s : _root_.Go.ChangeSpec) : _root_.Go.OpenSpec := { _root_.Go.OpenSpec.ofChange s with cond := some uptoSmall }

/-- 'septumlaw09.RamApart', WHERE WHAT IT READS IS OF BULK AT MOST 1048576: true; the input reads as it did. -/
def ramApartUptoRow : OpenClaim := { program := "ytcpecapbknnaeaadoor", sum := "5187345299b1b662ef772adb8018090fa18c8517d6475407bd92058f765cddb0", func := "septum/septumlaw09.RamApart", spec := "ramApart", unfollowed := true, recurses := true, named := ["septum/word.sizes", "septum/lane.wide"], apart := false, laid := [("septum/word.sizes", laid_septum_word_sizes), ("septum/lane.wide", laid_septum_lane_wide)], narrowed := true }
def RamApartUptoSaid : Prop := ramApartUptoRow.holds Tryd.pinned (OpenSpec.upto ramApartSpec)

/-- 'septumlaw09.RamDoes', WHERE WHAT IT READS IS OF BULK AT MOST 1048576: true; the input reads as it did. -/
def ramDoesUptoRow : OpenClaim := { program := "ytcpecapbknnaeaadoor", sum := "5187345299b1b662ef772adb8018090fa18c8517d6475407bd92058f765cddb0", func := "septum/septumlaw09.RamDoes", spec := "ramDoes", unfollowed := true, recurses := true, named := ["septum/word.sizes", "septum/lane.wide"], apart := false, laid := [("septum/word.sizes", laid_septum_word_sizes), ("septum/lane.wide", laid_septum_lane_wide)], narrowed := true }
def RamDoesUptoSaid : Prop := ramDoesUptoRow.holds Tryd.pinned (OpenSpec.upto ramDoesSpec)

/-- 'septumlaw09.RamEnds', WHERE WHAT IT READS IS OF BULK AT MOST 1048576: true; the input reads as it did. -/
def ramEndsUptoRow : OpenClaim := { program := "ytcpecapbknnaeaadoor", sum := "5187345299b1b662ef772adb8018090fa18c8517d6475407bd92058f765cddb0", func := "septum/septumlaw09.RamEnds", spec := "ramEnds", unfollowed := true, recurses := true, named := ["septum/word.sizes", "septum/lane.wide"], apart := false, laid := [("septum/word.sizes", laid_septum_word_sizes), ("septum/lane.wide", laid_septum_lane_wide)], narrowed := true }
def RamEndsUptoSaid : Prop := ramEndsUptoRow.holds Tryd.pinned (OpenSpec.upto ramEndsSpec)

/-- 'septumlaw09.RamKeeps', WHERE WHAT IT READS IS OF BULK AT MOST 1048576: true; the input reads as it did. -/
def ramKeepsUptoRow : OpenClaim := { program := "ytcpecapbknnaeaadoor", sum := "5187345299b1b662ef772adb8018090fa18c8517d6475407bd92058f765cddb0", func := "septum/septumlaw09.RamKeeps", spec := "ramKeeps", unfollowed := true, recurses := true, named := ["septum/word.sizes", "septum/lane.wide"], apart := false, laid := [("septum/word.sizes", laid_septum_word_sizes), ("septum/lane.wide", laid_septum_lane_wide)], narrowed := true }
def RamKeepsUptoSaid : Prop := ramKeepsUptoRow.holds Tryd.pinned (OpenSpec.upto ramKeepsSpec)

end Rows
end Go.Proofs.YtcpecapbknnaeaaDoor
