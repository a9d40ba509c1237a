/-
  NARROWER THAN 'FOR EVERY INPUT', by the rows' own cells (each row's printed sentence says how): LanePlaces: laid · LaneMoves: laid · LaneEnds: laid · LaneBack: laid · LaneMasks: laid.
  DERIVED. THE GIVEN ROWS OF THIS SEAT. 5 by the template 'for every input the law returns true; each argument reads behind the call as it read before'; 0 by the template 'total and deterministic' (their statements: YtkheaekokmomhaaDoorTotals.lean).
  GIVEN WITH THE SEED: the statements are not yours to turn. If you find one false, say at which input.
  Laid BY PROGRAM, IN A SANDBOX (cutbox-rows.mjs): the forced cells as the released guide's own fill.sh prints them over the translation 89beef87552641f7… (all of the seat's roots in one cut). By AI agents, Wed Nov 11 2026. No macro, syntax, notation, axiom, sorry.
-/
import Derived.Test.YtkheaekokmomhaaDoorChecked
import GoSem.Claim
import GoSem.ClaimJoined
import GoSem.ClaimMapViews
import Derived.JoinedTies
import Derived.KernelRfl
namespace Go.Proofs.YtkheaekokmomhaaDoor
/- THE CELL 'sum', in the pinned program and in every row, IS THE sha256 OF THE DUMP (.gsa) THAT YtkheaekokmomhaaDoorProg.lean LOADS. Nothing in Lean hashes anything: it is a label: what it is worth is what the hold of that sum in a sandbox is worth. -/
noncomputable def Tryd.pinned : Pinned := { name := "ytkheaekokmomhaadoor", sum := "89beef87552641f74308b3367358d06840b0004877af5da3c34e85f6b29a3e11", checked := Tryd.checked }
namespace Rows
def none {H : Type} : Left H := { results := [], args := [] }

/- WHAT THE LISTED PACKAGE-LEVEL VARIABLES READ AS WHEN THE CALL BEGINS. Each datum BY PROGRAM (the guide's laid-datum.mjs) off the statement by which the dump's own 'gosem.cut.vars' lays the variable. In a bare row this is a premise. The card (YtkheaekokmomhaaDoorCards.lean) ties it to the program's text. -/
def laid_septum_word_sizes {H : Type} : DataW H := .agg [.lit (.int .i64 1), .lit (.int .i64 2), .lit (.int .i64 4)]
def laid_septum_lane_wide {H : Type} : DataW H := .agg [.lit (.int .u32 255), .lit (.int .u32 65280), .lit (.int .u32 16711680), .lit (.int .u32 4278190080)]

/-- 'septumlaw03.LanePlaces': WHATEVER THE INPUT: true; the input reads as it did. -/
def lanePlacesSpec : ChangeSpec := { name := "lanePlaces", fn := fun _ => fun
  | [d1, d2, d3] => { results := [.lit (.bool true)], args := [d1, d2, d3] }
  | _ => none }
def lanePlacesRow : OpenClaim := { program := "ytkheaekokmomhaadoor", sum := "89beef87552641f74308b3367358d06840b0004877af5da3c34e85f6b29a3e11", func := "septum/septumlaw03.LanePlaces", spec := "lanePlaces", unfollowed := true, recurses := true, named := ["septum/word.sizes", "septum/lane.wide"], apart := false, laid := [("septum/word.sizes", laid_septum_word_sizes), ("septum/lane.wide", laid_septum_lane_wide)] }
def LanePlacesSaid : Prop := lanePlacesRow.holds Tryd.pinned (OpenSpec.ofChange lanePlacesSpec)

/-- ITS FALSE NEIGHBOUR: 'it returns false'. Refute it at one input. -/
def lanePlacesWrong : ChangeSpec := { name := "lanePlaces", fn := fun _ => fun
  | [d1, d2, d3] => { results := [.lit (.bool false)], args := [d1, d2, d3] }
  | _ => none }
def LanePlacesWrongFalsely : Prop := lanePlacesRow.holds Tryd.pinned (OpenSpec.ofChange lanePlacesWrong)

/-- 'septumlaw03.LaneMoves': WHATEVER THE INPUT: true; the input reads as it did. -/
def laneMovesSpec : ChangeSpec := { name := "laneMoves", fn := fun _ => fun
  | [d1, d2, d3, d4] => { results := [.lit (.bool true)], args := [d1, d2, d3, d4] }
  | _ => none }
def laneMovesRow : OpenClaim := { program := "ytkheaekokmomhaadoor", sum := "89beef87552641f74308b3367358d06840b0004877af5da3c34e85f6b29a3e11", func := "septum/septumlaw03.LaneMoves", spec := "laneMoves", unfollowed := true, recurses := true, named := ["septum/lane.wide", "septum/word.sizes"], apart := false, laid := [("septum/word.sizes", laid_septum_word_sizes), ("septum/lane.wide", laid_septum_lane_wide)] }
def LaneMovesSaid : Prop := laneMovesRow.holds Tryd.pinned (OpenSpec.ofChange laneMovesSpec)

/-- ITS FALSE NEIGHBOUR: 'it returns false'. Refute it at one input. -/
def laneMovesWrong : ChangeSpec := { name := "laneMoves", fn := fun _ => fun
  | [d1, d2, d3, d4] => { results := [.lit (.bool false)], args := [d1, d2, d3, d4] }
  | _ => none }
def LaneMovesWrongFalsely : Prop := laneMovesRow.holds Tryd.pinned (OpenSpec.ofChange laneMovesWrong)

/-- 'septumlaw03.LaneEnds': WHATEVER THE INPUT: true; the input reads as it did. -/
def laneEndsSpec : ChangeSpec := { name := "laneEnds", fn := fun _ => fun
  | [] => { results := [.lit (.bool true)], args := [] }
  | _ => none }
def laneEndsRow : OpenClaim := { program := "ytkheaekokmomhaadoor", sum := "89beef87552641f74308b3367358d06840b0004877af5da3c34e85f6b29a3e11", func := "septum/septumlaw03.LaneEnds", spec := "laneEnds", unfollowed := true, recurses := true, named := ["septum/word.sizes", "septum/lane.wide"], apart := false, laid := [("septum/word.sizes", laid_septum_word_sizes), ("septum/lane.wide", laid_septum_lane_wide)] }
def LaneEndsSaid : Prop := laneEndsRow.holds Tryd.pinned (OpenSpec.ofChange laneEndsSpec)

/-- ITS FALSE NEIGHBOUR: 'it returns false'. Refute it at one input. -/
def laneEndsWrong : ChangeSpec := { name := "laneEnds", fn := fun _ => fun
  | [] => { results := [.lit (.bool false)], args := [] }
  | _ => none }
def LaneEndsWrongFalsely : Prop := laneEndsRow.holds Tryd.pinned (OpenSpec.ofChange laneEndsWrong)

/-- 'septumlaw03.LaneBack': WHATEVER THE INPUT: true; the input reads as it did. -/
def laneBackSpec : ChangeSpec := { name := "laneBack", fn := fun _ => fun
  | [d1, d2, d3, d4, d5, d6] => { results := [.lit (.bool true)], args := [d1, d2, d3, d4, d5, d6] }
  | _ => none }
def laneBackRow : OpenClaim := { program := "ytkheaekokmomhaadoor", sum := "89beef87552641f74308b3367358d06840b0004877af5da3c34e85f6b29a3e11", func := "septum/septumlaw03.LaneBack", spec := "laneBack", unfollowed := true, recurses := true, named := ["septum/word.sizes", "septum/lane.wide"], apart := false, laid := [("septum/word.sizes", laid_septum_word_sizes), ("septum/lane.wide", laid_septum_lane_wide)] }
def LaneBackSaid : Prop := laneBackRow.holds Tryd.pinned (OpenSpec.ofChange laneBackSpec)

/-- ITS FALSE NEIGHBOUR: 'it returns false'. Refute it at one input. -/
def laneBackWrong : ChangeSpec := { name := "laneBack", fn := fun _ => fun
  | [d1, d2, d3, d4, d5, d6] => { results := [.lit (.bool false)], args := [d1, d2, d3, d4, d5, d6] }
  | _ => none }
def LaneBackWrongFalsely : Prop := laneBackRow.holds Tryd.pinned (OpenSpec.ofChange laneBackWrong)

/-- 'septumlaw03.LaneMasks': WHATEVER THE INPUT: true; the input reads as it did. -/
def laneMasksSpec : ChangeSpec := { name := "laneMasks", fn := fun _ => fun
  | [d1, d2, d3] => { results := [.lit (.bool true)], args := [d1, d2, d3] }
  | _ => none }
def laneMasksRow : OpenClaim := { program := "ytkheaekokmomhaadoor", sum := "89beef87552641f74308b3367358d06840b0004877af5da3c34e85f6b29a3e11", func := "septum/septumlaw03.LaneMasks", spec := "laneMasks", unfollowed := true, recurses := true, named := ["septum/word.sizes", "septum/lane.wide"], apart := false, laid := [("septum/word.sizes", laid_septum_word_sizes), ("septum/lane.wide", laid_septum_lane_wide)] }
def LaneMasksSaid : Prop := laneMasksRow.holds Tryd.pinned (OpenSpec.ofChange laneMasksSpec)

/-- ITS FALSE NEIGHBOUR: 'it returns false'. Refute it at one input. -/
def laneMasksWrong : ChangeSpec := { name := "laneMasks", fn := fun _ => fun
  | [d1, d2, d3] => { results := [.lit (.bool false)], args := [d1, d2, d3] }
  | _ => none }
def LaneMasksWrongFalsely : Prop := laneMasksRow.holds Tryd.pinned (OpenSpec.ofChange laneMasksWrong)

/- THE SECOND FORM. 'bulk': how many values and letters a reading holds, each counted each time it is reached (what is shared counts as often as it is met; a slice's spare places count too). A statement '..UptoSaid' is the law's where the arguments, and the package variables that the reading takes, are together of bulk at most 1048576: NARROWER than '..Said'. Prove '..Said' where nothing that the law and all that it calls make is longer than what came in: it says more and counts as full. Else prove '..UptoSaid'. A law counts once. -/
mutual
def uptoBulk {H : Type} : DataW H → Nat
  | .lit (.string bytes) => bytes.length + 1
  | .lit _ => 1
  | .nil => 1
  | .ptr d => uptoBulk d + 1
  | .slice elems spare => uptoBulkAll elems + uptoBulkAll spare + 1
  | .agg parts => uptoBulkAll parts + 1
  | .iface _ d => uptoBulk d + 1
  | .map entries => uptoBulkEntries entries + 1
  | .held _ => 1
def uptoBulkAll {H : Type} : List (DataW H) → Nat
  | [] => 0
  | d :: r => uptoBulk d + uptoBulkAll r
def uptoBulkEntries {H : Type} : List (Lit × DataW H) → Nat
  | [] => 0
  | x :: r => uptoBulkEntry x + uptoBulkEntries r
def uptoBulkEntry {H : Type} : Lit × DataW H → Nat
  | (.string bytes, d) => bytes.length + uptoBulk d + 1
  | (_, d) => uptoBulk d + 1
 end
def uptoSmall : (H : Type) → List (DataW H) → Bool := fun _ ds => decide (uptoBulkAll ds ≤ 1048576)
def OpenSpec.upto (s : _root_.Go.ChangeSpec) : _root_.Go.OpenSpec := { _root_.Go.OpenSpec.ofChange s with cond := some uptoSmall }

/-- 'septumlaw03.LanePlaces', WHERE WHAT IT READS IS OF BULK AT MOST 1048576: true; the input reads as it did. -/
def lanePlacesUptoRow : OpenClaim := { program := "ytkheaekokmomhaadoor", sum := "89beef87552641f74308b3367358d06840b0004877af5da3c34e85f6b29a3e11", func := "septum/septumlaw03.LanePlaces", spec := "lanePlaces", unfollowed := true, recurses := true, named := ["septum/word.sizes", "septum/lane.wide"], apart := false, laid := [("septum/word.sizes", laid_septum_word_sizes), ("septum/lane.wide", laid_septum_lane_wide)], narrowed := true }
def LanePlacesUptoSaid : Prop := lanePlacesUptoRow.holds Tryd.pinned (OpenSpec.upto lanePlacesSpec)

/-- 'septumlaw03.LaneMoves', WHERE WHAT IT READS IS OF BULK AT MOST 1048576: true; the input reads as it did. -/
def laneMovesUptoRow : OpenClaim := { program := "ytkheaekokmomhaadoor", sum := "89beef87552641f74308b3367358d06840b0004877af5da3c34e85f6b29a3e11", func := "septum/septumlaw03.LaneMoves", spec := "laneMoves", unfollowed := true, recurses := true, named := ["septum/lane.wide", "septum/word.sizes"], apart := false, laid := [("septum/word.sizes", laid_septum_word_sizes), ("septum/lane.wide", laid_septum_lane_wide)], narrowed := true }
def LaneMovesUptoSaid : Prop := laneMovesUptoRow.holds Tryd.pinned (OpenSpec.upto laneMovesSpec)

/-- 'septumlaw03.LaneEnds', WHERE WHAT IT READS IS OF BULK AT MOST 1048576: true; the input reads as it did. -/
def laneEndsUptoRow : OpenClaim := { program := "ytkheaekokmomhaadoor", sum := "89beef87552641f74308b3367358d06840b0004877af5da3c34e85f6b29a3e11", func := "septum/septumlaw03.LaneEnds", spec := "laneEnds", unfollowed := true, recurses := true, named := ["septum/word.sizes", "septum/lane.wide"], apart := false, laid := [("septum/word.sizes", laid_septum_word_sizes), ("septum/lane.wide", laid_septum_lane_wide)], narrowed := true }
def LaneEndsUptoSaid : Prop := laneEndsUptoRow.holds Tryd.pinned (OpenSpec.upto laneEndsSpec)

/-- 'septumlaw03.LaneBack', WHERE WHAT IT READS IS OF BULK AT MOST 1048576: true; the input reads as it did. -/
def laneBackUptoRow : OpenClaim := { program := "ytkheaekokmomhaadoor", sum := "89beef87552641f74308b3367358d06840b0004877af5da3c34e85f6b29a3e11", func := "septum/septumlaw03.LaneBack", spec := "laneBack", unfollowed := true, recurses := true, named := ["septum/word.sizes", "septum/lane.wide"], apart := false, laid := [("septum/word.sizes", laid_septum_word_sizes), ("septum/lane.wide", laid_septum_lane_wide)], narrowed := true }
def LaneBackUptoSaid : Prop := laneBackUptoRow.holds Tryd.pinned (OpenSpec.upto laneBackSpec)

/-- 'septumlaw03.LaneMasks', WHERE WHAT IT READS IS OF BULK AT MOST 1048576: true; the input reads as it did. -/
def laneMasksUptoRow : OpenClaim := { program := "ytkheaekokmomhaadoor", sum := "89beef87552641f74308b3367358d06840b0004877af5da3c34e85f6b29a3e11", func := "septum/septumlaw03.LaneMasks", spec := "laneMasks", unfollowed := true, recurses := true, named := ["septum/word.sizes", "septum/lane.wide"], apart := false, laid := [("septum/word.sizes", laid_septum_word_sizes), ("septum/lane.wide", laid_septum_lane_wide)], narrowed := true }
def LaneMasksUptoSaid : Prop := laneMasksUptoRow.holds Tryd.pinned (OpenSpec.upto laneMasksSpec)

end Rows
end Go.Proofs.YtkheaekokmomhaaDoor
