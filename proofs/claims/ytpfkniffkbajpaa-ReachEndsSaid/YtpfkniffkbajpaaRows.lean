/-
  No cell of these rows narrows 'for every input' (looked for: loops, veiled, ifaces, maps, wideKeys, modest, calm, conditions, laid).
  DERIVED. THE GIVEN ROWS OF THIS SEAT. 6 by the template 'for every input the law returns true; each argument reads behind the call as it read before'; 0 by the template 'total and deterministic' (their statements: YtpfkniffkbajpaaTotals.lean).
  GIVEN WITH THE SEED: the statements are not yours to turn. If you find one false, say at which input.
  Laid BY PROGRAM, IN A SANDBOX (cutbox-rows.mjs): the forced cells as the released guide's own fill.sh prints them over the translation 3c78eda07ba1886d… (all of the seat's roots in one cut). By AI agents, Wed Nov 11 2026. No macro, syntax, notation, axiom, sorry.
-/
import Derived.Test.YtpfkniffkbajpaaChecked
import GoSem.Claim
import GoSem.ClaimJoined
import GoSem.ClaimMapViews
import Derived.JoinedTies
import Derived.KernelRfl
namespace Go.Proofs.Ytpfkniffkbajpaa
/- THE CELL 'sum', in the pinned program and in every row, IS THE sha256 OF THE DUMP (.gsa) THAT YtpfkniffkbajpaaProg.lean LOADS. Nothing in Lean hashes anything: it is a label: what it is worth is what the hold of that sum in a sandbox is worth. -/
noncomputable def Try.pinned : Pinned := { name := "ytpfkniffkbajpaa", sum := "3c78eda07ba1886def6b43c42f8bf129f0f240b8a7a8fa9b36fad8f8516c6e26", checked := Try.checked }
namespace Rows
def none {H : Type} : Left H := { results := [], args := [] }

/-- 'septumlaw02.ReachOne': WHATEVER THE INPUT: true; the input reads as it did. -/
def reachOneSpec : ChangeSpec := { name := "reachOne", fn := fun _ => fun
  | [d1, d2, d3] => { results := [.lit (.bool true)], args := [d1, d2, d3] }
  | _ => none }
def reachOneRow : OpenClaim := { program := "ytpfkniffkbajpaa", sum := "3c78eda07ba1886def6b43c42f8bf129f0f240b8a7a8fa9b36fad8f8516c6e26", func := "septum/septumlaw02.ReachOne", spec := "reachOne", unfollowed := true, recurses := true, apart := false }
def ReachOneSaid : Prop := reachOneRow.holds Try.pinned (OpenSpec.ofChange reachOneSpec)

/-- ITS FALSE NEIGHBOUR: 'it returns false'. Refute it at one input. -/
def reachOneWrong : ChangeSpec := { name := "reachOne", fn := fun _ => fun
  | [d1, d2, d3] => { results := [.lit (.bool false)], args := [d1, d2, d3] }
  | _ => none }
def ReachOneWrongFalsely : Prop := reachOneRow.holds Try.pinned (OpenSpec.ofChange reachOneWrong)

/-- 'septumlaw02.ReachTwo': WHATEVER THE INPUT: true; the input reads as it did. -/
def reachTwoSpec : ChangeSpec := { name := "reachTwo", fn := fun _ => fun
  | [d1, d2] => { results := [.lit (.bool true)], args := [d1, d2] }
  | _ => none }
def reachTwoRow : OpenClaim := { program := "ytpfkniffkbajpaa", sum := "3c78eda07ba1886def6b43c42f8bf129f0f240b8a7a8fa9b36fad8f8516c6e26", func := "septum/septumlaw02.ReachTwo", spec := "reachTwo", unfollowed := true, recurses := true, apart := false }
def ReachTwoSaid : Prop := reachTwoRow.holds Try.pinned (OpenSpec.ofChange reachTwoSpec)

/-- ITS FALSE NEIGHBOUR: 'it returns false'. Refute it at one input. -/
def reachTwoWrong : ChangeSpec := { name := "reachTwo", fn := fun _ => fun
  | [d1, d2] => { results := [.lit (.bool false)], args := [d1, d2] }
  | _ => none }
def ReachTwoWrongFalsely : Prop := reachTwoRow.holds Try.pinned (OpenSpec.ofChange reachTwoWrong)

/-- 'septumlaw02.ReachOrder': WHATEVER THE INPUT: true; the input reads as it did. -/
def reachOrderSpec : ChangeSpec := { name := "reachOrder", fn := fun _ => fun
  | [d1, d2, d3] => { results := [.lit (.bool true)], args := [d1, d2, d3] }
  | _ => none }
def reachOrderRow : OpenClaim := { program := "ytpfkniffkbajpaa", sum := "3c78eda07ba1886def6b43c42f8bf129f0f240b8a7a8fa9b36fad8f8516c6e26", func := "septum/septumlaw02.ReachOrder", spec := "reachOrder", unfollowed := true, recurses := true, apart := false }
def ReachOrderSaid : Prop := reachOrderRow.holds Try.pinned (OpenSpec.ofChange reachOrderSpec)

/-- ITS FALSE NEIGHBOUR: 'it returns false'. Refute it at one input. -/
def reachOrderWrong : ChangeSpec := { name := "reachOrder", fn := fun _ => fun
  | [d1, d2, d3] => { results := [.lit (.bool false)], args := [d1, d2, d3] }
  | _ => none }
def ReachOrderWrongFalsely : Prop := reachOrderRow.holds Try.pinned (OpenSpec.ofChange reachOrderWrong)

/-- 'septumlaw02.ReachApart': WHATEVER THE INPUT: true; the input reads as it did. -/
def reachApartSpec : ChangeSpec := { name := "reachApart", fn := fun _ => fun
  | [d] => { results := [.lit (.bool true)], args := [d] }
  | _ => none }
def reachApartRow : OpenClaim := { program := "ytpfkniffkbajpaa", sum := "3c78eda07ba1886def6b43c42f8bf129f0f240b8a7a8fa9b36fad8f8516c6e26", func := "septum/septumlaw02.ReachApart", spec := "reachApart", unfollowed := true, recurses := true, apart := false }
def ReachApartSaid : Prop := reachApartRow.holds Try.pinned (OpenSpec.ofChange reachApartSpec)

/-- ITS FALSE NEIGHBOUR: 'it returns false'. Refute it at one input. -/
def reachApartWrong : ChangeSpec := { name := "reachApart", fn := fun _ => fun
  | [d] => { results := [.lit (.bool false)], args := [d] }
  | _ => none }
def ReachApartWrongFalsely : Prop := reachApartRow.holds Try.pinned (OpenSpec.ofChange reachApartWrong)

/-- 'septumlaw02.ReachMeets': WHATEVER THE INPUT: true; the input reads as it did. -/
def reachMeetsSpec : ChangeSpec := { name := "reachMeets", fn := fun _ => fun
  | [d1, d2, d3, d4] => { results := [.lit (.bool true)], args := [d1, d2, d3, d4] }
  | _ => none }
def reachMeetsRow : OpenClaim := { program := "ytpfkniffkbajpaa", sum := "3c78eda07ba1886def6b43c42f8bf129f0f240b8a7a8fa9b36fad8f8516c6e26", func := "septum/septumlaw02.ReachMeets", spec := "reachMeets", unfollowed := true, recurses := true, apart := false }
def ReachMeetsSaid : Prop := reachMeetsRow.holds Try.pinned (OpenSpec.ofChange reachMeetsSpec)

/-- ITS FALSE NEIGHBOUR: 'it returns false'. Refute it at one input. -/
def reachMeetsWrong : ChangeSpec := { name := "reachMeets", fn := fun _ => fun
  | [d1, d2, d3, d4] => { results := [.lit (.bool false)], args := [d1, d2, d3, d4] }
  | _ => none }
def ReachMeetsWrongFalsely : Prop := reachMeetsRow.holds Try.pinned (OpenSpec.ofChange reachMeetsWrong)

/-- 'septumlaw02.ReachEnds': WHATEVER THE INPUT: true; the input reads as it did. -/
def reachEndsSpec : ChangeSpec := { name := "reachEnds", fn := fun _ => fun
  | [] => { results := [.lit (.bool true)], args := [] }
  | _ => none }
def reachEndsRow : OpenClaim := { program := "ytpfkniffkbajpaa", sum := "3c78eda07ba1886def6b43c42f8bf129f0f240b8a7a8fa9b36fad8f8516c6e26", func := "septum/septumlaw02.ReachEnds", spec := "reachEnds", unfollowed := true, recurses := true, apart := false }
def ReachEndsSaid : Prop := reachEndsRow.holds Try.pinned (OpenSpec.ofChange reachEndsSpec)

/-- ITS FALSE NEIGHBOUR: 'it returns false'. Refute it at one input. -/
def reachEndsWrong : ChangeSpec := { name := "reachEnds", fn := fun _ => fun
  | [] => { results := [.lit (.bool false)], args := [] }
  | _ => none }
def ReachEndsWrongFalsely : Prop := reachEndsRow.holds Try.pinned (OpenSpec.ofChange reachEndsWrong)

/- THE SECOND FORM. 'bulk': how many values and letters a reading holds, each counted each time it is reached (what is shared counts as often as it is met; a slice's spare places count too). A statement '..UptoSaid' is the law's where the arguments, and the package variables that the reading takes, are together of bulk at most 1048576: NARROWER than '..Said'. Prove '..Said' where nothing that the law and all that it calls make is longer than what came in: it says more and counts as full. Else prove '..UptoSaid'. A law counts once. -/
mutual
def uptoBulk {H : Type} : DataW H → Nat
  | .lit (.string bytes) => bytes.length + 1
  | .lit _ => 1
  | .nil => 1
  | .ptr d => uptoBulk d + 1
  | .slice elems spare => uptoBulkAll elems + uptoBulkAll spare + 1
  | .agg parts => uptoBulkAll parts + 1
  | .iface _ d => uptoBulk d + 1
  | .map entries => uptoBulkEntries entries + 1
  | .held _ => 1
def uptoBulkAll {H : Type} : List (DataW H) → Nat
  | [] => 0
  | d :: r => uptoBulk d + uptoBulkAll r
def uptoBulkEntries {H : Type} : List (Lit × DataW H) → Nat
  | [] => 0
  | x :: r => uptoBulkEntry x + uptoBulkEntries r
def uptoBulkEntry {H : Type} : Lit × DataW H → Nat
  | (.string bytes, d) => bytes.length + uptoBulk d + 1
  | (_, d) => uptoBulk d + 1
 end
def uptoSmall : (H : Type) → List (DataW H) → Bool := fun _ ds => decide (uptoBulkAll ds ≤ 1048576)
def OpenSpec.upto (s : _root_.Go.ChangeSpec) : _root_.Go.OpenSpec := { _root_.Go.OpenSpec.ofChange s with cond := some uptoSmall }

/-- 'septumlaw02.ReachOne', WHERE WHAT IT READS IS OF BULK AT MOST 1048576: true; the input reads as it did. -/
def reachOneUptoRow : OpenClaim := { program := "ytpfkniffkbajpaa", sum := "3c78eda07ba1886def6b43c42f8bf129f0f240b8a7a8fa9b36fad8f8516c6e26", func := "septum/septumlaw02.ReachOne", spec := "reachOne", unfollowed := true, recurses := true, apart := false, narrowed := true }
def ReachOneUptoSaid : Prop := reachOneUptoRow.holds Try.pinned (OpenSpec.upto reachOneSpec)

/-- 'septumlaw02.ReachTwo', WHERE WHAT IT READS IS OF BULK AT MOST 1048576: true; the input reads as it did. -/
def reachTwoUptoRow : OpenClaim := { program := "ytpfkniffkbajpaa", sum := "3c78eda07ba1886def6b43c42f8bf129f0f240b8a7a8fa9b36fad8f8516c6e26", func := "septum/septumlaw02.ReachTwo", spec := "reachTwo", unfollowed := true, recurses := true, apart := false, narrowed := true }
def ReachTwoUptoSaid : Prop := reachTwoUptoRow.holds Try.pinned (OpenSpec.upto reachTwoSpec)

/-- 'septumlaw02.ReachOrder', WHERE WHAT IT READS IS OF BULK AT MOST 1048576: true; the input reads as it did. -/
def reachOrderUptoRow : OpenClaim := { program := "ytpfkniffkbajpaa", sum := "3c78eda07ba1886def6b43c42f8bf129f0f240b8a7a8fa9b36fad8f8516c6e26", func := "septum/septumlaw02.ReachOrder", spec := "reachOrder", unfollowed := true, recurses := true, apart := false, narrowed := true }
def ReachOrderUptoSaid : Prop := reachOrderUptoRow.holds Try.pinned (OpenSpec.upto reachOrderSpec)

/-- 'septumlaw02.ReachApart', WHERE WHAT IT READS IS OF BULK AT MOST 1048576: true; the input reads as it did. -/
def reachApartUptoRow : OpenClaim := { program := "ytpfkniffkbajpaa", sum := "3c78eda07ba1886def6b43c42f8bf129f0f240b8a7a8fa9b36fad8f8516c6e26", func := "septum/septumlaw02.ReachApart", spec := "reachApart", unfollowed := true, recurses := true, apart := false, narrowed := true }
def ReachApartUptoSaid : Prop := reachApartUptoRow.holds Try.pinned (OpenSpec.upto reachApartSpec)

/-- 'septumlaw02.ReachMeets', WHERE WHAT IT READS IS OF BULK AT MOST 1048576: true; the input reads as it did. -/
def reachMeetsUptoRow : OpenClaim := { program := "ytpfkniffkbajpaa", sum := "3c78eda07ba1886def6b43c42f8bf129f0f240b8a7a8fa9b36fad8f8516c6e26", func := "septum/septumlaw02.ReachMeets", spec := "reachMeets", unfollowed := true, recurses := true, apart := false, narrowed := true }
def ReachMeetsUptoSaid : Prop := reachMeetsUptoRow.holds Try.pinned (OpenSpec.upto reachMeetsSpec)

/-- 'septumlaw02.ReachEnds', WHERE WHAT IT READS IS OF BULK AT MOST 1048576: true; the input reads as it did. -/
def reachEndsUptoRow : OpenClaim := { program := "ytpfkniffkbajpaa", sum := "3c78eda07ba1886def6b43c42f8bf129f0f240b8a7a8fa9b36fad8f8516c6e26", func := "septum/septumlaw02.ReachEnds", spec := "reachEnds", unfollowed := true, recurses := true, apart := false, narrowed := true }
def ReachEndsUptoSaid : Prop := reachEndsUptoRow.holds Try.pinned (OpenSpec.upto reachEndsSpec)

end Rows
end Go.Proofs.Ytpfkniffkbajpaa
