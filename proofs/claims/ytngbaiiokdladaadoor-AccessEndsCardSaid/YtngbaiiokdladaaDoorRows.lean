/-
  NARROWER THAN 'FOR EVERY INPUT', by the rows' own cells (each row's printed sentence says how): AccessReads: laid · AccessParts: laid · AccessAsks: laid · AccessEnds: laid · AccessBack: laid.
  DERIVED. THE GIVEN ROWS OF THIS SEAT. 5 by the template 'for every input the law returns true; each argument reads behind the call as it read before'; 0 by the template 'total and deterministic' (their statements: YtngbaiiokdladaaDoorTotals.lean).
  GIVEN WITH THE SEED: the statements are not yours to turn. If you find one false, say at which input.
  Laid BY PROGRAM, IN A SANDBOX (cutbox-rows.mjs): the forced cells as the released guide's own fill.sh prints them over the translation 510c171d811991fb… (all of the seat's roots in one cut). By AI agents, Wed Nov 11 2026. No macro, syntax, notation, axiom, sorry.
-/
import Derived.Test.YtngbaiiokdladaaDoorChecked
import GoSem.Claim
import GoSem.ClaimJoined
import GoSem.ClaimMapViews
import Derived.JoinedTies
import Derived.KernelRfl
namespace Go.Proofs.YtngbaiiokdladaaDoor
/- THE CELL 'sum', in the pinned program and in every row, IS THE sha256 OF THE DUMP (.gsa) THAT YtngbaiiokdladaaDoorProg.lean LOADS. Nothing in Lean hashes anything: it is a label: what it is worth is what the hold of that sum in a sandbox is worth. -/
noncomputable def Tryd.pinned : Pinned := { name := "ytngbaiiokdladaadoor", sum := "510c171d811991fb0268e85bb7464e128c6be7935208721e15e55b91624c8037", checked := Tryd.checked }
namespace Rows
def none {H : Type} : Left H := { results := [], args := [] }

/- WHAT THE LISTED PACKAGE-LEVEL VARIABLES READ AS WHEN THE CALL BEGINS. Each datum BY PROGRAM (the guide's laid-datum.mjs) off the statement by which the dump's own 'gosem.cut.vars' lays the variable. In a bare row this is a premise. The card (YtngbaiiokdladaaDoorCards.lean) ties it to the program's text. -/
def laid_septum_word_sizes {H : Type} : DataW H := .agg [.lit (.int .i64 1), .lit (.int .i64 2), .lit (.int .i64 4)]

/-- 'septumlaw04.AccessReads': WHATEVER THE INPUT: true; the input reads as it did. -/
def accessReadsSpec : ChangeSpec := { name := "accessReads", fn := fun _ => fun
  | [d] => { results := [.lit (.bool true)], args := [d] }
  | _ => none }
def accessReadsRow : OpenClaim := { program := "ytngbaiiokdladaadoor", sum := "510c171d811991fb0268e85bb7464e128c6be7935208721e15e55b91624c8037", func := "septum/septumlaw04.AccessReads", spec := "accessReads", unfollowed := true, recurses := true, named := ["septum/word.sizes"], apart := false, laid := [("septum/word.sizes", laid_septum_word_sizes)] }
def AccessReadsSaid : Prop := accessReadsRow.holds Tryd.pinned (OpenSpec.ofChange accessReadsSpec)

/-- ITS FALSE NEIGHBOUR: 'it returns false'. Refute it at one input. -/
def accessReadsWrong : ChangeSpec := { name := "accessReads", fn := fun _ => fun
  | [d] => { results := [.lit (.bool false)], args := [d] }
  | _ => none }
def AccessReadsWrongFalsely : Prop := accessReadsRow.holds Tryd.pinned (OpenSpec.ofChange accessReadsWrong)

/-- 'septumlaw04.AccessParts': WHATEVER THE INPUT: true; the input reads as it did. -/
def accessPartsSpec : ChangeSpec := { name := "accessParts", fn := fun _ => fun
  | [d1, d2, d3] => { results := [.lit (.bool true)], args := [d1, d2, d3] }
  | _ => none }
def accessPartsRow : OpenClaim := { program := "ytngbaiiokdladaadoor", sum := "510c171d811991fb0268e85bb7464e128c6be7935208721e15e55b91624c8037", func := "septum/septumlaw04.AccessParts", spec := "accessParts", unfollowed := true, recurses := true, named := ["septum/word.sizes"], apart := false, laid := [("septum/word.sizes", laid_septum_word_sizes)] }
def AccessPartsSaid : Prop := accessPartsRow.holds Tryd.pinned (OpenSpec.ofChange accessPartsSpec)

/-- ITS FALSE NEIGHBOUR: 'it returns false'. Refute it at one input. -/
def accessPartsWrong : ChangeSpec := { name := "accessParts", fn := fun _ => fun
  | [d1, d2, d3] => { results := [.lit (.bool false)], args := [d1, d2, d3] }
  | _ => none }
def AccessPartsWrongFalsely : Prop := accessPartsRow.holds Tryd.pinned (OpenSpec.ofChange accessPartsWrong)

/-- 'septumlaw04.AccessAsks': WHATEVER THE INPUT: true; the input reads as it did. -/
def accessAsksSpec : ChangeSpec := { name := "accessAsks", fn := fun _ => fun
  | [d] => { results := [.lit (.bool true)], args := [d] }
  | _ => none }
def accessAsksRow : OpenClaim := { program := "ytngbaiiokdladaadoor", sum := "510c171d811991fb0268e85bb7464e128c6be7935208721e15e55b91624c8037", func := "septum/septumlaw04.AccessAsks", spec := "accessAsks", unfollowed := true, recurses := true, named := ["septum/word.sizes"], apart := false, laid := [("septum/word.sizes", laid_septum_word_sizes)] }
def AccessAsksSaid : Prop := accessAsksRow.holds Tryd.pinned (OpenSpec.ofChange accessAsksSpec)

/-- ITS FALSE NEIGHBOUR: 'it returns false'. Refute it at one input. -/
def accessAsksWrong : ChangeSpec := { name := "accessAsks", fn := fun _ => fun
  | [d] => { results := [.lit (.bool false)], args := [d] }
  | _ => none }
def AccessAsksWrongFalsely : Prop := accessAsksRow.holds Tryd.pinned (OpenSpec.ofChange accessAsksWrong)

/-- 'septumlaw04.AccessEnds': WHATEVER THE INPUT: true; the input reads as it did. -/
def accessEndsSpec : ChangeSpec := { name := "accessEnds", fn := fun _ => fun
  | [] => { results := [.lit (.bool true)], args := [] }
  | _ => none }
def accessEndsRow : OpenClaim := { program := "ytngbaiiokdladaadoor", sum := "510c171d811991fb0268e85bb7464e128c6be7935208721e15e55b91624c8037", func := "septum/septumlaw04.AccessEnds", spec := "accessEnds", unfollowed := true, recurses := true, named := ["septum/word.sizes"], apart := false, laid := [("septum/word.sizes", laid_septum_word_sizes)] }
def AccessEndsSaid : Prop := accessEndsRow.holds Tryd.pinned (OpenSpec.ofChange accessEndsSpec)

/-- ITS FALSE NEIGHBOUR: 'it returns false'. Refute it at one input. -/
def accessEndsWrong : ChangeSpec := { name := "accessEnds", fn := fun _ => fun
  | [] => { results := [.lit (.bool false)], args := [] }
  | _ => none }
def AccessEndsWrongFalsely : Prop := accessEndsRow.holds Tryd.pinned (OpenSpec.ofChange accessEndsWrong)

/-- 'septumlaw04.AccessBack': WHATEVER THE INPUT: true; the input reads as it did. -/
def accessBackSpec : ChangeSpec := { name := "accessBack", fn := fun _ => fun
  | [d1, d2] => { results := [.lit (.bool true)], args := [d1, d2] }
  | _ => none }
def accessBackRow : OpenClaim := { program := "ytngbaiiokdladaadoor", sum := "510c171d811991fb0268e85bb7464e128c6be7935208721e15e55b91624c8037", func := "septum/septumlaw04.AccessBack", spec := "accessBack", unfollowed := true, recurses := true, named := ["septum/word.sizes"], apart := false, laid := [("septum/word.sizes", laid_septum_word_sizes)] }
def AccessBackSaid : Prop := accessBackRow.holds Tryd.pinned (OpenSpec.ofChange accessBackSpec)

/-- ITS FALSE NEIGHBOUR: 'it returns false'. Refute it at one input. -/
def accessBackWrong : ChangeSpec := { name := "accessBack", fn := fun _ => fun
  | [d1, d2] => { results := [.lit (.bool false)], args := [d1, d2] }
  | _ => none }
def AccessBackWrongFalsely : Prop := accessBackRow.holds Tryd.pinned (OpenSpec.ofChange accessBackWrong)

/- THE SECOND FORM. 'bulk': how many values and letters a reading holds, each counted each time it is reached (what is shared counts as often as it is met; a slice's spare places count too). A statement '..UptoSaid' is the law's where the arguments, and the package variables that the reading takes, are together of bulk at most 1048576: NARROWER than '..Said'. Prove '..Said' where nothing that the law and all that it calls make is longer than what came in: it says more and counts as full. Else prove '..UptoSaid'. A law counts once. -/
mutual
def uptoBulk {H : Type} : DataW H → Nat
  | .lit (.string bytes) => bytes.length + 1
  | .lit _ => 1
  | .nil => 1
  | .ptr d => uptoBulk d + 1
  | .slice elems spare => uptoBulkAll elems + uptoBulkAll spare + 1
  | .agg parts => uptoBulkAll parts + 1
  | .iface _ d => uptoBulk d + 1
  | .map entries => uptoBulkEntries entries + 1
  | .held _ => 1
def uptoBulkAll {H : Type} : List (DataW H) → Nat
  | [] => 0
  | d :: r => uptoBulk d + uptoBulkAll r
def uptoBulkEntries {H : Type} : List (Lit × DataW H) → Nat
  | [] => 0
  | x :: r => uptoBulkEntry x + uptoBulkEntries r
def uptoBulkEntry {H : Type} : Lit × DataW H → Nat
  | (.string bytes, d) => bytes.length + uptoBulk d + 1
  | (_, d) => uptoBulk d + 1
 end
def uptoSmall : (H : Type) → List (DataW H) → Bool := fun _ ds => decide (uptoBulkAll ds ≤ 1048576)
def OpenSpec.upto (s : _root_.Go.ChangeSpec) : _root_.Go.OpenSpec := { _root_.Go.OpenSpec.ofChange s with cond := some uptoSmall }

/-- 'septumlaw04.AccessReads', WHERE WHAT IT READS IS OF BULK AT MOST 1048576: true; the input reads as it did. -/
def accessReadsUptoRow : OpenClaim := { program := "ytngbaiiokdladaadoor", sum := "510c171d811991fb0268e85bb7464e128c6be7935208721e15e55b91624c8037", func := "septum/septumlaw04.AccessReads", spec := "accessReads", unfollowed := true, recurses := true, named := ["septum/word.sizes"], apart := false, laid := [("septum/word.sizes", laid_septum_word_sizes)], narrowed := true }
def AccessReadsUptoSaid : Prop := accessReadsUptoRow.holds Tryd.pinned (OpenSpec.upto accessReadsSpec)

/-- 'septumlaw04.AccessParts', WHERE WHAT IT READS IS OF BULK AT MOST 1048576: true; the input reads as it did. -/
def accessPartsUptoRow : OpenClaim := { program := "ytngbaiiokdladaadoor", sum := "510c171d811991fb0268e85bb7464e128c6be7935208721e15e55b91624c8037", func := "septum/septumlaw04.AccessParts", spec := "accessParts", unfollowed := true, recurses := true, named := ["septum/word.sizes"], apart := false, laid := [("septum/word.sizes", laid_septum_word_sizes)], narrowed := true }
def AccessPartsUptoSaid : Prop := accessPartsUptoRow.holds Tryd.pinned (OpenSpec.upto accessPartsSpec)

/-- 'septumlaw04.AccessAsks', WHERE WHAT IT READS IS OF BULK AT MOST 1048576: true; the input reads as it did. -/
def accessAsksUptoRow : OpenClaim := { program := "ytngbaiiokdladaadoor", sum := "510c171d811991fb0268e85bb7464e128c6be7935208721e15e55b91624c8037", func := "septum/septumlaw04.AccessAsks", spec := "accessAsks", unfollowed := true, recurses := true, named := ["septum/word.sizes"], apart := false, laid := [("septum/word.sizes", laid_septum_word_sizes)], narrowed := true }
def AccessAsksUptoSaid : Prop := accessAsksUptoRow.holds Tryd.pinned (OpenSpec.upto accessAsksSpec)

/-- 'septumlaw04.AccessEnds', WHERE WHAT IT READS IS OF BULK AT MOST 1048576: true; the input reads as it did. -/
def accessEndsUptoRow : OpenClaim := { program := "ytngbaiiokdladaadoor", sum := "510c171d811991fb0268e85bb7464e128c6be7935208721e15e55b91624c8037", func := "septum/septumlaw04.AccessEnds", spec := "accessEnds", unfollowed := true, recurses := true, named := ["septum/word.sizes"], apart := false, laid := [("septum/word.sizes", laid_septum_word_sizes)], narrowed := true }
def AccessEndsUptoSaid : Prop := accessEndsUptoRow.holds Tryd.pinned (OpenSpec.upto accessEndsSpec)

/-- 'septumlaw04.AccessBack', WHERE WHAT IT READS IS OF BULK AT MOST 1048576: true; the input reads as it did. -/
def accessBackUptoRow : OpenClaim := { program := "ytngbaiiokdladaadoor", sum := "510c171d811991fb0268e85bb7464e128c6be7935208721e15e55b91624c8037", func := "septum/septumlaw04.AccessBack", spec := "accessBack", unfollowed := true, recurses := true, named := ["septum/word.sizes"], apart := false, laid := [("septum/word.sizes", laid_septum_word_sizes)], narrowed := true }
def AccessBackUptoSaid : Prop := accessBackUptoRow.holds Tryd.pinned (OpenSpec.upto accessBackSpec)

end Rows
end Go.Proofs.YtngbaiiokdladaaDoor
