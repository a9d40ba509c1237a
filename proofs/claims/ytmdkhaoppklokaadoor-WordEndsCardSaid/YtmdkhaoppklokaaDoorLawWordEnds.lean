/- 'WordEnds': for every input the law returns true, and each argument reads behind the call as it read before; the card: the tables tied to the program's text. -/
import Derived.Test.YtmdkhaoppklokaaDoorRows
import Derived.Test.YtmdkhaoppklokaaDoorCards
import Derived.Test.YtmdkhaoppklokaaDoorTie
import Derived.Test.YtmdkhaoppklokaaDoorKlaw01e
import Derived.Test.YtmdkhaoppklokaaDoorEvY
import Derived.Test.YtmdkhaoppklokaaDoorEvSl
import Derived.WalkKit
import Derived.ProofKit
import Derived.OpenShut
import Derived.ShutString
import Derived.ChangeOld
import Derived.Below
import Derived.SizedLaws
import Derived.Lib.SmallJoins
import Derived.Carry
import Derived.LaidMore
import Derived.LaidLaws
import Derived.LaidHandle
import Derived.SevenTiedAt
import Derived.Stop.Joined
set_option linter.all false
namespace Go.Proofs.YtmdkhaoppklokaaDoor.wordEnds
open Go.ChangeShapes Go.WideShapes Go.ChangeAt Go.RowKit
open Go.ChangeMaps (open_string shut_string)
open Go.Joins
theorem own : ownKnob Tryd.prog.godebug = none := by kernel_rfl
theorem laidOut : laidOutB Tryd.prog = true := by kernel_rfl
theorem door_met (os : Os) (args : Array Value) : laidMetH Tryd.prog [("septum/word.sizes", Rows.laid_septum_word_sizes), ("septum/word.digits", Rows.laid_septum_word_digits)] ((World.doorLaid Tryd.prog 19 os).forCall (fun _ _ => 0) ⟨#[], args, []⟩).memory :=
  laidMetH_of_parts3 (fuel := 8) (laidMet_of_run' 8 (by kernel_rfl) (by kernel_rfl)) (by kernel_rfl) (by kernel_rfl)
theorem tab0 {W : World} (h : laidMetH Tryd.prog [("septum/word.sizes", Rows.laid_septum_word_sizes), ("septum/word.digits", Rows.laid_septum_word_digits)] W) : ∀ (x : Nat) (z : Int), ([48, 49, 50, 51, 52, 53, 54, 55, 56, 57, 97, 98, 99, 100, 101, 102] : List Int)[x]? = some z → W.cell? ⟨0, x, none⟩ = some (.int .u8 z) := by
  have h' : laidMet Tryd.prog [("septum/word.sizes", Rows.laid_septum_word_sizes), ("septum/word.digits", Rows.laid_septum_word_digits)] W := h
  exact Ev.table_cells (name := "septum/word.digits") (k := .u8) (zs := [48, 49, 50, 51, 52, 53, 54, 55, 56, 57, 97, 98, 99, 100, 101, 102]) (Go.Lib.laidMet.reads h' (by simp [Rows.laid_septum_word_sizes, Rows.laid_septum_word_digits])) (by kernel_rfl) (by kernel_rfl) Tryd.underlying48 Tryd.underlying5 (by kernel_rfl) rfl
theorem tab1 {W : World} (h : laidMetH Tryd.prog [("septum/word.sizes", Rows.laid_septum_word_sizes), ("septum/word.digits", Rows.laid_septum_word_digits)] W) : ∀ (x : Nat) (z : Int), ([1, 2, 4] : List Int)[x]? = some z → W.cell? ⟨1, x, none⟩ = some (.int .i64 z) := by
  have h' : laidMet Tryd.prog [("septum/word.sizes", Rows.laid_septum_word_sizes), ("septum/word.digits", Rows.laid_septum_word_digits)] W := h
  exact Ev.table_cells (name := "septum/word.sizes") (k := .i64) (zs := [1, 2, 4]) (Go.Lib.laidMet.reads h' (by simp [Rows.laid_septum_word_sizes, Rows.laid_septum_word_digits])) (by kernel_rfl) (by kernel_rfl) Tryd.underlying87 Tryd.underlying3 (by kernel_rfl) rfl
set_option maxRecDepth 100000 in
theorem lifted (os : Os) (started : os.Started) (H : Type) (enc : TypeId × Value → H) :
    ReturnsInHanded {} Tryd.checked os 8 .any (fun w args => (Rows.wordEndsSpec.pre enc Tryd.prog Tryd.f8 [] false w args ∧ laidMetH Tryd.prog [("septum/word.sizes", Rows.laid_septum_word_sizes), ("septum/word.digits", Rows.laid_septum_word_digits)] w) ∧ sizedMet enc Tryd.prog Tryd.f8 (OpenSpec.ofChange Rows.wordEndsSpec) false w args)
      (Rows.wordEndsSpec.post enc Tryd.prog Tryd.f8 false true false false) := by
  refine returnsInHanded_of_change_and (C := Tryd.checked) (X := fun w _ => laidMetH Tryd.prog [("septum/word.sizes", Rows.laid_septum_word_sizes), ("septum/word.digits", Rows.laid_septum_word_digits)] w) (fun _ _ _ hh h => h.of_heap hh) own started (by kernel_rfl) Tryd.func8
    (ChangeSpec.witness_shaped (enc := enc) (C := Tryd.checked) (os := os) (X := fun w _ => laidMetH Tryd.prog [("septum/word.sizes", Rows.laid_septum_word_sizes), ("septum/word.digits", Rows.laid_septum_word_digits)] w) false (World.doorLaid Tryd.prog 19 os) #[] 8 rfl (World.shaped_of_RefB (by kernel_rfl) (by kernel_rfl)) (by kernel_rfl) (by kernel_rfl) (by kernel_rfl) (door_met os _)) ?_
  intro W base args ds gs before hval0 hW _ _ hL _
  have hval : ∀ (j : Nat) t v, Tryd.f8.params[j]? = some t → args[j]? = some v → Value.okWide Tryd.prog W .any base t v := hval0
  have hW' := hW
  obtain ⟨p, q, hA0, hV, rfl, hfz, hnd⟩ := hW
  have hA : DataW.TrodAll enc Tryd.prog W 0 (fun _ => true) true Tryd.f8.params.toList args.toList ds p := hA0
  rw [Tryd.params8] at hA hval
  obtain ⟨rfl, rfl, rfl⟩ := trodAll_none hA
  obtain ⟨rfl, rfl⟩ := trodVars_none hV
  have hbnd : ∀ i, i < 2 → i < W.heap.size := by
    intro i hi
    have b0 : 0 < W.heap.size := by
      have := tab0 hL 0 _ rfl
      unfold World.cell? at this
      split at this
      · rename_i hh; exact (Array.getElem?_eq_some_iff.1 hh).1
      · cases this
    have b1 : 1 < W.heap.size := by
      have := tab1 hL 0 _ rfl
      unfold World.cell? at this
      split at this
      · rename_i hh; exact (Array.getElem?_eq_some_iff.1 hh).1
      · cases this
    omega
  have hbn2 : ∀ i, i < 2 → ((⟨fun i => i, fun _ => 0⟩) : Ev.J).b i < W.heap.size := by
    intro i hi
    exact hbnd i hi
  have hinv : Ev.Inv 2 ⟨W, [Ev.GD, Ev.GS], ⟨fun i => i, fun _ => 0⟩⟩ ⟨fun i => i, fun _ => 0⟩ [] ([].map Ev.SV.v) [] [Ev.GD, Ev.GS] false false W := by
    refine Ev.inv_ros ?_ hbn2 ?_ rfl (by simp) (fun i hi => ⟨by (try simp only []); (try rfl), by (try simp only []); (try rfl)⟩)
    · intro b hb
      simp only [List.mem_cons, List.not_mem_nil, or_false] at hb
      rcases hb with rfl | rfl
      · exact ⟨_, rfl, rfl⟩
      · exact ⟨_, rfl, rfl⟩
    · intro i cs hi x v hx
      match i, hi with
      | 0, hi =>
        simp only [List.getElem?_cons_zero, List.getElem?_cons_succ, Option.some.injEq] at hi
        have hi' : cs = ([48, 49, 50, 51, 52, 53, 54, 55, 56, 57, 97, 98, 99, 100, 101, 102] : List Int).map (Ev.V.int .u8) := by injection hi with hi; exact hi.symm
        subst hi'
        rw [List.getElem?_map] at hx
        obtain ⟨z, hz, rfl⟩ := Option.map_eq_some_iff.1 hx
        have := tab0 hL x z hz
        simpa [Ev.J.at, Ev.conc] using this
      | 1, hi =>
        simp only [List.getElem?_cons_zero, List.getElem?_cons_succ, Option.some.injEq] at hi
        have hi' : cs = ([1, 2, 4] : List Int).map (Ev.V.int .i64) := by injection hi with hi; exact hi.symm
        subst hi'
        rw [List.getElem?_map] at hx
        obtain ⟨z, hz, rfl⟩ := Option.map_eq_some_iff.1 hx
        have := tab1 hL x z hz
        simpa [Ev.J.at, Ev.conc] using this
      | i + 2, hi => simp at hi
  have hc := Ev.law_calls Ev.k8 hinv (by intro b hb; simp only [List.mem_cons, List.not_mem_nil, or_false] at hb; rcases hb with rfl | rfl <;> rfl) (by exact ⟨⟨[], rfl⟩, fun _ _ _ => rfl⟩)
  refine hc.mono fun e W' ⟨he, bel⟩ => ?_
  subst he
  exact ⟨_, rfl, _, _, _, [], _, [], hW', trodAll_mk1 (shut_bool Tryd.underlying4 _), trodAll_mk0, rfl, bel.frame _, fun h => by cases h⟩
theorem over : Rows.wordEndsRow.holds Tryd.pinned (OpenSpec.ofChange Rows.wordEndsSpec) :=
  OpenClaim.holds_of_wide 8 Tryd.f8 rfl rfl rfl rfl rfl rfl rfl ⟨rfl, rfl, rfl, rfl, rfl⟩ rfl rfl rfl rfl rfl (by kernel_rfl) Tryd.func8 (by kernel_rfl)
    (of_decide_eq_true (by kernel_rfl)) (by unfold Func.isWrapper; first | (rw [if_pos (by decide +kernel)]; kernel_rfl) | (rw [if_neg (by decide +kernel)]; exact ⟨rfl, rfl⟩))
    (fun os started H enc _ => lifted os started H enc)
theorem card_holds : Claim7.holds Tryd.pinned (.plain (OpenSpec.ofChange Rows.wordEndsSpec)) Rows.wordEndsCard :=
  Claim7.holds_tied_plain_at .later [] [.widerDeep, .widerDeep] true (true, "6cef76eda044bd44d8be78540063d477d37fbcba4877643ff8e32dd1b2fe8a0d") false
    over (fun _ h => by cases h) (by kernel_rfl) (fun _ h => by cases h) wordEnds_row_tie rfl ⟨rfl, rfl⟩ (by kernel_rfl) rfl
    (fun f fn hf hfn => by
      obtain rfl : f = 8 := Option.some.inj ((show Tryd.prog.funcNamed "septum/septumlaw01.WordEnds" = some 8 by kernel_rfl).symm.trans hf) |>.symm
      obtain rfl : fn = Tryd.f8 := (Option.some.inj (Tryd.func8.symm.trans hfn)).symm
      exact ⟨by kernel_rfl, fun j t ht => by
        rw [Tryd.params8] at ht
        simp at ht⟩)
    (by kernel_rfl)
#print axioms card_holds
end Go.Proofs.YtmdkhaoppklokaaDoor.wordEnds
namespace Go.Proofs.YtmdkhaoppklokaaDoor
theorem wordEnds_holds : Rows.WordEndsCardSaid := wordEnds.card_holds
end Go.Proofs.YtmdkhaoppklokaaDoor
