/- 'WordParts': for every input the law returns true, and each argument reads behind the call as it read before; the card: the tables tied to the program's text. -/
import Derived.Test.YtmdkhaoppklokaaDoorRows
import Derived.Test.YtmdkhaoppklokaaDoorCards
import Derived.Test.YtmdkhaoppklokaaDoorTie
import Derived.Test.YtmdkhaoppklokaaDoorKlaw01p
import Derived.Test.YtmdkhaoppklokaaDoorKslB
import Derived.Test.YtmdkhaoppklokaaDoorEvY
import Derived.Test.YtmdkhaoppklokaaDoorEvSl
import Derived.WalkKit
import Derived.ProofKit
import Derived.OpenShut
import Derived.ShutString
import Derived.ChangeOld
import Derived.Below
import Derived.SizedLaws
import Derived.Lib.SmallJoins
import Derived.Carry
import Derived.LaidMore
import Derived.LaidLaws
import Derived.LaidHandle
import Derived.SevenTiedAt
import Derived.Stop.Joined
set_option linter.all false
namespace Go.Proofs.YtmdkhaoppklokaaDoor.wordParts
open Go.ChangeShapes Go.WideShapes Go.ChangeAt Go.RowKit
open Go.ChangeMaps (open_string shut_string)
open Go.Joins
theorem own : ownKnob Tryd.prog.godebug = none := by kernel_rfl
theorem laidOut : laidOutB Tryd.prog = true := by kernel_rfl
theorem door_met (os : Os) (args : Array Value) : laidMetH Tryd.prog [("septum/word.sizes", Rows.laid_septum_word_sizes), ("septum/word.digits", Rows.laid_septum_word_digits)] ((World.doorLaid Tryd.prog 19 os).forCall (fun _ _ => 0) ⟨#[], args, []⟩).memory :=
  laidMetH_of_parts3 (fuel := 8) (laidMet_of_run' 8 (by kernel_rfl) (by kernel_rfl)) (by kernel_rfl) (by kernel_rfl)
theorem tab0 {W : World} (h : laidMetH Tryd.prog [("septum/word.sizes", Rows.laid_septum_word_sizes), ("septum/word.digits", Rows.laid_septum_word_digits)] W) : ∀ (x : Nat) (z : Int), ([48, 49, 50, 51, 52, 53, 54, 55, 56, 57, 97, 98, 99, 100, 101, 102] : List Int)[x]? = some z → W.cell? ⟨0, x, none⟩ = some (.int .u8 z) := by
  have h' : laidMet Tryd.prog [("septum/word.sizes", Rows.laid_septum_word_sizes), ("septum/word.digits", Rows.laid_septum_word_digits)] W := h
  exact Ev.table_cells (name := "septum/word.digits") (k := .u8) (zs := [48, 49, 50, 51, 52, 53, 54, 55, 56, 57, 97, 98, 99, 100, 101, 102]) (Go.Lib.laidMet.reads h' (by simp [Rows.laid_septum_word_sizes, Rows.laid_septum_word_digits])) (by kernel_rfl) (by kernel_rfl) Tryd.underlying48 Tryd.underlying5 (by kernel_rfl) rfl
theorem tab1 {W : World} (h : laidMetH Tryd.prog [("septum/word.sizes", Rows.laid_septum_word_sizes), ("septum/word.digits", Rows.laid_septum_word_digits)] W) : ∀ (x : Nat) (z : Int), ([1, 2, 4] : List Int)[x]? = some z → W.cell? ⟨1, x, none⟩ = some (.int .i64 z) := by
  have h' : laidMet Tryd.prog [("septum/word.sizes", Rows.laid_septum_word_sizes), ("septum/word.digits", Rows.laid_septum_word_digits)] W := h
  exact Ev.table_cells (name := "septum/word.sizes") (k := .i64) (zs := [1, 2, 4]) (Go.Lib.laidMet.reads h' (by simp [Rows.laid_septum_word_sizes, Rows.laid_septum_word_digits])) (by kernel_rfl) (by kernel_rfl) Tryd.underlying87 Tryd.underlying3 (by kernel_rfl) rfl
set_option maxRecDepth 100000 in
theorem lifted (os : Os) (started : os.Started) (H : Type) (enc : TypeId × Value → H) :
    ReturnsInHanded {} Tryd.checked os 4 .any (fun w args => (Rows.wordPartsSpec.pre enc Tryd.prog Tryd.f4 [] false w args ∧ laidMetH Tryd.prog [("septum/word.sizes", Rows.laid_septum_word_sizes), ("septum/word.digits", Rows.laid_septum_word_digits)] w) ∧ sizedMet enc Tryd.prog Tryd.f4 (OpenSpec.ofChange Rows.wordPartsSpec) false w args)
      (Rows.wordPartsSpec.post enc Tryd.prog Tryd.f4 false true false false) := by
  refine returnsInHanded_of_change_and (C := Tryd.checked) (X := fun w _ => laidMetH Tryd.prog [("septum/word.sizes", Rows.laid_septum_word_sizes), ("septum/word.digits", Rows.laid_septum_word_digits)] w) (fun _ _ _ hh h => h.of_heap hh) own started (by kernel_rfl) Tryd.func4
    (ChangeSpec.witness_shaped (enc := enc) (C := Tryd.checked) (os := os) (X := fun w _ => laidMetH Tryd.prog [("septum/word.sizes", Rows.laid_septum_word_sizes), ("septum/word.digits", Rows.laid_septum_word_digits)] w) false (World.doorLaid Tryd.prog 19 os) #[.int .u32 0, .int .i64 0, .slice none 0 0] 8 rfl (World.shaped_of_RefB (by kernel_rfl) (by kernel_rfl)) (by kernel_rfl) (by kernel_rfl) (by kernel_rfl) (door_met os _)) ?_
  intro W base args ds gs before hval0 hW _ _ hL _
  have hval : ∀ (j : Nat) t v, Tryd.f4.params[j]? = some t → args[j]? = some v → Value.okWide Tryd.prog W .any base t v := hval0
  have hW' := hW
  obtain ⟨p, q, hA0, hV, rfl, hfz, hnd⟩ := hW
  have hA : DataW.TrodAll enc Tryd.prog W 0 (fun _ => true) true Tryd.f4.params.toList args.toList ds p := hA0
  rw [Tryd.params4] at hA hval
  obtain ⟨v0, vs0, d0, ds0, p0, q0, hargs, rfl, rfl, h0, r0⟩ := trodAll_cons hA
  obtain ⟨v1, vs1, d1, ds1, p1, q1, rfl, rfl, rfl, h1, r1⟩ := trodAll_cons r0
  obtain ⟨v2, vs2, d2, ds2, p2, q2, rfl, rfl, rfl, h2, r2⟩ := trodAll_cons r1
  obtain ⟨rfl, rfl, rfl⟩ := trodAll_nil r2
  obtain rfl : args = #[v0, v1, v2] := by cases args; simp_all
  obtain ⟨rfl, rfl⟩ := trodVars_none hV
  have hbnd0 : 0 < W.heap.size := by
    have := tab0 hL 0 _ rfl
    unfold World.cell? at this
    split at this
    · rename_i hh; have := (Array.getElem?_eq_some_iff.1 hh).1; omega
    · cases this
  have k0 := h0
  have lt0 : ∀ x ∈ p0, x.block < W.heap.size := by obtain ⟨m, hm⟩ := k0; exact DataW.trod_lt m _ _ _ hm
  obtain ⟨z0, rfl, -, -, w0⟩ := open_int (k := .u32) Tryd.underlying22 (hval 0 22 v0 rfl rfl) h0
  have u0 := Ev.wf_u32 w0
  have k1 := h1
  have lt1 : ∀ x ∈ p1, x.block < W.heap.size := by obtain ⟨m, hm⟩ := k1; exact DataW.trod_lt m _ _ _ hm
  obtain ⟨z1, rfl, -, -, w1⟩ := open_int (k := .i64) Tryd.underlying3 (hval 1 3 v1 rfl rfl) h1
  have u1 := Ev.wf_i64 w1
  have k2 := h2
  have lt2 : ∀ x ∈ p2, x.block < W.heap.size := by obtain ⟨m, hm⟩ := k2; exact DataW.trod_lt m _ _ _ hm
  have sz2 : 0 < W.heap.size := hbnd0
  obtain ⟨q2_, b2_, o2_, cp2, ds2, ok2, lc2, mx2, hb2, hcell2, hq2, hv2⟩ := Ev.slF_arg (enc := Ev.encB) (ok := Ev.okB) (ks := [some .u8]) 2 Ev.encB_len rfl Ev.encB_typ sz2 (Ev.open_slF (d := 8) Tryd.underlying27 (by kernel_rfl) (by kernel_rfl) (hval 2 27 v2 rfl rfl) h2)
  have hbnd : ∀ i, i < 2 → i < W.heap.size := by
    intro i hi
    have b0 : 0 < W.heap.size := by
      have := tab0 hL 0 _ rfl
      unfold World.cell? at this
      split at this
      · rename_i hh; exact (Array.getElem?_eq_some_iff.1 hh).1
      · cases this
    have b1 : 1 < W.heap.size := by
      have := tab1 hL 0 _ rfl
      unfold World.cell? at this
      split at this
      · rename_i hh; exact (Array.getElem?_eq_some_iff.1 hh).1
      · cases this
    omega
  have e2 := hv2 ⟨fun i => if i = 2 then b2_ else i, fun i => if i = 2 then o2_ else 0⟩ (by simp) (by simp)
  subst e2
  have hbn2 : ∀ i, i < 3 → ((⟨fun i => if i = 2 then b2_ else i, fun i => if i = 2 then o2_ else 0⟩) : Ev.J).b i < W.heap.size := by
    intro i hi
    have hcs : i = 2 ∨ i < 2 := by omega
    rcases hcs with rfl | hlt
    · simpa using hb2
    · have := hbnd i hlt
      simp only []
      rw [if_neg (show ¬ i = 2 by omega)]; exact this
  have hinv : Ev.Inv 2 ⟨W, [Ev.GD, Ev.GS, .ro (ds2.flatMap Ev.encB)], ⟨fun i => if i = 2 then b2_ else i, fun i => if i = 2 then o2_ else 0⟩⟩ ⟨fun i => if i = 2 then b2_ else i, fun i => if i = 2 then o2_ else 0⟩ [] ([.int .u32 z0, .int .i64 z1, .sl q2_ ds2.length cp2].map Ev.SV.v) [] [Ev.GD, Ev.GS, .ro (ds2.flatMap Ev.encB)] false false W := by
    refine Ev.inv_ros ?_ hbn2 ?_ (by rcases hq2 with ⟨rfl, _⟩ | rfl <;> rfl) (by simp) (fun i hi => ⟨by (try simp only []); (try rw [if_neg (show ¬ i = 2 by omega)]); (try rfl), by (try simp only []); (try rw [if_neg (show ¬ i = 2 by omega)]); (try rfl)⟩)
    · intro b hb
      simp only [List.mem_cons, List.not_mem_nil, or_false] at hb
      rcases hb with rfl | rfl | rfl
      · exact ⟨_, rfl, rfl⟩
      · exact ⟨_, rfl, rfl⟩
      · exact ⟨_, rfl, Ev.ltL_flat Ev.encB_lt1 _ _⟩
    · intro i cs hi x v hx
      match i, hi with
      | 0, hi =>
        simp only [List.getElem?_cons_zero, List.getElem?_cons_succ, Option.some.injEq] at hi
        have hi' : cs = ([48, 49, 50, 51, 52, 53, 54, 55, 56, 57, 97, 98, 99, 100, 101, 102] : List Int).map (Ev.V.int .u8) := by injection hi with hi; exact hi.symm
        subst hi'
        rw [List.getElem?_map] at hx
        obtain ⟨z, hz, rfl⟩ := Option.map_eq_some_iff.1 hx
        have := tab0 hL x z hz
        simpa [Ev.J.at, Ev.conc] using this
      | 1, hi =>
        simp only [List.getElem?_cons_zero, List.getElem?_cons_succ, Option.some.injEq] at hi
        have hi' : cs = ([1, 2, 4] : List Int).map (Ev.V.int .i64) := by injection hi with hi; exact hi.symm
        subst hi'
        rw [List.getElem?_map] at hx
        obtain ⟨z, hz, rfl⟩ := Option.map_eq_some_iff.1 hx
        have := tab1 hL x z hz
        simpa [Ev.J.at, Ev.conc] using this
      | 2, hi =>
        simp only [List.getElem?_cons_zero, List.getElem?_cons_succ, Option.some.injEq] at hi
        have hi' : cs = ds2.flatMap Ev.encB := by injection hi with hi; exact hi.symm
        subst hi'
        have := hcell2 x v hx ⟨fun i => if i = 2 then b2_ else i, fun i => if i = 2 then o2_ else 0⟩
        simpa [Ev.J.at] using this
      | i + 3, hi => simp at hi
  have ls2 : ∀ p : Option (Nat × Nat), p = q2_ → ds2 = [] ∨ ∃ b o, p = some (b, o) ∧ Ev.rd [Ev.GD, Ev.GS, .ro (ds2.flatMap Ev.encB)] b o (ds2.length * 1) = some (ds2.flatMap Ev.encB) := fun p hp => hp ▸ hq2.imp (fun h => h.2) (fun h => ⟨2, 0, h, Ev.rd_all rfl (Ev.flat_len Ev.encB_len _)⟩)
  have hc := Ev.law_calls Ev.k4 hinv (by intro b hb; simp only [List.mem_cons, List.not_mem_nil, or_false] at hb; rcases hb with rfl | rfl | rfl <;> rfl) (by exact ⟨⟨u0, u1⟩, ⟨[_], rfl⟩, ds2, rfl, ok2, Ev.RdB_of hq2 (Ev.rd_all rfl (Ev.flat_len Ev.encB_len _)), fun _ _ _ => rfl⟩)
  refine hc.mono fun e W' ⟨he, bel⟩ => ?_
  subst he
  exact ⟨_, rfl, _, _, _, [], _, [], hW', trodAll_mk1 (shut_bool Tryd.underlying4 _), (trodAll_cons_mk (Below.trod laidOut (by kernel_rfl) (of_decide_eq_true (by kernel_rfl)) k0 bel lt0) (trodAll_cons_mk (Below.trod laidOut (by kernel_rfl) (of_decide_eq_true (by kernel_rfl)) k1 bel lt1) (trodAll_cons_mk (Below.trod laidOut (by kernel_rfl) (of_decide_eq_true (by kernel_rfl)) k2 bel lt2) trodAll_mk0))), rfl, bel.frame _, fun h => by cases h⟩
theorem over : Rows.wordPartsRow.holds Tryd.pinned (OpenSpec.ofChange Rows.wordPartsSpec) :=
  OpenClaim.holds_of_wide 4 Tryd.f4 rfl rfl rfl rfl rfl rfl rfl ⟨rfl, rfl, rfl, rfl, rfl⟩ rfl rfl rfl rfl rfl (by kernel_rfl) Tryd.func4 (by kernel_rfl)
    (of_decide_eq_true (by kernel_rfl)) (by unfold Func.isWrapper; first | (rw [if_pos (by decide +kernel)]; kernel_rfl) | (rw [if_neg (by decide +kernel)]; exact ⟨rfl, rfl⟩))
    (fun os started H enc _ => lifted os started H enc)
theorem card_holds : Claim7.holds Tryd.pinned (.plain (OpenSpec.ofChange Rows.wordPartsSpec)) Rows.wordPartsCard :=
  Claim7.holds_tied_plain_at .later [] [.widerDeep, .widerDeep] true (true, "6cef76eda044bd44d8be78540063d477d37fbcba4877643ff8e32dd1b2fe8a0d") false
    over (fun _ h => by cases h) (by kernel_rfl) (fun _ h => by cases h) wordParts_row_tie rfl ⟨rfl, rfl⟩ (by kernel_rfl) rfl
    (fun f fn hf hfn => by
      obtain rfl : f = 4 := Option.some.inj ((show Tryd.prog.funcNamed "septum/septumlaw01.WordParts" = some 4 by kernel_rfl).symm.trans hf) |>.symm
      obtain rfl : fn = Tryd.f4 := (Option.some.inj (Tryd.func4.symm.trans hfn)).symm
      exact ⟨by kernel_rfl, fun j t ht => by
        rw [Tryd.params4] at ht
        have hm : t ∈ [22, 3, 27] := by simpa using Array.mem_of_getElem? ht
        have hall : ([22, 3, 27].all fun u => !Tryd.prog.wantsStandIn u) = true := by kernel_rfl
        exact (show Tryd.prog.wantsStandIn t = false by simpa using List.all_eq_true.1 hall t hm)⟩)
    (by kernel_rfl)
#print axioms card_holds
end Go.Proofs.YtmdkhaoppklokaaDoor.wordParts
namespace Go.Proofs.YtmdkhaoppklokaaDoor
theorem wordParts_holds : Rows.WordPartsCardSaid := wordParts.card_holds
end Go.Proofs.YtmdkhaoppklokaaDoor
