/- 'WindowOne': for every input the law returns true, and each argument reads behind the call as it read before; the card: the tables tied to the program's text. -/
import Derived.Test.YtjigfpogfppidaaDoorRows
import Derived.Test.YtjigfpogfppidaaDoorCards
import Derived.Test.YtjigfpogfppidaaDoorTie
import Derived.Test.YtjigfpogfppidaaDoorKone8
import Derived.Test.YtjigfpogfppidaaDoorEvY
import Derived.Test.YtjigfpogfppidaaDoorEvSl
import Derived.WalkKit
import Derived.ProofKit
import Derived.OpenShut
import Derived.ShutString
import Derived.ChangeOld
import Derived.Below
import Derived.SizedLaws
import Derived.Lib.SmallJoins
import Derived.Carry
import Derived.LaidMore
import Derived.LaidLaws
import Derived.LaidHandle
import Derived.SevenTiedAt
import Derived.Stop.Joined
set_option linter.all false
namespace Go.Proofs.YtjigfpogfppidaaDoor.windowOne
open Go.ChangeShapes Go.WideShapes Go.ChangeAt Go.RowKit
open Go.ChangeMaps (open_string shut_string)
open Go.Joins
theorem own : ownKnob Tryd.prog.godebug = none := by kernel_rfl
theorem laidOut : laidOutB Tryd.prog = true := by kernel_rfl
theorem door_met (os : Os) (args : Array Value) : laidMetH Tryd.prog [("septum/word.sizes", Rows.laid_septum_word_sizes)] ((World.doorLaid Tryd.prog 14 os).forCall (fun _ _ => 0) ⟨#[], args, []⟩).memory :=
  laidMetH_of_parts3 (fuel := 8) (laidMet_of_run' 8 (by kernel_rfl) (by kernel_rfl)) (by kernel_rfl) (by kernel_rfl)
theorem tab0 {W : World} (h : laidMetH Tryd.prog [("septum/word.sizes", Rows.laid_septum_word_sizes)] W) : ∀ (x : Nat) (z : Int), ([1, 2, 4] : List Int)[x]? = some z → W.cell? ⟨0, x, none⟩ = some (.int .i64 z) := by
  have h' : laidMet Tryd.prog [("septum/word.sizes", Rows.laid_septum_word_sizes)] W := h
  exact Ev.table_cells (name := "septum/word.sizes") (k := .i64) (zs := [1, 2, 4]) (Go.Lib.laidMet.reads h' (by simp [Rows.laid_septum_word_sizes])) (by kernel_rfl) (by kernel_rfl) Tryd.underlying96 Tryd.underlying3 (by kernel_rfl) rfl
set_option maxRecDepth 100000 in
theorem lifted (os : Os) (started : os.Started) (H : Type) (enc : TypeId × Value → H) :
    ReturnsInHanded {} Tryd.checked os 5 .any (fun w args => (Rows.windowOneSpec.pre enc Tryd.prog Tryd.f5 [] false w args ∧ laidMetH Tryd.prog [("septum/word.sizes", Rows.laid_septum_word_sizes)] w) ∧ sizedMet enc Tryd.prog Tryd.f5 (OpenSpec.ofChange Rows.windowOneSpec) false w args)
      (Rows.windowOneSpec.post enc Tryd.prog Tryd.f5 false true false false) := by
  refine returnsInHanded_of_change_and (C := Tryd.checked) (X := fun w _ => laidMetH Tryd.prog [("septum/word.sizes", Rows.laid_septum_word_sizes)] w) (fun _ _ _ hh h => h.of_heap hh) own started (by kernel_rfl) Tryd.func5
    (ChangeSpec.witness_shaped (enc := enc) (C := Tryd.checked) (os := os) (X := fun w _ => laidMetH Tryd.prog [("septum/word.sizes", Rows.laid_septum_word_sizes)] w) false (World.doorLaid Tryd.prog 14 os) #[.slice none 0 0, .agg #[.int .i64 0, .bool false, .int .u32 0, .int .i64 0, .int .u32 0], .int .i64 0, .int .i64 0, .int .i64 0] 8 rfl (World.shaped_of_RefB (by kernel_rfl) (by kernel_rfl)) (by kernel_rfl) (by kernel_rfl) (by kernel_rfl) (door_met os _)) ?_
  intro W base args ds gs before hval0 hW _ _ hL _
  have hval : ∀ (j : Nat) t v, Tryd.f5.params[j]? = some t → args[j]? = some v → Value.okWide Tryd.prog W .any base t v := hval0
  have hW' := hW
  obtain ⟨p, q, hA0, hV, rfl, hfz, hnd⟩ := hW
  have hA : DataW.TrodAll enc Tryd.prog W 0 (fun _ => true) true Tryd.f5.params.toList args.toList ds p := hA0
  rw [Tryd.params5] at hA hval
  obtain ⟨v0, vs0, d0, ds0, p0, q0, hargs, rfl, rfl, h0, r0⟩ := trodAll_cons hA
  obtain ⟨v1, vs1, d1, ds1, p1, q1, rfl, rfl, rfl, h1, r1⟩ := trodAll_cons r0
  obtain ⟨v2, vs2, d2, ds2, p2, q2, rfl, rfl, rfl, h2, r2⟩ := trodAll_cons r1
  obtain ⟨v3, vs3, d3, ds3, p3, q3, rfl, rfl, rfl, h3, r3⟩ := trodAll_cons r2
  obtain ⟨v4, vs4, d4, ds4, p4, q4, rfl, rfl, rfl, h4, r4⟩ := trodAll_cons r3
  obtain ⟨rfl, rfl, rfl⟩ := trodAll_nil r4
  obtain rfl : args = #[v0, v1, v2, v3, v4] := by cases args; simp_all
  obtain ⟨rfl, rfl⟩ := trodVars_none hV
  have hbnd0 : 0 < W.heap.size := by
    have := tab0 hL 0 _ rfl
    unfold World.cell? at this
    split at this
    · rename_i hh; have := (Array.getElem?_eq_some_iff.1 hh).1; omega
    · cases this
  have k0 := h0
  have lt0 : ∀ x ∈ p0, x.block < W.heap.size := by obtain ⟨m, hm⟩ := k0; exact DataW.trod_lt m _ _ _ hm
  have sz0 : 0 < W.heap.size := hbnd0
  obtain ⟨q0_, b0_, o0_, cp0, ds0, ok0, lc0, mx0, hb0, hcell0, hq0, hv0⟩ := Ev.slF_arg (enc := Ev.encD) (ok := Ev.okD) (ks := [some .i64, some .u32, some .i64, some .i64, some .i64]) 1 Ev.encD_len rfl Ev.encD_typ sz0 (Ev.open_slF (d := 8) Tryd.underlying22 (by kernel_rfl) (by kernel_rfl) (hval 0 22 v0 rfl rfl) h0)
  have k1 := h1
  have lt1 : ∀ x ∈ p1, x.block < W.heap.size := by obtain ⟨m, hm⟩ := k1; exact DataW.trod_lt m _ _ _ hm
  obtain ⟨l1, rfl, cs1⟩ := Ev.open_flat (ts := [3, 4, 24, 3, 24]) (ks := [some .i64, none, some .u32, some .i64, some .u32]) Tryd.underlying28 (by kernel_rfl) (by kernel_rfl) (by kernel_rfl) (hval 1 28 v1 rfl rfl)
  obtain ⟨z1_0, _, rfl, w1_0, z1_1, _, rfl, z1_2, _, rfl, w1_2, z1_3, _, rfl, w1_3, z1_4, _, rfl, w1_4, rfl⟩ := cs1
  have u1_0 := Ev.has_i64 w1_0
  have u1_2 := Ev.has_u32 w1_2
  have u1_3 := Ev.has_i64 w1_3
  have u1_4 := Ev.has_u32 w1_4
  have k2 := h2
  have lt2 : ∀ x ∈ p2, x.block < W.heap.size := by obtain ⟨m, hm⟩ := k2; exact DataW.trod_lt m _ _ _ hm
  obtain ⟨z2, rfl, -, -, w2⟩ := open_int (k := .i64) Tryd.underlying3 (hval 2 3 v2 rfl rfl) h2
  have u2 := Ev.wf_i64 w2
  have k3 := h3
  have lt3 : ∀ x ∈ p3, x.block < W.heap.size := by obtain ⟨m, hm⟩ := k3; exact DataW.trod_lt m _ _ _ hm
  obtain ⟨z3, rfl, -, -, w3⟩ := open_int (k := .i64) Tryd.underlying3 (hval 3 3 v3 rfl rfl) h3
  have u3 := Ev.wf_i64 w3
  have k4 := h4
  have lt4 : ∀ x ∈ p4, x.block < W.heap.size := by obtain ⟨m, hm⟩ := k4; exact DataW.trod_lt m _ _ _ hm
  obtain ⟨z4, rfl, -, -, w4⟩ := open_int (k := .i64) Tryd.underlying3 (hval 4 3 v4 rfl rfl) h4
  have u4 := Ev.wf_i64 w4
  have hbnd : ∀ i, i < 1 → i < W.heap.size := by
    intro i hi
    have b0 : 0 < W.heap.size := by
      have := tab0 hL 0 _ rfl
      unfold World.cell? at this
      split at this
      · rename_i hh; exact (Array.getElem?_eq_some_iff.1 hh).1
      · cases this
    omega
  have e0 := hv0 ⟨fun i => if i = 1 then b0_ else i, fun i => if i = 1 then o0_ else 0⟩ (by simp) (by simp)
  subst e0
  have hbn2 : ∀ i, i < 2 → ((⟨fun i => if i = 1 then b0_ else i, fun i => if i = 1 then o0_ else 0⟩) : Ev.J).b i < W.heap.size := by
    intro i hi
    have hcs : i = 1 ∨ i < 1 := by omega
    rcases hcs with rfl | hlt
    · simpa using hb0
    · have := hbnd i hlt
      simp only []
      rw [if_neg (show ¬ i = 1 by omega)]; exact this
  have hinv : Ev.Inv 1 ⟨W, [Ev.GS, .ro (ds0.flatMap Ev.encD)], ⟨fun i => if i = 1 then b0_ else i, fun i => if i = 1 then o0_ else 0⟩⟩ ⟨fun i => if i = 1 then b0_ else i, fun i => if i = 1 then o0_ else 0⟩ [] ([.sl q0_ ds0.length cp0, .agg [.int .i64 z1_0, .bool z1_1, .int .u32 z1_2, .int .i64 z1_3, .int .u32 z1_4], .int .i64 z2, .int .i64 z3, .int .i64 z4].map Ev.SV.v) [] [Ev.GS, .ro (ds0.flatMap Ev.encD)] false false W := by
    refine Ev.inv_ros ?_ hbn2 ?_ (by rcases hq0 with ⟨rfl, _⟩ | rfl <;> rfl) (by simp) (fun i hi => ⟨by (try simp only []); (try rw [if_neg (show ¬ i = 1 by omega)]); (try rfl), by (try simp only []); (try rw [if_neg (show ¬ i = 1 by omega)]); (try rfl)⟩)
    · intro b hb
      simp only [List.mem_cons, List.not_mem_nil, or_false] at hb
      rcases hb with rfl | rfl
      · exact ⟨_, rfl, rfl⟩
      · exact ⟨_, rfl, Ev.ltL_flat Ev.encD_lt _ _⟩
    · intro i cs hi x v hx
      match i, hi with
      | 0, hi =>
        simp only [List.getElem?_cons_zero, List.getElem?_cons_succ, Option.some.injEq] at hi
        have hi' : cs = ([1, 2, 4] : List Int).map (Ev.V.int .i64) := by injection hi with hi; exact hi.symm
        subst hi'
        rw [List.getElem?_map] at hx
        obtain ⟨z, hz, rfl⟩ := Option.map_eq_some_iff.1 hx
        have := tab0 hL x z hz
        simpa [Ev.J.at, Ev.conc] using this
      | 1, hi =>
        simp only [List.getElem?_cons_zero, List.getElem?_cons_succ, Option.some.injEq] at hi
        have hi' : cs = ds0.flatMap Ev.encD := by injection hi with hi; exact hi.symm
        subst hi'
        have := hcell0 x v hx ⟨fun i => if i = 1 then b0_ else i, fun i => if i = 1 then o0_ else 0⟩
        simpa [Ev.J.at] using this
      | i + 2, hi => simp at hi
  have ls0 : ∀ p : Option (Nat × Nat), p = q0_ → ds0 = [] ∨ ∃ b o, p = some (b, o) ∧ Ev.rd [Ev.GS, .ro (ds0.flatMap Ev.encD)] b o (ds0.length * 5) = some (ds0.flatMap Ev.encD) := fun p hp => hp ▸ hq0.imp (fun h => h.2) (fun h => ⟨1, 0, h, Ev.rd_all rfl (Ev.flat_len Ev.encD_len _)⟩)
  have hc := Ev.law_calls Ev.k5 hinv (by intro b hb; simp only [List.mem_cons, List.not_mem_nil, or_false] at hb; rcases hb with rfl | rfl <;> rfl) (by exact ⟨⟨⟨u1_2, u1_4, u1_3⟩, u2, u3, u4⟩, ⟨[_], rfl⟩, ds0, rfl, lc0, ok0, Ev.RdD_of hq0 (Ev.rd_all rfl (Ev.flat_len Ev.encD_len _)), fun _ _ _ => rfl⟩)
  refine hc.mono fun e W' ⟨he, bel⟩ => ?_
  subst he
  exact ⟨_, rfl, _, _, _, [], _, [], hW', trodAll_mk1 (shut_bool Tryd.underlying4 _), (trodAll_cons_mk (Below.trod laidOut (by kernel_rfl) (of_decide_eq_true (by kernel_rfl)) k0 bel lt0) (trodAll_cons_mk (Below.trod laidOut (by kernel_rfl) (of_decide_eq_true (by kernel_rfl)) k1 bel lt1) (trodAll_cons_mk (Below.trod laidOut (by kernel_rfl) (of_decide_eq_true (by kernel_rfl)) k2 bel lt2) (trodAll_cons_mk (Below.trod laidOut (by kernel_rfl) (of_decide_eq_true (by kernel_rfl)) k3 bel lt3) (trodAll_cons_mk (Below.trod laidOut (by kernel_rfl) (of_decide_eq_true (by kernel_rfl)) k4 bel lt4) trodAll_mk0))))), rfl, bel.frame _, fun h => by cases h⟩
theorem over : Rows.windowOneRow.holds Tryd.pinned (OpenSpec.ofChange Rows.windowOneSpec) :=
  OpenClaim.holds_of_wide 5 Tryd.f5 rfl rfl rfl rfl rfl rfl rfl ⟨rfl, rfl, rfl, rfl, rfl⟩ rfl rfl rfl rfl rfl (by kernel_rfl) Tryd.func5 (by kernel_rfl)
    (of_decide_eq_true (by kernel_rfl)) (by unfold Func.isWrapper; first | (rw [if_pos (by decide +kernel)]; kernel_rfl) | (rw [if_neg (by decide +kernel)]; exact ⟨rfl, rfl⟩))
    (fun os started H enc _ => lifted os started H enc)
theorem card_holds : Claim7.holds Tryd.pinned (.plain (OpenSpec.ofChange Rows.windowOneSpec)) Rows.windowOneCard :=
  Claim7.holds_tied_plain_at .later [] [.widerDeep] true (true, "cef1cefbad671b191349a5aa6bae7a489ddee2e5c57a0e243a0e9476502eaf1c") false
    over (fun _ h => by cases h) (by kernel_rfl) (fun _ h => by cases h) windowOne_row_tie rfl ⟨rfl, rfl⟩ (by kernel_rfl) rfl
    (fun f fn hf hfn => by
      obtain rfl : f = 5 := Option.some.inj ((show Tryd.prog.funcNamed "septum/septumlaw08.WindowOne" = some 5 by kernel_rfl).symm.trans hf) |>.symm
      obtain rfl : fn = Tryd.f5 := (Option.some.inj (Tryd.func5.symm.trans hfn)).symm
      exact ⟨by kernel_rfl, fun j t ht => by
        rw [Tryd.params5] at ht
        have hm : t ∈ [22, 28, 3, 3, 3] := by simpa using Array.mem_of_getElem? ht
        have hall : ([22, 28, 3, 3, 3].all fun u => !Tryd.prog.wantsStandIn u) = true := by kernel_rfl
        exact (show Tryd.prog.wantsStandIn t = false by simpa using List.all_eq_true.1 hall t hm)⟩)
    (by kernel_rfl)
#print axioms card_holds
end Go.Proofs.YtjigfpogfppidaaDoor.windowOne
namespace Go.Proofs.YtjigfpogfppidaaDoor
theorem windowOne_holds : Rows.WindowOneCardSaid := windowOne.card_holds
end Go.Proofs.YtjigfpogfppidaaDoor
