/- dev: word.Show by the kit's walk -/
import Derived.WalkKit
import Derived.OwnWalkIn
import Derived.TacticsInMore
import Derived.LoopNIn
import Derived.LoopIn
import Derived.BigFrameIn
import Derived.Laws.BytesArg
import Derived.Lib.SlBytesConst
import Derived.Laws.IdiomStrings
import Derived.Test.YtmdkhaoppklokaaDoorKstr3
import Derived.Test.YtmdkhaoppklokaaDoorEvBelow
set_option linter.all false
namespace Go.Ev
open Go Go.Proofs Go.RowKit
attribute [local go_sem] Oper.semAt_some
def hxD (v : Int) (i : Nat) : Int := dgL.getD (v / 16 ^ i % 16).toNat 0
def shD (v : Int) (k i : Nat) : Int := if i < k then hxD v i else 48
/-- the row while it is written -/
def shC (v : Int) (k : Nat) : List Int := [48, 120, shD v k 7, shD v k 6, shD v k 5, shD v k 4, shD v k 3, shD v k 2, shD v k 1, shD v k 0]
theorem and15 {a : Int} (h : 0 ≤ a ∧ a < 4294967296) : bits BinOp.and IntKind.u32 a 15 = a % 16 := by
  obtain ⟨n, rfl⟩ := Int.eq_ofNat_of_zero_le h.1
  have h1 : n < 4294967296 := by omega
  show IntKind.u32.wrap (((BitVec.ofInt IntKind.u32.bits ((n : Nat) : Int) &&& BitVec.ofInt IntKind.u32.bits 15).toNat : Nat) : Int) = _
  rw [show IntKind.u32.bits = 32 from rfl, BitVec.toNat_and, bv_nat h1, show (BitVec.ofInt 32 15).toNat = 2 ^ 4 - 1 from rfl, Nat.and_two_pow_sub_one_eq_mod, wrap_u32]
  omega
theorem pick_dig {a : Int} (h : 0 ≤ a ∧ a < 4294967296) : ∃ m : Nat, m < 16 ∧ bits BinOp.and IntKind.u32 a 15 = ((m : Nat) : Int) ∧ a % 16 = (m : Int) := by
  refine ⟨(a % 16).toNat, by omega, ?_, by omega⟩
  rw [and15 h]; omega
theorem shD_same (v : Int) (k i : Nat) (h : i ≠ k) : shD v (k + 1) i = shD v k i := by
  unfold shD
  by_cases h1 : i < k
  · rw [if_pos h1, if_pos (by omega)]
  · rw [if_neg h1, if_neg (by omega)]
theorem shD_new (v : Int) (k : Nat) : shD v (k + 1) k = hxD v k := if_pos (Nat.lt_succ_self k)
theorem x11' : Tryd.prog.funcs[11]? = some Tryd.f11 := by kernel_rfl
set_option maxRecDepth 100000 in
set_option maxHeartbeats 2000000 in
theorem Show_in {w : World} (n : Nat) (v : Int) (hv : 0 ≤ v ∧ v < 4294967296) (h0 : 0 < w.heap.size) (hdg : ∀ m, m < 16 → w.cell? ⟨0, m, none⟩ = some (.int .u8 (dgL.getD m 0))) :
    CallsIn Fence.wide n Tryd.prog 11 #[.int .u32 v] w fun e W' => e = .returned (.string (strOfNums (shC v 8))) ∧ Below w.heap.size w W' := by
  have hro : Fence.wide.round = none := rfl
  refine callsIn_of_wp x11' rfl trivial ?_ hro
  simp only [show Tryd.f11.ntmps = 24 from rfl, List.size_toArray, List.length_cons, List.length_nil, Nat.reduceAdd, Nat.reduceSub, Array.replicate_succ, Array.replicate_zero, List.push_toArray, List.append_toArray, List.nil_append, List.cons_append]
  have kc := fun (w : World) (C : Array Value) (n c : Nat) => Lib.run_convert_bytes_const (P := Tryd.prog) w 27 5 C n c Tryd.underlying27 Tryd.underlying5
  gi_wp2
  gi_loopw [7] (fun i wr => ∃ k : Nat, k ≤ 8 ∧ i = .int .i64 k ∧ (∀ j, j < 10 → wr.cell? ⟨w.heap.size, j, none⟩ = some (.int .u8 ((shC v k).getD j 0)) ∧ wr.frozen? ⟨w.heap.size, j, none⟩ = false) ∧ Below w.heap.size w wr)
    (fun i _ => 8 - (intOf i).toNat)
  case atStart =>
    refine ⟨0, by decide, rfl, fun j hj => ?_, (Below.refl _ w).alloc (Nat.le_refl _) _⟩
    have hjc : j = 0 ∨ j = 1 ∨ j = 2 ∨ j = 3 ∨ j = 4 ∨ j = 5 ∨ j = 6 ∨ j = 7 ∨ j = 8 ∨ j = 9 := by omega
    rcases hjc with rfl | rfl | rfl | rfl | rfl | rfl | rfl | rfl | rfl | rfl
    all_goals
      refine ⟨(World.cell?_alloc_mark _ _ _ _ _).trans rfl, ?_⟩
      exact (World.frozen?_alloc_mark _ _ _ _ _ _).trans rfl
  case round =>
    obtain ⟨k, hk, rfl, hcl, hB⟩ := hrel
    by_cases hlt : k < 8
    · have hkc : k = 0 ∨ k = 1 ∨ k = 2 ∨ k = 3 ∨ k = 4 ∨ k = 5 ∨ k = 6 ∨ k = 7 := by omega
      rcases hkc with rfl | rfl | rfl | rfl | rfl | rfl | rfl | rfl
      · obtain ⟨m, hm, hbv, hmv⟩ := pick_dig (a := v) (by omega)
        have hl := (hB.cell (p := ⟨0, m, none⟩) h0).trans (hdg m hm)
        have hdx : dgL.getD m 0 = hxD v 0 := by
          unfold hxD
          congr 1
          rw [show (16 : Int) ^ 0 = 1 from rfl]
          omega
        obtain ⟨d, hd⟩ : ∃ d, d = dgL.getD m 0 := ⟨_, rfl⟩
        rw [← hd] at hl hdx
        have hc9 := (hcl 9 (by decide)).1
        have hf9 := (hcl 9 (by decide)).2
        gi_wp2
        go_roundw
        case rel =>
          refine ⟨0 + 1, by decide, by rfl, fun j hj => ⟨?_, ?_⟩, hB.setCell (p := ⟨w.heap.size, 9, none⟩) (Nat.le_refl _) _⟩
          · by_cases hj9 : j = 9
            · subst hj9
              rw [World.cell?_setCell_same' _ _ _ (by rw [hc9]; rfl)]
              show _ = some (Value.int .u8 (shD v (0 + 1) 0))
              rw [shD_new]
            · refine (World.cell?_setCell_other _ ⟨w.heap.size, 9, none⟩ ⟨w.heap.size, j, none⟩ _ (fun he => hj9 (by injection he with _ h2 _; exact h2.symm))).trans ((hcl j hj).1.trans ?_)
              have hjc : j = 0 ∨ j = 1 ∨ j = 2 ∨ j = 3 ∨ j = 4 ∨ j = 5 ∨ j = 6 ∨ j = 7 ∨ j = 8 ∨ j = 9 := by omega
              rcases hjc with rfl | rfl | rfl | rfl | rfl | rfl | rfl | rfl | rfl | rfl
              all_goals first
                | rfl
                | exact absurd rfl hj9
                | (show some (Value.int .u8 (shD v 0 _)) = some (Value.int .u8 (shD v (0 + 1) _))
                   rw [shD_same _ _ _ (by decide)])
          · rw [World.frozen?_setCell]; exact (hcl j hj).2
        case measure => simp [intOf]
      · obtain ⟨m, hm, hbv, hmv⟩ := pick_dig (a := (v / 16)) (by omega)
        have hl := (hB.cell (p := ⟨0, m, none⟩) h0).trans (hdg m hm)
        have hdx : dgL.getD m 0 = hxD v 1 := by
          unfold hxD
          congr 1
          rw [show (16 : Int) ^ 1 = 16 from rfl]
          omega
        obtain ⟨d, hd⟩ : ∃ d, d = dgL.getD m 0 := ⟨_, rfl⟩
        rw [← hd] at hl hdx
        have hc9 := (hcl 8 (by decide)).1
        have hf9 := (hcl 8 (by decide)).2
        gi_wp2
        go_roundw
        case rel =>
          refine ⟨1 + 1, by decide, by rfl, fun j hj => ⟨?_, ?_⟩, hB.setCell (p := ⟨w.heap.size, 8, none⟩) (Nat.le_refl _) _⟩
          · by_cases hj9 : j = 8
            · subst hj9
              rw [World.cell?_setCell_same' _ _ _ (by rw [hc9]; rfl)]
              show _ = some (Value.int .u8 (shD v (1 + 1) 1))
              rw [shD_new]
            · refine (World.cell?_setCell_other _ ⟨w.heap.size, 8, none⟩ ⟨w.heap.size, j, none⟩ _ (fun he => hj9 (by injection he with _ h2 _; exact h2.symm))).trans ((hcl j hj).1.trans ?_)
              have hjc : j = 0 ∨ j = 1 ∨ j = 2 ∨ j = 3 ∨ j = 4 ∨ j = 5 ∨ j = 6 ∨ j = 7 ∨ j = 8 ∨ j = 9 := by omega
              rcases hjc with rfl | rfl | rfl | rfl | rfl | rfl | rfl | rfl | rfl | rfl
              all_goals first
                | rfl
                | exact absurd rfl hj9
                | (show some (Value.int .u8 (shD v 1 _)) = some (Value.int .u8 (shD v (1 + 1) _))
                   rw [shD_same _ _ _ (by decide)])
          · rw [World.frozen?_setCell]; exact (hcl j hj).2
        case measure => simp [intOf]
      · obtain ⟨m, hm, hbv, hmv⟩ := pick_dig (a := (v / 256)) (by omega)
        have hl := (hB.cell (p := ⟨0, m, none⟩) h0).trans (hdg m hm)
        have hdx : dgL.getD m 0 = hxD v 2 := by
          unfold hxD
          congr 1
          rw [show (16 : Int) ^ 2 = 256 from rfl]
          omega
        obtain ⟨d, hd⟩ : ∃ d, d = dgL.getD m 0 := ⟨_, rfl⟩
        rw [← hd] at hl hdx
        have hc9 := (hcl 7 (by decide)).1
        have hf9 := (hcl 7 (by decide)).2
        gi_wp2
        go_roundw
        case rel =>
          refine ⟨2 + 1, by decide, by rfl, fun j hj => ⟨?_, ?_⟩, hB.setCell (p := ⟨w.heap.size, 7, none⟩) (Nat.le_refl _) _⟩
          · by_cases hj9 : j = 7
            · subst hj9
              rw [World.cell?_setCell_same' _ _ _ (by rw [hc9]; rfl)]
              show _ = some (Value.int .u8 (shD v (2 + 1) 2))
              rw [shD_new]
            · refine (World.cell?_setCell_other _ ⟨w.heap.size, 7, none⟩ ⟨w.heap.size, j, none⟩ _ (fun he => hj9 (by injection he with _ h2 _; exact h2.symm))).trans ((hcl j hj).1.trans ?_)
              have hjc : j = 0 ∨ j = 1 ∨ j = 2 ∨ j = 3 ∨ j = 4 ∨ j = 5 ∨ j = 6 ∨ j = 7 ∨ j = 8 ∨ j = 9 := by omega
              rcases hjc with rfl | rfl | rfl | rfl | rfl | rfl | rfl | rfl | rfl | rfl
              all_goals first
                | rfl
                | exact absurd rfl hj9
                | (show some (Value.int .u8 (shD v 2 _)) = some (Value.int .u8 (shD v (2 + 1) _))
                   rw [shD_same _ _ _ (by decide)])
          · rw [World.frozen?_setCell]; exact (hcl j hj).2
        case measure => simp [intOf]
      · obtain ⟨m, hm, hbv, hmv⟩ := pick_dig (a := (v / 4096)) (by omega)
        have hl := (hB.cell (p := ⟨0, m, none⟩) h0).trans (hdg m hm)
        have hdx : dgL.getD m 0 = hxD v 3 := by
          unfold hxD
          congr 1
          rw [show (16 : Int) ^ 3 = 4096 from rfl]
          omega
        obtain ⟨d, hd⟩ : ∃ d, d = dgL.getD m 0 := ⟨_, rfl⟩
        rw [← hd] at hl hdx
        have hc9 := (hcl 6 (by decide)).1
        have hf9 := (hcl 6 (by decide)).2
        gi_wp2
        go_roundw
        case rel =>
          refine ⟨3 + 1, by decide, by rfl, fun j hj => ⟨?_, ?_⟩, hB.setCell (p := ⟨w.heap.size, 6, none⟩) (Nat.le_refl _) _⟩
          · by_cases hj9 : j = 6
            · subst hj9
              rw [World.cell?_setCell_same' _ _ _ (by rw [hc9]; rfl)]
              show _ = some (Value.int .u8 (shD v (3 + 1) 3))
              rw [shD_new]
            · refine (World.cell?_setCell_other _ ⟨w.heap.size, 6, none⟩ ⟨w.heap.size, j, none⟩ _ (fun he => hj9 (by injection he with _ h2 _; exact h2.symm))).trans ((hcl j hj).1.trans ?_)
              have hjc : j = 0 ∨ j = 1 ∨ j = 2 ∨ j = 3 ∨ j = 4 ∨ j = 5 ∨ j = 6 ∨ j = 7 ∨ j = 8 ∨ j = 9 := by omega
              rcases hjc with rfl | rfl | rfl | rfl | rfl | rfl | rfl | rfl | rfl | rfl
              all_goals first
                | rfl
                | exact absurd rfl hj9
                | (show some (Value.int .u8 (shD v 3 _)) = some (Value.int .u8 (shD v (3 + 1) _))
                   rw [shD_same _ _ _ (by decide)])
          · rw [World.frozen?_setCell]; exact (hcl j hj).2
        case measure => simp [intOf]
      · obtain ⟨m, hm, hbv, hmv⟩ := pick_dig (a := (v / 65536)) (by omega)
        have hl := (hB.cell (p := ⟨0, m, none⟩) h0).trans (hdg m hm)
        have hdx : dgL.getD m 0 = hxD v 4 := by
          unfold hxD
          congr 1
          rw [show (16 : Int) ^ 4 = 65536 from rfl]
          omega
        obtain ⟨d, hd⟩ : ∃ d, d = dgL.getD m 0 := ⟨_, rfl⟩
        rw [← hd] at hl hdx
        have hc9 := (hcl 5 (by decide)).1
        have hf9 := (hcl 5 (by decide)).2
        gi_wp2
        go_roundw
        case rel =>
          refine ⟨4 + 1, by decide, by rfl, fun j hj => ⟨?_, ?_⟩, hB.setCell (p := ⟨w.heap.size, 5, none⟩) (Nat.le_refl _) _⟩
          · by_cases hj9 : j = 5
            · subst hj9
              rw [World.cell?_setCell_same' _ _ _ (by rw [hc9]; rfl)]
              show _ = some (Value.int .u8 (shD v (4 + 1) 4))
              rw [shD_new]
            · refine (World.cell?_setCell_other _ ⟨w.heap.size, 5, none⟩ ⟨w.heap.size, j, none⟩ _ (fun he => hj9 (by injection he with _ h2 _; exact h2.symm))).trans ((hcl j hj).1.trans ?_)
              have hjc : j = 0 ∨ j = 1 ∨ j = 2 ∨ j = 3 ∨ j = 4 ∨ j = 5 ∨ j = 6 ∨ j = 7 ∨ j = 8 ∨ j = 9 := by omega
              rcases hjc with rfl | rfl | rfl | rfl | rfl | rfl | rfl | rfl | rfl | rfl
              all_goals first
                | rfl
                | exact absurd rfl hj9
                | (show some (Value.int .u8 (shD v 4 _)) = some (Value.int .u8 (shD v (4 + 1) _))
                   rw [shD_same _ _ _ (by decide)])
          · rw [World.frozen?_setCell]; exact (hcl j hj).2
        case measure => simp [intOf]
      · obtain ⟨m, hm, hbv, hmv⟩ := pick_dig (a := (v / 1048576)) (by omega)
        have hl := (hB.cell (p := ⟨0, m, none⟩) h0).trans (hdg m hm)
        have hdx : dgL.getD m 0 = hxD v 5 := by
          unfold hxD
          congr 1
          rw [show (16 : Int) ^ 5 = 1048576 from rfl]
          omega
        obtain ⟨d, hd⟩ : ∃ d, d = dgL.getD m 0 := ⟨_, rfl⟩
        rw [← hd] at hl hdx
        have hc9 := (hcl 4 (by decide)).1
        have hf9 := (hcl 4 (by decide)).2
        gi_wp2
        go_roundw
        case rel =>
          refine ⟨5 + 1, by decide, by rfl, fun j hj => ⟨?_, ?_⟩, hB.setCell (p := ⟨w.heap.size, 4, none⟩) (Nat.le_refl _) _⟩
          · by_cases hj9 : j = 4
            · subst hj9
              rw [World.cell?_setCell_same' _ _ _ (by rw [hc9]; rfl)]
              show _ = some (Value.int .u8 (shD v (5 + 1) 5))
              rw [shD_new]
            · refine (World.cell?_setCell_other _ ⟨w.heap.size, 4, none⟩ ⟨w.heap.size, j, none⟩ _ (fun he => hj9 (by injection he with _ h2 _; exact h2.symm))).trans ((hcl j hj).1.trans ?_)
              have hjc : j = 0 ∨ j = 1 ∨ j = 2 ∨ j = 3 ∨ j = 4 ∨ j = 5 ∨ j = 6 ∨ j = 7 ∨ j = 8 ∨ j = 9 := by omega
              rcases hjc with rfl | rfl | rfl | rfl | rfl | rfl | rfl | rfl | rfl | rfl
              all_goals first
                | rfl
                | exact absurd rfl hj9
                | (show some (Value.int .u8 (shD v 5 _)) = some (Value.int .u8 (shD v (5 + 1) _))
                   rw [shD_same _ _ _ (by decide)])
          · rw [World.frozen?_setCell]; exact (hcl j hj).2
        case measure => simp [intOf]
      · obtain ⟨m, hm, hbv, hmv⟩ := pick_dig (a := (v / 16777216)) (by omega)
        have hl := (hB.cell (p := ⟨0, m, none⟩) h0).trans (hdg m hm)
        have hdx : dgL.getD m 0 = hxD v 6 := by
          unfold hxD
          congr 1
          rw [show (16 : Int) ^ 6 = 16777216 from rfl]
          omega
        obtain ⟨d, hd⟩ : ∃ d, d = dgL.getD m 0 := ⟨_, rfl⟩
        rw [← hd] at hl hdx
        have hc9 := (hcl 3 (by decide)).1
        have hf9 := (hcl 3 (by decide)).2
        gi_wp2
        go_roundw
        case rel =>
          refine ⟨6 + 1, by decide, by rfl, fun j hj => ⟨?_, ?_⟩, hB.setCell (p := ⟨w.heap.size, 3, none⟩) (Nat.le_refl _) _⟩
          · by_cases hj9 : j = 3
            · subst hj9
              rw [World.cell?_setCell_same' _ _ _ (by rw [hc9]; rfl)]
              show _ = some (Value.int .u8 (shD v (6 + 1) 6))
              rw [shD_new]
            · refine (World.cell?_setCell_other _ ⟨w.heap.size, 3, none⟩ ⟨w.heap.size, j, none⟩ _ (fun he => hj9 (by injection he with _ h2 _; exact h2.symm))).trans ((hcl j hj).1.trans ?_)
              have hjc : j = 0 ∨ j = 1 ∨ j = 2 ∨ j = 3 ∨ j = 4 ∨ j = 5 ∨ j = 6 ∨ j = 7 ∨ j = 8 ∨ j = 9 := by omega
              rcases hjc with rfl | rfl | rfl | rfl | rfl | rfl | rfl | rfl | rfl | rfl
              all_goals first
                | rfl
                | exact absurd rfl hj9
                | (show some (Value.int .u8 (shD v 6 _)) = some (Value.int .u8 (shD v (6 + 1) _))
                   rw [shD_same _ _ _ (by decide)])
          · rw [World.frozen?_setCell]; exact (hcl j hj).2
        case measure => simp [intOf]
      · obtain ⟨m, hm, hbv, hmv⟩ := pick_dig (a := (v / 268435456)) (by omega)
        have hl := (hB.cell (p := ⟨0, m, none⟩) h0).trans (hdg m hm)
        have hdx : dgL.getD m 0 = hxD v 7 := by
          unfold hxD
          congr 1
          rw [show (16 : Int) ^ 7 = 268435456 from rfl]
          omega
        obtain ⟨d, hd⟩ : ∃ d, d = dgL.getD m 0 := ⟨_, rfl⟩
        rw [← hd] at hl hdx
        have hc9 := (hcl 2 (by decide)).1
        have hf9 := (hcl 2 (by decide)).2
        gi_wp2
        go_roundw
        case rel =>
          refine ⟨7 + 1, by decide, by rfl, fun j hj => ⟨?_, ?_⟩, hB.setCell (p := ⟨w.heap.size, 2, none⟩) (Nat.le_refl _) _⟩
          · by_cases hj9 : j = 2
            · subst hj9
              rw [World.cell?_setCell_same' _ _ _ (by rw [hc9]; rfl)]
              show _ = some (Value.int .u8 (shD v (7 + 1) 7))
              rw [shD_new]
            · refine (World.cell?_setCell_other _ ⟨w.heap.size, 2, none⟩ ⟨w.heap.size, j, none⟩ _ (fun he => hj9 (by injection he with _ h2 _; exact h2.symm))).trans ((hcl j hj).1.trans ?_)
              have hjc : j = 0 ∨ j = 1 ∨ j = 2 ∨ j = 3 ∨ j = 4 ∨ j = 5 ∨ j = 6 ∨ j = 7 ∨ j = 8 ∨ j = 9 := by omega
              rcases hjc with rfl | rfl | rfl | rfl | rfl | rfl | rfl | rfl | rfl | rfl
              all_goals first
                | rfl
                | exact absurd rfl hj9
                | (show some (Value.int .u8 (shD v 7 _)) = some (Value.int .u8 (shD v (7 + 1) _))
                   rw [shD_same _ _ _ (by decide)])
          · rw [World.frozen?_setCell]; exact (hcl j hj).2
        case measure => simp [intOf]
    · obtain rfl : k = 8 := by omega
      have hcv := run_convert_bytes_arg (P := Tryd.prog) wr 27 5 Tryd.underlying27 Tryd.underlying5 w.heap.size 0 10 10 (shC v 8) rfl (fun i hi => by rw [Nat.zero_add]; exact (hcl i hi).1) 9 Tryd.underlying9
      gi_wp2
      go_ret
      exact ⟨rfl, hB⟩
theorem hxD_bd (v : Int) (i : Nat) : 0 ≤ hxD v i ∧ hxD v i < 256 := by
  unfold hxD
  obtain ⟨m, hm⟩ : ∃ m, m = (v / 16 ^ i % 16).toNat := ⟨_, rfl⟩
  have hlt : m < 16 := by have h1 := Int.emod_nonneg (v / 16 ^ i) (show (16 : Int) ≠ 0 by decide); have h2 := Int.emod_lt_of_pos (v / 16 ^ i) (show (0 : Int) < 16 by decide); omega
  rw [← hm, List.getD_eq_getElem?_getD, List.getElem?_eq_getElem (show m < dgL.length from hlt), Option.getD_some]
  have hall : ∀ x, x ∈ dgL → 0 ≤ x ∧ x < 256 := by decide
  exact hall _ (List.getElem_mem _)
/-- the text that a word is shown as -/
def shL (v : Int) : List Int := [48, 120, hxD v 7, hxD v 6, hxD v 5, hxD v 4, hxD v 3, hxD v 2, hxD v 1, hxD v 0]
theorem bL_nums (xs : List Int) (h : ∀ x, x ∈ xs → 0 ≤ x ∧ x < 256) : bL (strOfNums xs) = xs := by
  unfold bL strOfNums
  rw [List.map_map]
  conv => rhs; rw [← List.map_id xs]
  refine List.map_congr_left (fun x hx => ?_)
  have hb := h x hx
  simp only [Function.comp, id]
  rw [UInt8.toNat_ofNat_of_lt' (by show x.toNat < 256; omega)]
  omega
theorem bL_show (v : Int) : bL (strOfNums (shC v 8)) = shL v := by
  rw [bL_nums]
  · rfl
  · intro x hx
    have h := hxD_bd v
    simp only [shC, shD, List.mem_cons, List.not_mem_nil, or_false] at hx
    rcases hx with rfl | rfl | rfl | rfl | rfl | rfl | rfl | rfl | rfl | rfl
    · decide
    · decide
    all_goals exact h _
def s11 : Sp := fun vs H Q => match vs with
  | [.int .u32 v] => (0 ≤ v ∧ v < 4294967296) ∧ GLB H ∧ ∀ S : ByteArray, bL S = shL v → Q (.str S) H false false
  | _ => False
theorem m11 : Mono s11 := by
  intro vs H Q Q' hQ h
  unfold s11 at h ⊢
  split at h
  · exact ⟨h.1, h.2.1, fun S hS => hQ _ _ _ _ (h.2.2 S hS)⟩
  · exact h.elim
theorem k11 : Snd Tryd.prog 2 11 s11 := by
  refine snd_of_below fun vs H Q h => ?_
  unfold s11 at h
  split at h
  · rename_i v
    obtain ⟨hv, hg, hq⟩ := h
    refine ⟨⟨_, x11', by kernel_rfl, rfl⟩, .str (strOfNums (shC v 8)), rfl, hq _ (bL_show v), fun j w hi => ?_⟩
    obtain ⟨T, rfl⟩ := hg
    have g0 := hi.glob 0 (by decide)
    have l0 := hi.lts 0 (by simp)
    rw [g0.1] at l0
    have b0 := hi.br 0 GD rfl
    have hdg : ∀ m, m < 16 → w.cell? ⟨0, m, none⟩ = some (.int .u8 (dgL.getD m 0)) := fun m hm => by
      have hx : ([.int .u8 48, .int .u8 49, .int .u8 50, .int .u8 51, .int .u8 52, .int .u8 53, .int .u8 54, .int .u8 55, .int .u8 56, .int .u8 57, .int .u8 97, .int .u8 98, .int .u8 99, .int .u8 100, .int .u8 101, .int .u8 102] : List V)[m]? = some (.int .u8 (dgL.getD m 0)) := by
        have hmc : m = 0 ∨ m = 1 ∨ m = 2 ∨ m = 3 ∨ m = 4 ∨ m = 5 ∨ m = 6 ∨ m = 7 ∨ m = 8 ∨ m = 9 ∨ m = 10 ∨ m = 11 ∨ m = 12 ∨ m = 13 ∨ m = 14 ∨ m = 15 := by omega
        rcases hmc with rfl | rfl | rfl | rfl | rfl | rfl | rfl | rfl | rfl | rfl | rfl | rfl | rfl | rfl | rfl | rfl <;> rfl
      have h1 := b0 m _ hx
      simp only [J.at, g0.1, g0.2, Nat.zero_add, conc] at h1
      exact h1
    exact callsIn_wide.1 (Show_in 3 v hv l0 hdg)
  · exact h.elim
end Go.Ev
