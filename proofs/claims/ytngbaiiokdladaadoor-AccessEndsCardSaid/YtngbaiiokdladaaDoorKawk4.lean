/- dev: the chapter's example, what any bytes are read to -/
import Derived.Test.YtngbaiiokdladaaDoorKdec2
set_option linter.all false
namespace Go.Ev
open Go Go.Proofs
set_option maxRecDepth 4000
set_option maxHeartbeats 4000000
def s16 : Sp := fun vs H Q => match vs with
  | [] => Q (.agg [.int .i64 3, .bool true, .int .u32 256, .int .i64 2, .int .u32 4660]) H false false
  | _ => False
theorem m16 : Mono s16 := by
  intro vs H Q Q' hQ h
  unfold s16 at h ⊢
  split at h
  all_goals first
    | exact h.elim
    | (repeat' (first | exact hQ _ _ _ _ h | refine And.imp_right (fun h => ?_) h | refine Exists.imp (fun _ h => ?_) h | (intro z; replace h := h z)))
theorem k16 : Snd Tryd.prog 1 16 s16 := by
  refine snd_of_ev (by kernel_rfl) (C := tab []) (sndC_nil) x16 n16 c16 30 ?_
  intro vs H Q hs
  unfold s16 at hs
  split at hs
  · skip
    have hq := hs; clear hs
    repeat' (conv => whnf
             first | (refine Stop.mk ?_) | (refine fI_gen ?_; intro z hz) | (refine fO_gen ?_; intro z hz) | (refine dec_true (by assumption) ?_) | (refine dec_false (by assumption) ?_) | (refine dec_split (fun h => ?_) (fun h => ?_)) | (apply silE) | (refine Both.mk ?_ ?_) | (refine And.intro rfl ?_) | (exact And.intro rfl (And.intro rfl (And.intro rfl rfl))) | (refine And.intro (by first | omega | ((simp only [decide_eq_true_eq, decide_eq_false_iff_not, Bool.and_eq_true, beq_iff_eq, Bool.not_eq_true', Bool.not_eq_false'] at *); omega) | (subst_vars; simp only [Int.ofNat_eq_natCast, tq_not, fq_not, tq_and, fq_and, tq_or, fq_or, tq_beq, fq_beq, tq_bne, fq_bne, tq_dec, fq_dec, one1, V.tup.injEq, V.agg.injEq, List.cons.injEq, V.int.injEq, V.bool.injEq, true_and, and_true, decide_eq_true_eq, decide_eq_false_iff_not, Bool.and_eq_true, Bool.and_eq_false_iff, Bool.or_eq_true, Bool.or_eq_false_iff, Bool.not_eq_true', Bool.not_eq_false', beq_iff_eq, wrap_u32, wrap_i64, wrap_u8, beq_eq_false_iff_ne, ne_eq, bne_iff_ne, bne_eq_false_iff_eq, eq_self, and_self, splice, V.cells, List.take_succ_cons, List.take_zero, List.take_nil, List.drop_zero, List.drop_succ_cons, List.drop_nil, List.cons_append, List.nil_append, List.append_nil, List.length_cons, List.length_nil, Nat.zero_add, Nat.reduceAdd, if_true, if_false, Bool.false_eq_true, beq_self_eq_true, decide_eq_decide, Bool.true_eq_false, or_false, false_or, or_true, true_or, and_false, false_and, not_true_eq_false, not_false_eq_true, Bool.and_true, Bool.true_and, Bool.not_true, Bool.not_false] at *; omega)) ?_) | (refine Exists.intro _ (Exists.intro _ (And.intro rfl ?_))) | (refine Exists.intro _ (And.intro rfl ?_)) | (refine Exists.intro _ (Exists.intro _ (Exists.intro _ (Exists.intro _ (And.intro rfl ?_))))) | (refine ld_step rfl (by assumption) rfl ?_) | (refine lds_step rfl (by assumption) rfl ?_) | (refine fL_mk ?_) | (refine fH_mk ?_) | (refine fN_mk ?_) | (refine fLB_mk ?_) | (refine And.intro (by repeat (first | assumption | refine GLB_app ?_)) ?_) | (refine ld_step rfl ((rd_x0 _ _ _ _ _).trans rfl) rfl ?_) | (refine ld_step rfl ((rd_x1 _ _ _ _ _ _).trans rfl) rfl ?_) | (refine ld_step rfl ((rd_x2 _ _ _ _ _ _ _).trans rfl) rfl ?_) | (refine lds_step rfl ((rd_x0 _ _ _ _ _).trans rfl) rfl ?_) | (refine lds_step rfl ((rd_x1 _ _ _ _ _ _).trans rfl) rfl ?_) | (refine lds_step rfl ((rd_x2 _ _ _ _ _ _ _).trans rfl) rfl ?_) | (refine mem_step (st_eq rfl rfl rfl rfl (wr_last _ _ _ _ rfl)) ?_) | (refine drec_yes (by omega) ?_) | (refine drec_no (by omega) ?_) | (intro _) | fail)
    all_goals
      conv => whnf
      refine leafE hq ?_
      clear hq
      first
      | rfl
      | (subst_vars
         simp only [Int.ofNat_eq_natCast, tq_not, fq_not, tq_and, fq_and, tq_or, fq_or, tq_beq, fq_beq, tq_bne, fq_bne, tq_dec, fq_dec, one1, V.tup.injEq, V.agg.injEq, List.cons.injEq, V.int.injEq, V.bool.injEq, true_and, and_true, decide_eq_true_eq, decide_eq_false_iff_not, Bool.and_eq_true, Bool.and_eq_false_iff, Bool.or_eq_true, Bool.or_eq_false_iff, Bool.not_eq_true', Bool.not_eq_false', beq_iff_eq, wrap_u32, wrap_i64, wrap_u8, beq_eq_false_iff_ne, ne_eq, bne_iff_ne, bne_eq_false_iff_eq, eq_self, and_self, splice, V.cells, List.take_succ_cons, List.take_zero, List.take_nil, List.drop_zero, List.drop_succ_cons, List.drop_nil, List.cons_append, List.nil_append, List.append_nil, List.length_cons, List.length_nil, Nat.zero_add, Nat.reduceAdd, if_true, if_false, Bool.false_eq_true, beq_self_eq_true, decide_eq_decide, Bool.true_eq_false, or_false, false_or, or_true, true_or, and_false, false_and, not_true_eq_false, not_false_eq_true, Bool.and_true, Bool.true_and, Bool.not_true, Bool.not_false] at *
         skip
         repeat' (first | refine And.intro ?_ ?_ | (split <;> skip))
         all_goals (first | omega | (rw [Bool.eq_iff_iff]; simp only [decide_eq_true_eq, true_iff, iff_true, false_iff, iff_false, Bool.false_eq_true, Bool.and_eq_true, Bool.or_eq_true, beq_iff_eq, and_true, bne_iff_ne, ne_eq, Bool.not_eq_true']; omega)))
  · exact hs.elim
def s20 : Sp := fun vs H Q => match vs with
  | [] => Q (.agg [.int .u32 0, .int .i64 10]) H false false
  | _ => False
theorem k20 : Snd Tryd.prog 1 20 s20 := by
  refine snd_of_ev (by kernel_rfl) (C := tab []) (sndC_nil) x20 n20 c20 30 ?_
  intro vs H Q hs
  unfold s20 at hs
  split at hs
  · skip
    have hq := hs; clear hs
    repeat' (conv => whnf
             first | (refine Stop.mk ?_) | (refine fI_gen ?_; intro z hz) | (refine fO_gen ?_; intro z hz) | (refine dec_true (by assumption) ?_) | (refine dec_false (by assumption) ?_) | (refine dec_split (fun h => ?_) (fun h => ?_)) | (apply silE) | (refine Both.mk ?_ ?_) | (refine And.intro rfl ?_) | (exact And.intro rfl (And.intro rfl (And.intro rfl rfl))) | (refine And.intro (by first | omega | ((simp only [decide_eq_true_eq, decide_eq_false_iff_not, Bool.and_eq_true, beq_iff_eq, Bool.not_eq_true', Bool.not_eq_false'] at *); omega) | (subst_vars; simp only [Int.ofNat_eq_natCast, tq_not, fq_not, tq_and, fq_and, tq_or, fq_or, tq_beq, fq_beq, tq_bne, fq_bne, tq_dec, fq_dec, one1, V.tup.injEq, V.agg.injEq, List.cons.injEq, V.int.injEq, V.bool.injEq, true_and, and_true, decide_eq_true_eq, decide_eq_false_iff_not, Bool.and_eq_true, Bool.and_eq_false_iff, Bool.or_eq_true, Bool.or_eq_false_iff, Bool.not_eq_true', Bool.not_eq_false', beq_iff_eq, wrap_u32, wrap_i64, wrap_u8, beq_eq_false_iff_ne, ne_eq, bne_iff_ne, bne_eq_false_iff_eq, eq_self, and_self, splice, V.cells, List.take_succ_cons, List.take_zero, List.take_nil, List.drop_zero, List.drop_succ_cons, List.drop_nil, List.cons_append, List.nil_append, List.append_nil, List.length_cons, List.length_nil, Nat.zero_add, Nat.reduceAdd, if_true, if_false, Bool.false_eq_true, beq_self_eq_true, decide_eq_decide, Bool.true_eq_false, or_false, false_or, or_true, true_or, and_false, false_and, not_true_eq_false, not_false_eq_true, Bool.and_true, Bool.true_and, Bool.not_true, Bool.not_false] at *; omega)) ?_) | (refine Exists.intro _ (Exists.intro _ (And.intro rfl ?_))) | (refine Exists.intro _ (And.intro rfl ?_)) | (refine Exists.intro _ (Exists.intro _ (Exists.intro _ (Exists.intro _ (And.intro rfl ?_))))) | (refine ld_step rfl (by assumption) rfl ?_) | (refine lds_step rfl (by assumption) rfl ?_) | (refine fL_mk ?_) | (refine fH_mk ?_) | (refine fN_mk ?_) | (refine fLB_mk ?_) | (refine And.intro (by repeat (first | assumption | refine GLB_app ?_)) ?_) | (refine ld_step rfl ((rd_x0 _ _ _ _ _).trans rfl) rfl ?_) | (refine ld_step rfl ((rd_x1 _ _ _ _ _ _).trans rfl) rfl ?_) | (refine ld_step rfl ((rd_x2 _ _ _ _ _ _ _).trans rfl) rfl ?_) | (refine lds_step rfl ((rd_x0 _ _ _ _ _).trans rfl) rfl ?_) | (refine lds_step rfl ((rd_x1 _ _ _ _ _ _).trans rfl) rfl ?_) | (refine lds_step rfl ((rd_x2 _ _ _ _ _ _ _).trans rfl) rfl ?_) | (refine mem_step (st_eq rfl rfl rfl rfl (wr_last _ _ _ _ rfl)) ?_) | (refine drec_yes (by omega) ?_) | (refine drec_no (by omega) ?_) | (intro _) | fail)
    all_goals
      conv => whnf
      refine leafE hq ?_
      clear hq
      first
      | rfl
      | (subst_vars
         simp only [Int.ofNat_eq_natCast, tq_not, fq_not, tq_and, fq_and, tq_or, fq_or, tq_beq, fq_beq, tq_bne, fq_bne, tq_dec, fq_dec, one1, V.tup.injEq, V.agg.injEq, List.cons.injEq, V.int.injEq, V.bool.injEq, true_and, and_true, decide_eq_true_eq, decide_eq_false_iff_not, Bool.and_eq_true, Bool.and_eq_false_iff, Bool.or_eq_true, Bool.or_eq_false_iff, Bool.not_eq_true', Bool.not_eq_false', beq_iff_eq, wrap_u32, wrap_i64, wrap_u8, beq_eq_false_iff_ne, ne_eq, bne_iff_ne, bne_eq_false_iff_eq, eq_self, and_self, splice, V.cells, List.take_succ_cons, List.take_zero, List.take_nil, List.drop_zero, List.drop_succ_cons, List.drop_nil, List.cons_append, List.nil_append, List.append_nil, List.length_cons, List.length_nil, Nat.zero_add, Nat.reduceAdd, if_true, if_false, Bool.false_eq_true, beq_self_eq_true, decide_eq_decide, Bool.true_eq_false, or_false, false_or, or_true, true_or, and_false, false_and, not_true_eq_false, not_false_eq_true, Bool.and_true, Bool.true_and, Bool.not_true, Bool.not_false] at *
         skip
         repeat' (first | refine And.intro ?_ ?_ | (split <;> skip))
         all_goals (first | omega | (rw [Bool.eq_iff_iff]; simp only [decide_eq_true_eq, true_iff, iff_true, false_iff, iff_false, Bool.false_eq_true, Bool.and_eq_true, Bool.or_eq_true, beq_iff_eq, and_true, bne_iff_ne, ne_eq, Bool.not_eq_true']; omega)))
  · exact hs.elim
def s21 : Sp := fun vs H Q => match vs with
  | [.int .u32 x] => Q (.agg [.int .u32 x, .int .i64 0]) H false false
  | _ => False
theorem k21 : Snd Tryd.prog 1 21 s21 := by
  refine snd_of_ev (by kernel_rfl) (C := tab []) (sndC_nil) x21 n21 c21 30 ?_
  intro vs H Q hs
  unfold s21 at hs
  split at hs
  · skip
    have hq := hs; clear hs
    repeat' (conv => whnf
             first | (refine Stop.mk ?_) | (refine fI_gen ?_; intro z hz) | (refine fO_gen ?_; intro z hz) | (refine dec_true (by assumption) ?_) | (refine dec_false (by assumption) ?_) | (refine dec_split (fun h => ?_) (fun h => ?_)) | (apply silE) | (refine Both.mk ?_ ?_) | (refine And.intro rfl ?_) | (exact And.intro rfl (And.intro rfl (And.intro rfl rfl))) | (refine And.intro (by first | omega | ((simp only [decide_eq_true_eq, decide_eq_false_iff_not, Bool.and_eq_true, beq_iff_eq, Bool.not_eq_true', Bool.not_eq_false'] at *); omega) | (subst_vars; simp only [Int.ofNat_eq_natCast, tq_not, fq_not, tq_and, fq_and, tq_or, fq_or, tq_beq, fq_beq, tq_bne, fq_bne, tq_dec, fq_dec, one1, V.tup.injEq, V.agg.injEq, List.cons.injEq, V.int.injEq, V.bool.injEq, true_and, and_true, decide_eq_true_eq, decide_eq_false_iff_not, Bool.and_eq_true, Bool.and_eq_false_iff, Bool.or_eq_true, Bool.or_eq_false_iff, Bool.not_eq_true', Bool.not_eq_false', beq_iff_eq, wrap_u32, wrap_i64, wrap_u8, beq_eq_false_iff_ne, ne_eq, bne_iff_ne, bne_eq_false_iff_eq, eq_self, and_self, splice, V.cells, List.take_succ_cons, List.take_zero, List.take_nil, List.drop_zero, List.drop_succ_cons, List.drop_nil, List.cons_append, List.nil_append, List.append_nil, List.length_cons, List.length_nil, Nat.zero_add, Nat.reduceAdd, if_true, if_false, Bool.false_eq_true, beq_self_eq_true, decide_eq_decide, Bool.true_eq_false, or_false, false_or, or_true, true_or, and_false, false_and, not_true_eq_false, not_false_eq_true, Bool.and_true, Bool.true_and, Bool.not_true, Bool.not_false] at *; omega)) ?_) | (refine Exists.intro _ (Exists.intro _ (And.intro rfl ?_))) | (refine Exists.intro _ (And.intro rfl ?_)) | (refine Exists.intro _ (Exists.intro _ (Exists.intro _ (Exists.intro _ (And.intro rfl ?_))))) | (refine ld_step rfl (by assumption) rfl ?_) | (refine lds_step rfl (by assumption) rfl ?_) | (refine fL_mk ?_) | (refine fH_mk ?_) | (refine fN_mk ?_) | (refine fLB_mk ?_) | (refine And.intro (by repeat (first | assumption | refine GLB_app ?_)) ?_) | (refine ld_step rfl ((rd_x0 _ _ _ _ _).trans rfl) rfl ?_) | (refine ld_step rfl ((rd_x1 _ _ _ _ _ _).trans rfl) rfl ?_) | (refine ld_step rfl ((rd_x2 _ _ _ _ _ _ _).trans rfl) rfl ?_) | (refine lds_step rfl ((rd_x0 _ _ _ _ _).trans rfl) rfl ?_) | (refine lds_step rfl ((rd_x1 _ _ _ _ _ _).trans rfl) rfl ?_) | (refine lds_step rfl ((rd_x2 _ _ _ _ _ _ _).trans rfl) rfl ?_) | (refine mem_step (st_eq rfl rfl rfl rfl (wr_last _ _ _ _ rfl)) ?_) | (refine drec_yes (by omega) ?_) | (refine drec_no (by omega) ?_) | (intro _) | fail)
    all_goals
      conv => whnf
      refine leafE hq ?_
      clear hq
      first
      | rfl
      | (subst_vars
         simp only [Int.ofNat_eq_natCast, tq_not, fq_not, tq_and, fq_and, tq_or, fq_or, tq_beq, fq_beq, tq_bne, fq_bne, tq_dec, fq_dec, one1, V.tup.injEq, V.agg.injEq, List.cons.injEq, V.int.injEq, V.bool.injEq, true_and, and_true, decide_eq_true_eq, decide_eq_false_iff_not, Bool.and_eq_true, Bool.and_eq_false_iff, Bool.or_eq_true, Bool.or_eq_false_iff, Bool.not_eq_true', Bool.not_eq_false', beq_iff_eq, wrap_u32, wrap_i64, wrap_u8, beq_eq_false_iff_ne, ne_eq, bne_iff_ne, bne_eq_false_iff_eq, eq_self, and_self, splice, V.cells, List.take_succ_cons, List.take_zero, List.take_nil, List.drop_zero, List.drop_succ_cons, List.drop_nil, List.cons_append, List.nil_append, List.append_nil, List.length_cons, List.length_nil, Nat.zero_add, Nat.reduceAdd, if_true, if_false, Bool.false_eq_true, beq_self_eq_true, decide_eq_decide, Bool.true_eq_false, or_false, false_or, or_true, true_or, and_false, false_and, not_true_eq_false, not_false_eq_true, Bool.and_true, Bool.true_and, Bool.not_true, Bool.not_false] at *
         skip
         repeat' (first | refine And.intro ?_ ?_ | (split <;> skip))
         all_goals (first | omega | (rw [Bool.eq_iff_iff]; simp only [decide_eq_true_eq, true_iff, iff_true, false_iff, iff_false, Bool.false_eq_true, Bool.and_eq_true, Bool.or_eq_true, beq_iff_eq, and_true, bne_iff_ne, ne_eq, Bool.not_eq_true']; omega)))
  · exact hs.elim
def exB : List Int := [3, 3, 0, 0, 0, 1, 0, 0, 52, 18, 0, 0]
theorem ex_acc : accP 3 true 256 2 4660 := by decide
theorem ex_rec : recV 3 true 256 2 4660 = exB := by decide
theorem ex_dec : decV exB = .tup [.agg [.int .i64 3, .bool true, .int .u32 256, .int .i64 2, .int .u32 4660], .int .i64 0] := by
  rw [decV_ok (by decide)]; rfl
theorem exB_bd : ∀ x, x ∈ exB → 0 ≤ x ∧ x < 256 := by decide
theorem ex_no : ¬ accP 0 false 0 4 1 := by decide
theorem ex_yes : accP 0 false 0 4 0 := by decide
def s8 : Sp := fun vs H Q => match vs with
  | [] => GLB H ∧ Q (.bool true) H false false
  | _ => False
theorem m8 : Mono s8 := by
  intro vs H Q Q' hQ h
  unfold s8 at h ⊢
  split at h
  all_goals first
    | exact h.elim
    | (repeat' (first | exact hQ _ _ _ _ h | refine And.imp_right (fun h => ?_) h | refine Exists.imp (fun _ h => ?_) h | (intro z; replace h := h z)))
theorem k8 : Snd Tryd.prog 1 8 s8 := by
  refine snd_of_ev (by kernel_rfl) (C := tab [(11, s11), (12, s12), (13, s13), (16, s16), (17, s17), (20, s20), (21, s21)]) (sndC_cons k11 (sndC_cons k12 (sndC_cons k13 (sndC_cons k16 (sndC_cons k17 (sndC_cons k20 (sndC_cons k21 (sndC_nil)))))))) x8 n8 c8 30 ?_
  intro vs H Q hs
  unfold s8 at hs
  split at hs
  · obtain ⟨hg, hq⟩ := hs
    have hu : ((0 : Int) ≤ 256 ∧ (256 : Int) < 4294967296) ∧ ((0 : Int) ≤ 4660 ∧ (4660 : Int) < 4294967296) ∧ (-9223372036854775808 : Int) ≤ 2 ∧ (2 : Int) < 9223372036854775808 := by decide
    have hu1 : ((0 : Int) ≤ 0 ∧ (0 : Int) < 4294967296) ∧ ((0 : Int) ≤ 1 ∧ (1 : Int) < 4294967296) := by decide
    have hu2 : ((0 : Int) ≤ 0 ∧ (0 : Int) < 4294967296) ∧ ((0 : Int) ≤ 0 ∧ (0 : Int) < 4294967296) := by decide
    repeat' (conv => whnf
             first | (refine Stop.mk ?_) | (refine fO_is (decide_eq_true ex_yes) ?_) | (refine fO_is (decide_eq_false ex_no) ?_) | (refine fO_is (decide_eq_true (rfl : exB = exB)) ?_) | (refine fI_gen ?_; intro z hz) | (refine fO_gen ?_; intro z hz) | (refine And.intro hu (And.intro (by repeat (first | assumption | refine GLB_app ?_)) (And.intro (fun hna => absurd ex_acc hna) (fun _ bb cc X ws q1 q2 q3 q4 => ?_))); have q2' : 12 ≤ cc := q2; have q3' : (H ++ X)[bb]? = some (.rw 5 (exB.flatMap encB ++ ws)) := (by rw [← ex_rec]; exact q3); have g1 : rd (H ++ X) bb 0 (exB.length * 1) = some (exB.flatMap encB) := rd_block q3' rfl) | (refine And.intro (GLB_app hg) (Exists.intro exB (And.intro rfl (And.intro q2' (And.intro (by decide) (And.intro exB_bd (And.intro g1 ?_)))))); rw [ex_dec]) | (refine Exists.intro exB (Exists.intro exB (And.intro rfl (And.intro rfl (And.intro (by decide) (And.intro (by decide) (And.intro (rd_app g1 _) (And.intro ((rd_x0 _ _ _ _ _).trans rfl) ?_)))))))) | (refine And.intro hu1 (And.intro (by repeat (first | assumption | refine GLB_app ?_)) ?_)) | (refine And.intro hu2 (And.intro (by repeat (first | assumption | refine GLB_app ?_)) ?_)) | (refine dec_true (by assumption) ?_) | (refine dec_false (by assumption) ?_) | (refine dec_split (fun h => ?_) (fun h => ?_)) | (apply silE) | (refine Both.mk ?_ ?_) | (refine And.intro rfl ?_) | (exact And.intro rfl (And.intro rfl (And.intro rfl rfl))) | (refine And.intro (by first | omega | ((simp only [decide_eq_true_eq, decide_eq_false_iff_not, Bool.and_eq_true, beq_iff_eq, Bool.not_eq_true', Bool.not_eq_false'] at *); omega) | (subst_vars; simp only [Int.ofNat_eq_natCast, tq_not, fq_not, tq_and, fq_and, tq_or, fq_or, tq_beq, fq_beq, tq_bne, fq_bne, tq_dec, fq_dec, one1, V.tup.injEq, V.agg.injEq, List.cons.injEq, V.int.injEq, V.bool.injEq, true_and, and_true, decide_eq_true_eq, decide_eq_false_iff_not, Bool.and_eq_true, Bool.and_eq_false_iff, Bool.or_eq_true, Bool.or_eq_false_iff, Bool.not_eq_true', Bool.not_eq_false', beq_iff_eq, wrap_u32, wrap_i64, wrap_u8, beq_eq_false_iff_ne, ne_eq, bne_iff_ne, bne_eq_false_iff_eq, eq_self, and_self, splice, V.cells, List.take_succ_cons, List.take_zero, List.take_nil, List.drop_zero, List.drop_succ_cons, List.drop_nil, List.cons_append, List.nil_append, List.append_nil, List.length_cons, List.length_nil, Nat.zero_add, Nat.reduceAdd, if_true, if_false, Bool.false_eq_true, beq_self_eq_true, decide_eq_decide, Bool.true_eq_false, or_false, false_or, or_true, true_or, and_false, false_and, not_true_eq_false, not_false_eq_true, Bool.and_true, Bool.true_and, Bool.not_true, Bool.not_false] at *; omega)) ?_) | (refine Exists.intro _ (Exists.intro _ (And.intro rfl ?_))) | (refine Exists.intro _ (And.intro rfl ?_)) | (refine Exists.intro _ (Exists.intro _ (Exists.intro _ (Exists.intro _ (And.intro rfl ?_))))) | (refine ld_step rfl (by assumption) rfl ?_) | (refine lds_step rfl (by assumption) rfl ?_) | (refine fL_mk ?_) | (refine fH_mk ?_) | (refine fN_mk ?_) | (refine fLB_mk ?_) | (refine And.intro (by repeat (first | assumption | refine GLB_app ?_)) ?_) | (refine ld_step rfl ((rd_x0 _ _ _ _ _).trans rfl) rfl ?_) | (refine ld_step rfl ((rd_x1 _ _ _ _ _ _).trans rfl) rfl ?_) | (refine ld_step rfl ((rd_x2 _ _ _ _ _ _ _).trans rfl) rfl ?_) | (refine lds_step rfl ((rd_x0 _ _ _ _ _).trans rfl) rfl ?_) | (refine lds_step rfl ((rd_x1 _ _ _ _ _ _).trans rfl) rfl ?_) | (refine lds_step rfl ((rd_x2 _ _ _ _ _ _ _).trans rfl) rfl ?_) | (refine mem_step (st_eq rfl rfl rfl rfl (wr_last _ _ _ _ rfl)) ?_) | (refine drec_yes (by omega) ?_) | (refine drec_no (by omega) ?_) | (intro _) | fail)
    all_goals (conv => whnf)
    all_goals exact leafH hq rfl (take_app2 H _ _)
  · exact hs.elim
end Go.Ev
