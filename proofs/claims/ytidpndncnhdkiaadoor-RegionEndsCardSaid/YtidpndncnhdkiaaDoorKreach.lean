/- dev: reach, septumref02, septumkit.Pick -/
import Derived.Test.YtidpndncnhdkiaaDoorKA
import Derived.Test.YtidpndncnhdkiaaDoorEvW
set_option linter.all false
namespace Go.Ev
open Go Go.Proofs
set_option maxRecDepth 4000
-- not here: septumkit.Pick
def s43 : Sp := fun vs H Q => match vs with
  | [.agg [.int .u32 a, .int .u32 b]] => Q (.bool (decide (a ≤ b))) H false false
  | _ => False
theorem m43 : Mono s43 := by
  intro vs H Q Q' hQ h
  unfold s43 at h ⊢
  split at h
  all_goals first
    | exact h.elim
    | (repeat' (first | exact hQ _ _ _ _ h | refine And.imp_right (fun h => ?_) h | refine Exists.imp (fun _ h => ?_) h | (intro z; replace h := h z)))
theorem k43 : Snd Tryd.prog 1 43 s43 := by
  refine snd_of_ev (by kernel_rfl) (C := tab []) (sndC_nil) x43 n43 c43 30 ?_
  intro vs H Q hs
  unfold s43 at hs
  split at hs
  · skip
    have hq := hs; clear hs
    repeat' (conv => whnf
             first
             | (refine Stop.mk ?_)
             | (refine fI_gen ?_; intro z hz)
             | (refine fO_gen ?_; intro z hz)
             | (refine dec_true (by assumption) ?_)
             | (refine dec_false (by assumption) ?_)
             | (refine dec_split (fun h => ?_) (fun h => ?_))
             | (apply silE)
             | (exact And.intro rfl (And.intro rfl (And.intro rfl rfl)))
             | (refine And.intro (by first | omega | ((simp only [decide_eq_true_eq, decide_eq_false_iff_not, Bool.and_eq_true, beq_iff_eq, Bool.not_eq_true', Bool.not_eq_false'] at *); omega) | (subst_vars; simp only [Int.ofNat_eq_natCast, tq_not, fq_not, tq_and, fq_and, tq_or, fq_or, tq_beq, fq_beq, tq_bne, fq_bne, tq_dec, fq_dec, one1, V.tup.injEq, V.agg.injEq, List.cons.injEq, V.int.injEq, V.bool.injEq, true_and, and_true, decide_eq_true_eq, decide_eq_false_iff_not, Bool.and_eq_true, Bool.and_eq_false_iff, Bool.or_eq_true, Bool.or_eq_false_iff, Bool.not_eq_true', Bool.not_eq_false', beq_iff_eq, wrap_u32, wrap_i64, wrap_u8, beq_eq_false_iff_ne, ne_eq, bne_iff_ne, bne_eq_false_iff_eq, eq_self, and_self, splice, V.cells, List.take_succ_cons, List.take_zero, List.take_nil, List.drop_zero, List.drop_succ_cons, List.drop_nil, List.cons_append, List.nil_append, List.append_nil, List.length_cons, List.length_nil, Nat.zero_add, Nat.reduceAdd, if_true, if_false, Bool.false_eq_true, beq_self_eq_true, decide_eq_decide, Bool.true_eq_false, or_false, false_or, or_true, true_or, and_false, false_and, not_true_eq_false, not_false_eq_true, Bool.and_true, Bool.true_and, Bool.not_true, Bool.not_false] at *; omega)) ?_)
             | (refine Exists.intro _ (Exists.intro _ (And.intro rfl ?_)))
             | (refine Exists.intro _ (And.intro rfl ?_))
             | (refine Exists.intro _ (Exists.intro _ (Exists.intro _ (Exists.intro _ (And.intro rfl ?_)))))
             | (refine ld_step rfl (by assumption) rfl ?_)
             | (refine lds_step rfl (by assumption) rfl ?_)
             | (refine fL_mk ?_)
             | (refine fH_mk ?_)
             | (refine fN_mk ?_)
             | (refine fLB_mk ?_)
             | (refine And.intro (by first | assumption | exact GLB_app (by assumption) | exact GLB_app (GLB_app (by assumption))) ?_)
             | (refine ld_step rfl ((rd_x0 _ _ _ _ _).trans rfl) rfl ?_)
             | (refine ld_step rfl ((rd_x1 _ _ _ _ _ _).trans rfl) rfl ?_)
             | (refine drec_yes (by omega) ?_)
             | (refine drec_no (by omega) ?_)
             | (intro _)
             | fail)
    all_goals
      conv => whnf
      refine leafE hq ?_
      clear hq
      first
      | rfl
      | (subst_vars
         simp only [Int.ofNat_eq_natCast, tq_not, fq_not, tq_and, fq_and, tq_or, fq_or, tq_beq, fq_beq, tq_bne, fq_bne, tq_dec, fq_dec, one1, V.tup.injEq, V.agg.injEq, List.cons.injEq, V.int.injEq, V.bool.injEq, true_and, and_true, decide_eq_true_eq, decide_eq_false_iff_not, Bool.and_eq_true, Bool.and_eq_false_iff, Bool.or_eq_true, Bool.or_eq_false_iff, Bool.not_eq_true', Bool.not_eq_false', beq_iff_eq, wrap_u32, wrap_i64, wrap_u8, beq_eq_false_iff_ne, ne_eq, bne_iff_ne, bne_eq_false_iff_eq, eq_self, and_self, splice, V.cells, List.take_succ_cons, List.take_zero, List.take_nil, List.drop_zero, List.drop_succ_cons, List.drop_nil, List.cons_append, List.nil_append, List.append_nil, List.length_cons, List.length_nil, Nat.zero_add, Nat.reduceAdd, if_true, if_false, Bool.false_eq_true, beq_self_eq_true, decide_eq_decide, Bool.true_eq_false, or_false, false_or, or_true, true_or, and_false, false_and, not_true_eq_false, not_false_eq_true, Bool.and_true, Bool.true_and, Bool.not_true, Bool.not_false] at *
         skip
         repeat' (first | refine And.intro ?_ ?_ | (split <;> skip))
         all_goals (first | omega | (rw [Bool.eq_iff_iff]; simp only [decide_eq_true_eq, true_iff, iff_true, false_iff, iff_false, Bool.false_eq_true, Bool.and_eq_true, Bool.or_eq_true, beq_iff_eq, and_true, bne_iff_ne, ne_eq, Bool.not_eq_true']; omega)))
  · exact hs.elim
def s34 : Sp := fun vs H Q => match vs with
  | [.agg [.int .u32 a, .int .u32 b]] => Q (.bool (decide (a ≤ b))) H false false
  | _ => False
theorem m34 : Mono s34 := by
  intro vs H Q Q' hQ h
  unfold s34 at h ⊢
  split at h
  all_goals first
    | exact h.elim
    | (repeat' (first | exact hQ _ _ _ _ h | refine And.imp_right (fun h => ?_) h | refine Exists.imp (fun _ h => ?_) h | (intro z; replace h := h z)))
theorem k34 : Snd Tryd.prog 1 34 s34 := by
  refine snd_of_ev (by kernel_rfl) (C := tab [(43, s43)]) (sndC_cons k43 (sndC_nil)) x34 n34 c34 30 ?_
  intro vs H Q hs
  unfold s34 at hs
  split at hs
  · skip
    have hq := hs; clear hs
    repeat' (conv => whnf
             first
             | (refine Stop.mk ?_)
             | (refine fI_gen ?_; intro z hz)
             | (refine fO_gen ?_; intro z hz)
             | (refine dec_true (by assumption) ?_)
             | (refine dec_false (by assumption) ?_)
             | (refine dec_split (fun h => ?_) (fun h => ?_))
             | (apply silE)
             | (exact And.intro rfl (And.intro rfl (And.intro rfl rfl)))
             | (refine And.intro (by first | omega | ((simp only [decide_eq_true_eq, decide_eq_false_iff_not, Bool.and_eq_true, beq_iff_eq, Bool.not_eq_true', Bool.not_eq_false'] at *); omega) | (subst_vars; simp only [Int.ofNat_eq_natCast, tq_not, fq_not, tq_and, fq_and, tq_or, fq_or, tq_beq, fq_beq, tq_bne, fq_bne, tq_dec, fq_dec, one1, V.tup.injEq, V.agg.injEq, List.cons.injEq, V.int.injEq, V.bool.injEq, true_and, and_true, decide_eq_true_eq, decide_eq_false_iff_not, Bool.and_eq_true, Bool.and_eq_false_iff, Bool.or_eq_true, Bool.or_eq_false_iff, Bool.not_eq_true', Bool.not_eq_false', beq_iff_eq, wrap_u32, wrap_i64, wrap_u8, beq_eq_false_iff_ne, ne_eq, bne_iff_ne, bne_eq_false_iff_eq, eq_self, and_self, splice, V.cells, List.take_succ_cons, List.take_zero, List.take_nil, List.drop_zero, List.drop_succ_cons, List.drop_nil, List.cons_append, List.nil_append, List.append_nil, List.length_cons, List.length_nil, Nat.zero_add, Nat.reduceAdd, if_true, if_false, Bool.false_eq_true, beq_self_eq_true, decide_eq_decide, Bool.true_eq_false, or_false, false_or, or_true, true_or, and_false, false_and, not_true_eq_false, not_false_eq_true, Bool.and_true, Bool.true_and, Bool.not_true, Bool.not_false] at *; omega)) ?_)
             | (refine Exists.intro _ (Exists.intro _ (And.intro rfl ?_)))
             | (refine Exists.intro _ (And.intro rfl ?_))
             | (refine Exists.intro _ (Exists.intro _ (Exists.intro _ (Exists.intro _ (And.intro rfl ?_)))))
             | (refine ld_step rfl (by assumption) rfl ?_)
             | (refine lds_step rfl (by assumption) rfl ?_)
             | (refine fL_mk ?_)
             | (refine fH_mk ?_)
             | (refine fN_mk ?_)
             | (refine fLB_mk ?_)
             | (refine And.intro (by first | assumption | exact GLB_app (by assumption) | exact GLB_app (GLB_app (by assumption))) ?_)
             | (refine ld_step rfl ((rd_x0 _ _ _ _ _).trans rfl) rfl ?_)
             | (refine ld_step rfl ((rd_x1 _ _ _ _ _ _).trans rfl) rfl ?_)
             | (refine drec_yes (by omega) ?_)
             | (refine drec_no (by omega) ?_)
             | (intro _)
             | fail)
    all_goals
      conv => whnf
      refine leafE hq ?_
      clear hq
      first
      | rfl
      | (subst_vars
         simp only [Int.ofNat_eq_natCast, tq_not, fq_not, tq_and, fq_and, tq_or, fq_or, tq_beq, fq_beq, tq_bne, fq_bne, tq_dec, fq_dec, one1, V.tup.injEq, V.agg.injEq, List.cons.injEq, V.int.injEq, V.bool.injEq, true_and, and_true, decide_eq_true_eq, decide_eq_false_iff_not, Bool.and_eq_true, Bool.and_eq_false_iff, Bool.or_eq_true, Bool.or_eq_false_iff, Bool.not_eq_true', Bool.not_eq_false', beq_iff_eq, wrap_u32, wrap_i64, wrap_u8, beq_eq_false_iff_ne, ne_eq, bne_iff_ne, bne_eq_false_iff_eq, eq_self, and_self, splice, V.cells, List.take_succ_cons, List.take_zero, List.take_nil, List.drop_zero, List.drop_succ_cons, List.drop_nil, List.cons_append, List.nil_append, List.append_nil, List.length_cons, List.length_nil, Nat.zero_add, Nat.reduceAdd, if_true, if_false, Bool.false_eq_true, beq_self_eq_true, decide_eq_decide, Bool.true_eq_false, or_false, false_or, or_true, true_or, and_false, false_and, not_true_eq_false, not_false_eq_true, Bool.and_true, Bool.true_and, Bool.not_true, Bool.not_false] at *
         skip
         repeat' (first | refine And.intro ?_ ?_ | (split <;> skip))
         all_goals (first | omega | (rw [Bool.eq_iff_iff]; simp only [decide_eq_true_eq, true_iff, iff_true, false_iff, iff_false, Bool.false_eq_true, Bool.and_eq_true, Bool.or_eq_true, beq_iff_eq, and_true, bne_iff_ne, ne_eq, Bool.not_eq_true']; omega)))
  · exact hs.elim
def s30 : Sp := fun vs H Q => match vs with
  | [.agg [.int .u32 a, .int .u32 b]] => Q (.bool (decide (a ≤ b))) H false false
  | _ => False
theorem m30 : Mono s30 := by
  intro vs H Q Q' hQ h
  unfold s30 at h ⊢
  split at h
  all_goals first
    | exact h.elim
    | (repeat' (first | exact hQ _ _ _ _ h | refine And.imp_right (fun h => ?_) h | refine Exists.imp (fun _ h => ?_) h | (intro z; replace h := h z)))
theorem k30 : Snd Tryd.prog 1 30 s30 := by
  refine snd_of_ev (by kernel_rfl) (C := tab []) (sndC_nil) x30 n30 c30 30 ?_
  intro vs H Q hs
  unfold s30 at hs
  split at hs
  · skip
    have hq := hs; clear hs
    repeat' (conv => whnf
             first
             | (refine Stop.mk ?_)
             | (refine fI_gen ?_; intro z hz)
             | (refine fO_gen ?_; intro z hz)
             | (refine dec_true (by assumption) ?_)
             | (refine dec_false (by assumption) ?_)
             | (refine dec_split (fun h => ?_) (fun h => ?_))
             | (apply silE)
             | (exact And.intro rfl (And.intro rfl (And.intro rfl rfl)))
             | (refine And.intro (by first | omega | ((simp only [decide_eq_true_eq, decide_eq_false_iff_not, Bool.and_eq_true, beq_iff_eq, Bool.not_eq_true', Bool.not_eq_false'] at *); omega) | (subst_vars; simp only [Int.ofNat_eq_natCast, tq_not, fq_not, tq_and, fq_and, tq_or, fq_or, tq_beq, fq_beq, tq_bne, fq_bne, tq_dec, fq_dec, one1, V.tup.injEq, V.agg.injEq, List.cons.injEq, V.int.injEq, V.bool.injEq, true_and, and_true, decide_eq_true_eq, decide_eq_false_iff_not, Bool.and_eq_true, Bool.and_eq_false_iff, Bool.or_eq_true, Bool.or_eq_false_iff, Bool.not_eq_true', Bool.not_eq_false', beq_iff_eq, wrap_u32, wrap_i64, wrap_u8, beq_eq_false_iff_ne, ne_eq, bne_iff_ne, bne_eq_false_iff_eq, eq_self, and_self, splice, V.cells, List.take_succ_cons, List.take_zero, List.take_nil, List.drop_zero, List.drop_succ_cons, List.drop_nil, List.cons_append, List.nil_append, List.append_nil, List.length_cons, List.length_nil, Nat.zero_add, Nat.reduceAdd, if_true, if_false, Bool.false_eq_true, beq_self_eq_true, decide_eq_decide, Bool.true_eq_false, or_false, false_or, or_true, true_or, and_false, false_and, not_true_eq_false, not_false_eq_true, Bool.and_true, Bool.true_and, Bool.not_true, Bool.not_false] at *; omega)) ?_)
             | (refine Exists.intro _ (Exists.intro _ (And.intro rfl ?_)))
             | (refine Exists.intro _ (And.intro rfl ?_))
             | (refine Exists.intro _ (Exists.intro _ (Exists.intro _ (Exists.intro _ (And.intro rfl ?_)))))
             | (refine ld_step rfl (by assumption) rfl ?_)
             | (refine lds_step rfl (by assumption) rfl ?_)
             | (refine fL_mk ?_)
             | (refine fH_mk ?_)
             | (refine fN_mk ?_)
             | (refine fLB_mk ?_)
             | (refine And.intro (by first | assumption | exact GLB_app (by assumption) | exact GLB_app (GLB_app (by assumption))) ?_)
             | (refine ld_step rfl ((rd_x0 _ _ _ _ _).trans rfl) rfl ?_)
             | (refine ld_step rfl ((rd_x1 _ _ _ _ _ _).trans rfl) rfl ?_)
             | (refine drec_yes (by omega) ?_)
             | (refine drec_no (by omega) ?_)
             | (intro _)
             | fail)
    all_goals
      conv => whnf
      refine leafE hq ?_
      clear hq
      first
      | rfl
      | (subst_vars
         simp only [Int.ofNat_eq_natCast, tq_not, fq_not, tq_and, fq_and, tq_or, fq_or, tq_beq, fq_beq, tq_bne, fq_bne, tq_dec, fq_dec, one1, V.tup.injEq, V.agg.injEq, List.cons.injEq, V.int.injEq, V.bool.injEq, true_and, and_true, decide_eq_true_eq, decide_eq_false_iff_not, Bool.and_eq_true, Bool.and_eq_false_iff, Bool.or_eq_true, Bool.or_eq_false_iff, Bool.not_eq_true', Bool.not_eq_false', beq_iff_eq, wrap_u32, wrap_i64, wrap_u8, beq_eq_false_iff_ne, ne_eq, bne_iff_ne, bne_eq_false_iff_eq, eq_self, and_self, splice, V.cells, List.take_succ_cons, List.take_zero, List.take_nil, List.drop_zero, List.drop_succ_cons, List.drop_nil, List.cons_append, List.nil_append, List.append_nil, List.length_cons, List.length_nil, Nat.zero_add, Nat.reduceAdd, if_true, if_false, Bool.false_eq_true, beq_self_eq_true, decide_eq_decide, Bool.true_eq_false, or_false, false_or, or_true, true_or, and_false, false_and, not_true_eq_false, not_false_eq_true, Bool.and_true, Bool.true_and, Bool.not_true, Bool.not_false] at *
         skip
         repeat' (first | refine And.intro ?_ ?_ | (split <;> skip))
         all_goals (first | omega | (rw [Bool.eq_iff_iff]; simp only [decide_eq_true_eq, true_iff, iff_true, false_iff, iff_false, Bool.false_eq_true, Bool.and_eq_true, Bool.or_eq_true, beq_iff_eq, and_true, bne_iff_ne, ne_eq, Bool.not_eq_true']; omega)))
  · exact hs.elim
def s26 : Sp := fun vs H Q => match vs with
  | [.agg [.int .u32 a, .int .u32 b], .int .u32 x] => Q (.bool (decide (a ≤ b ∧ a ≤ x ∧ x ≤ b))) H false false
  | _ => False
theorem m26 : Mono s26 := by
  intro vs H Q Q' hQ h
  unfold s26 at h ⊢
  split at h
  all_goals first
    | exact h.elim
    | (repeat' (first | exact hQ _ _ _ _ h | refine And.imp_right (fun h => ?_) h | refine Exists.imp (fun _ h => ?_) h | (intro z; replace h := h z)))
theorem k26 : Snd Tryd.prog 1 26 s26 := by
  refine snd_of_ev (by kernel_rfl) (C := tab [(43, s43)]) (sndC_cons k43 (sndC_nil)) x26 n26 c26 30 ?_
  intro vs H Q hs
  unfold s26 at hs
  split at hs
  · skip
    have hq := hs; clear hs
    repeat' (conv => whnf
             first
             | (refine Stop.mk ?_)
             | (refine fI_gen ?_; intro z hz)
             | (refine fO_gen ?_; intro z hz)
             | (refine dec_true (by assumption) ?_)
             | (refine dec_false (by assumption) ?_)
             | (refine dec_split (fun h => ?_) (fun h => ?_))
             | (apply silE)
             | (exact And.intro rfl (And.intro rfl (And.intro rfl rfl)))
             | (refine And.intro (by first | omega | ((simp only [decide_eq_true_eq, decide_eq_false_iff_not, Bool.and_eq_true, beq_iff_eq, Bool.not_eq_true', Bool.not_eq_false'] at *); omega) | (subst_vars; simp only [Int.ofNat_eq_natCast, tq_not, fq_not, tq_and, fq_and, tq_or, fq_or, tq_beq, fq_beq, tq_bne, fq_bne, tq_dec, fq_dec, one1, V.tup.injEq, V.agg.injEq, List.cons.injEq, V.int.injEq, V.bool.injEq, true_and, and_true, decide_eq_true_eq, decide_eq_false_iff_not, Bool.and_eq_true, Bool.and_eq_false_iff, Bool.or_eq_true, Bool.or_eq_false_iff, Bool.not_eq_true', Bool.not_eq_false', beq_iff_eq, wrap_u32, wrap_i64, wrap_u8, beq_eq_false_iff_ne, ne_eq, bne_iff_ne, bne_eq_false_iff_eq, eq_self, and_self, splice, V.cells, List.take_succ_cons, List.take_zero, List.take_nil, List.drop_zero, List.drop_succ_cons, List.drop_nil, List.cons_append, List.nil_append, List.append_nil, List.length_cons, List.length_nil, Nat.zero_add, Nat.reduceAdd, if_true, if_false, Bool.false_eq_true, beq_self_eq_true, decide_eq_decide, Bool.true_eq_false, or_false, false_or, or_true, true_or, and_false, false_and, not_true_eq_false, not_false_eq_true, Bool.and_true, Bool.true_and, Bool.not_true, Bool.not_false] at *; omega)) ?_)
             | (refine Exists.intro _ (Exists.intro _ (And.intro rfl ?_)))
             | (refine Exists.intro _ (And.intro rfl ?_))
             | (refine Exists.intro _ (Exists.intro _ (Exists.intro _ (Exists.intro _ (And.intro rfl ?_)))))
             | (refine ld_step rfl (by assumption) rfl ?_)
             | (refine lds_step rfl (by assumption) rfl ?_)
             | (refine fL_mk ?_)
             | (refine fH_mk ?_)
             | (refine fN_mk ?_)
             | (refine fLB_mk ?_)
             | (refine And.intro (by first | assumption | exact GLB_app (by assumption) | exact GLB_app (GLB_app (by assumption))) ?_)
             | (refine ld_step rfl ((rd_x0 _ _ _ _ _).trans rfl) rfl ?_)
             | (refine ld_step rfl ((rd_x1 _ _ _ _ _ _).trans rfl) rfl ?_)
             | (refine drec_yes (by omega) ?_)
             | (refine drec_no (by omega) ?_)
             | (intro _)
             | fail)
    all_goals
      conv => whnf
      refine leafE hq ?_
      clear hq
      first
      | rfl
      | (subst_vars
         simp only [Int.ofNat_eq_natCast, tq_not, fq_not, tq_and, fq_and, tq_or, fq_or, tq_beq, fq_beq, tq_bne, fq_bne, tq_dec, fq_dec, one1, V.tup.injEq, V.agg.injEq, List.cons.injEq, V.int.injEq, V.bool.injEq, true_and, and_true, decide_eq_true_eq, decide_eq_false_iff_not, Bool.and_eq_true, Bool.and_eq_false_iff, Bool.or_eq_true, Bool.or_eq_false_iff, Bool.not_eq_true', Bool.not_eq_false', beq_iff_eq, wrap_u32, wrap_i64, wrap_u8, beq_eq_false_iff_ne, ne_eq, bne_iff_ne, bne_eq_false_iff_eq, eq_self, and_self, splice, V.cells, List.take_succ_cons, List.take_zero, List.take_nil, List.drop_zero, List.drop_succ_cons, List.drop_nil, List.cons_append, List.nil_append, List.append_nil, List.length_cons, List.length_nil, Nat.zero_add, Nat.reduceAdd, if_true, if_false, Bool.false_eq_true, beq_self_eq_true, decide_eq_decide, Bool.true_eq_false, or_false, false_or, or_true, true_or, and_false, false_and, not_true_eq_false, not_false_eq_true, Bool.and_true, Bool.true_and, Bool.not_true, Bool.not_false] at *
         skip
         repeat' (first | refine And.intro ?_ ?_ | (split <;> skip))
         all_goals (first | omega | (rw [Bool.eq_iff_iff]; simp only [decide_eq_true_eq, true_iff, iff_true, false_iff, iff_false, Bool.false_eq_true, Bool.and_eq_true, Bool.or_eq_true, beq_iff_eq, and_true, bne_iff_ne, ne_eq, Bool.not_eq_true']; omega)))
  · exact hs.elim
def s13 : Sp := fun vs H Q => match vs with
  | [.agg [.int .u32 a, .int .u32 b], .int .u32 x] => Q (.bool (decide (a ≤ b ∧ a ≤ x ∧ x ≤ b))) H false false
  | _ => False
theorem m13 : Mono s13 := by
  intro vs H Q Q' hQ h
  unfold s13 at h ⊢
  split at h
  all_goals first
    | exact h.elim
    | (repeat' (first | exact hQ _ _ _ _ h | refine And.imp_right (fun h => ?_) h | refine Exists.imp (fun _ h => ?_) h | (intro z; replace h := h z)))
theorem k13 : Snd Tryd.prog 1 13 s13 := by
  refine snd_of_ev (by kernel_rfl) (C := tab [(26, s26)]) (sndC_cons k26 (sndC_nil)) x13 n13 c13 30 ?_
  intro vs H Q hs
  unfold s13 at hs
  split at hs
  · skip
    have hq := hs; clear hs
    repeat' (conv => whnf
             first
             | (refine Stop.mk ?_)
             | (refine fI_gen ?_; intro z hz)
             | (refine fO_gen ?_; intro z hz)
             | (refine dec_true (by assumption) ?_)
             | (refine dec_false (by assumption) ?_)
             | (refine dec_split (fun h => ?_) (fun h => ?_))
             | (apply silE)
             | (exact And.intro rfl (And.intro rfl (And.intro rfl rfl)))
             | (refine And.intro (by first | omega | ((simp only [decide_eq_true_eq, decide_eq_false_iff_not, Bool.and_eq_true, beq_iff_eq, Bool.not_eq_true', Bool.not_eq_false'] at *); omega) | (subst_vars; simp only [Int.ofNat_eq_natCast, tq_not, fq_not, tq_and, fq_and, tq_or, fq_or, tq_beq, fq_beq, tq_bne, fq_bne, tq_dec, fq_dec, one1, V.tup.injEq, V.agg.injEq, List.cons.injEq, V.int.injEq, V.bool.injEq, true_and, and_true, decide_eq_true_eq, decide_eq_false_iff_not, Bool.and_eq_true, Bool.and_eq_false_iff, Bool.or_eq_true, Bool.or_eq_false_iff, Bool.not_eq_true', Bool.not_eq_false', beq_iff_eq, wrap_u32, wrap_i64, wrap_u8, beq_eq_false_iff_ne, ne_eq, bne_iff_ne, bne_eq_false_iff_eq, eq_self, and_self, splice, V.cells, List.take_succ_cons, List.take_zero, List.take_nil, List.drop_zero, List.drop_succ_cons, List.drop_nil, List.cons_append, List.nil_append, List.append_nil, List.length_cons, List.length_nil, Nat.zero_add, Nat.reduceAdd, if_true, if_false, Bool.false_eq_true, beq_self_eq_true, decide_eq_decide, Bool.true_eq_false, or_false, false_or, or_true, true_or, and_false, false_and, not_true_eq_false, not_false_eq_true, Bool.and_true, Bool.true_and, Bool.not_true, Bool.not_false] at *; omega)) ?_)
             | (refine Exists.intro _ (Exists.intro _ (And.intro rfl ?_)))
             | (refine Exists.intro _ (And.intro rfl ?_))
             | (refine Exists.intro _ (Exists.intro _ (Exists.intro _ (Exists.intro _ (And.intro rfl ?_)))))
             | (refine ld_step rfl (by assumption) rfl ?_)
             | (refine lds_step rfl (by assumption) rfl ?_)
             | (refine fL_mk ?_)
             | (refine fH_mk ?_)
             | (refine fN_mk ?_)
             | (refine fLB_mk ?_)
             | (refine And.intro (by first | assumption | exact GLB_app (by assumption) | exact GLB_app (GLB_app (by assumption))) ?_)
             | (refine ld_step rfl ((rd_x0 _ _ _ _ _).trans rfl) rfl ?_)
             | (refine ld_step rfl ((rd_x1 _ _ _ _ _ _).trans rfl) rfl ?_)
             | (refine drec_yes (by omega) ?_)
             | (refine drec_no (by omega) ?_)
             | (intro _)
             | fail)
    all_goals
      conv => whnf
      refine leafE hq ?_
      clear hq
      first
      | rfl
      | (subst_vars
         simp only [Int.ofNat_eq_natCast, tq_not, fq_not, tq_and, fq_and, tq_or, fq_or, tq_beq, fq_beq, tq_bne, fq_bne, tq_dec, fq_dec, one1, V.tup.injEq, V.agg.injEq, List.cons.injEq, V.int.injEq, V.bool.injEq, true_and, and_true, decide_eq_true_eq, decide_eq_false_iff_not, Bool.and_eq_true, Bool.and_eq_false_iff, Bool.or_eq_true, Bool.or_eq_false_iff, Bool.not_eq_true', Bool.not_eq_false', beq_iff_eq, wrap_u32, wrap_i64, wrap_u8, beq_eq_false_iff_ne, ne_eq, bne_iff_ne, bne_eq_false_iff_eq, eq_self, and_self, splice, V.cells, List.take_succ_cons, List.take_zero, List.take_nil, List.drop_zero, List.drop_succ_cons, List.drop_nil, List.cons_append, List.nil_append, List.append_nil, List.length_cons, List.length_nil, Nat.zero_add, Nat.reduceAdd, if_true, if_false, Bool.false_eq_true, beq_self_eq_true, decide_eq_decide, Bool.true_eq_false, or_false, false_or, or_true, true_or, and_false, false_and, not_true_eq_false, not_false_eq_true, Bool.and_true, Bool.true_and, Bool.not_true, Bool.not_false] at *
         skip
         repeat' (first | refine And.intro ?_ ?_ | (split <;> skip))
         all_goals (first | omega | (rw [Bool.eq_iff_iff]; simp only [decide_eq_true_eq, true_iff, iff_true, false_iff, iff_false, Bool.false_eq_true, Bool.and_eq_true, Bool.or_eq_true, beq_iff_eq, and_true, bne_iff_ne, ne_eq, Bool.not_eq_true']; omega)))
  · exact hs.elim
def s48 : Sp := fun vs H Q => match vs with
  | [.agg [.int .u32 a, .int .u32 b], .int .u32 x] => Q (.bool (decide (a ≤ b ∧ a ≤ x ∧ x ≤ b))) H false false
  | _ => False
theorem m48 : Mono s48 := by
  intro vs H Q Q' hQ h
  unfold s48 at h ⊢
  split at h
  all_goals first
    | exact h.elim
    | (repeat' (first | exact hQ _ _ _ _ h | refine And.imp_right (fun h => ?_) h | refine Exists.imp (fun _ h => ?_) h | (intro z; replace h := h z)))
theorem k48 : Snd Tryd.prog 1 48 s48 := by
  refine snd_of_ev (by kernel_rfl) (C := tab []) (sndC_nil) x48 n48 c48 30 ?_
  intro vs H Q hs
  unfold s48 at hs
  split at hs
  · skip
    have hq := hs; clear hs
    repeat' (conv => whnf
             first
             | (refine Stop.mk ?_)
             | (refine fI_gen ?_; intro z hz)
             | (refine fO_gen ?_; intro z hz)
             | (refine dec_true (by assumption) ?_)
             | (refine dec_false (by assumption) ?_)
             | (refine dec_split (fun h => ?_) (fun h => ?_))
             | (apply silE)
             | (exact And.intro rfl (And.intro rfl (And.intro rfl rfl)))
             | (refine And.intro (by first | omega | ((simp only [decide_eq_true_eq, decide_eq_false_iff_not, Bool.and_eq_true, beq_iff_eq, Bool.not_eq_true', Bool.not_eq_false'] at *); omega) | (subst_vars; simp only [Int.ofNat_eq_natCast, tq_not, fq_not, tq_and, fq_and, tq_or, fq_or, tq_beq, fq_beq, tq_bne, fq_bne, tq_dec, fq_dec, one1, V.tup.injEq, V.agg.injEq, List.cons.injEq, V.int.injEq, V.bool.injEq, true_and, and_true, decide_eq_true_eq, decide_eq_false_iff_not, Bool.and_eq_true, Bool.and_eq_false_iff, Bool.or_eq_true, Bool.or_eq_false_iff, Bool.not_eq_true', Bool.not_eq_false', beq_iff_eq, wrap_u32, wrap_i64, wrap_u8, beq_eq_false_iff_ne, ne_eq, bne_iff_ne, bne_eq_false_iff_eq, eq_self, and_self, splice, V.cells, List.take_succ_cons, List.take_zero, List.take_nil, List.drop_zero, List.drop_succ_cons, List.drop_nil, List.cons_append, List.nil_append, List.append_nil, List.length_cons, List.length_nil, Nat.zero_add, Nat.reduceAdd, if_true, if_false, Bool.false_eq_true, beq_self_eq_true, decide_eq_decide, Bool.true_eq_false, or_false, false_or, or_true, true_or, and_false, false_and, not_true_eq_false, not_false_eq_true, Bool.and_true, Bool.true_and, Bool.not_true, Bool.not_false] at *; omega)) ?_)
             | (refine Exists.intro _ (Exists.intro _ (And.intro rfl ?_)))
             | (refine Exists.intro _ (And.intro rfl ?_))
             | (refine Exists.intro _ (Exists.intro _ (Exists.intro _ (Exists.intro _ (And.intro rfl ?_)))))
             | (refine ld_step rfl (by assumption) rfl ?_)
             | (refine lds_step rfl (by assumption) rfl ?_)
             | (refine fL_mk ?_)
             | (refine fH_mk ?_)
             | (refine fN_mk ?_)
             | (refine fLB_mk ?_)
             | (refine And.intro (by first | assumption | exact GLB_app (by assumption) | exact GLB_app (GLB_app (by assumption))) ?_)
             | (refine ld_step rfl ((rd_x0 _ _ _ _ _).trans rfl) rfl ?_)
             | (refine ld_step rfl ((rd_x1 _ _ _ _ _ _).trans rfl) rfl ?_)
             | (refine drec_yes (by omega) ?_)
             | (refine drec_no (by omega) ?_)
             | (intro _)
             | fail)
    all_goals
      conv => whnf
      refine leafE hq ?_
      clear hq
      first
      | rfl
      | (subst_vars
         simp only [Int.ofNat_eq_natCast, tq_not, fq_not, tq_and, fq_and, tq_or, fq_or, tq_beq, fq_beq, tq_bne, fq_bne, tq_dec, fq_dec, one1, V.tup.injEq, V.agg.injEq, List.cons.injEq, V.int.injEq, V.bool.injEq, true_and, and_true, decide_eq_true_eq, decide_eq_false_iff_not, Bool.and_eq_true, Bool.and_eq_false_iff, Bool.or_eq_true, Bool.or_eq_false_iff, Bool.not_eq_true', Bool.not_eq_false', beq_iff_eq, wrap_u32, wrap_i64, wrap_u8, beq_eq_false_iff_ne, ne_eq, bne_iff_ne, bne_eq_false_iff_eq, eq_self, and_self, splice, V.cells, List.take_succ_cons, List.take_zero, List.take_nil, List.drop_zero, List.drop_succ_cons, List.drop_nil, List.cons_append, List.nil_append, List.append_nil, List.length_cons, List.length_nil, Nat.zero_add, Nat.reduceAdd, if_true, if_false, Bool.false_eq_true, beq_self_eq_true, decide_eq_decide, Bool.true_eq_false, or_false, false_or, or_true, true_or, and_false, false_and, not_true_eq_false, not_false_eq_true, Bool.and_true, Bool.true_and, Bool.not_true, Bool.not_false] at *
         skip
         repeat' (first | refine And.intro ?_ ?_ | (split <;> skip))
         all_goals (first | omega | (rw [Bool.eq_iff_iff]; simp only [decide_eq_true_eq, true_iff, iff_true, false_iff, iff_false, Bool.false_eq_true, Bool.and_eq_true, Bool.or_eq_true, beq_iff_eq, and_true, bne_iff_ne, ne_eq, Bool.not_eq_true']; omega)))
  · exact hs.elim
-- not here: reach.Size
-- not here: septumref02.Size
def s45 : Sp := fun vs H Q => match vs with
  | [.int .u32 a, .int .i64 n] => ((0 ≤ a ∧ a < 4294967296) ∧ (-9223372036854775808 ≤ n ∧ n < 9223372036854775808)) ∧ Q (.tup [.agg [.int .u32 (if 1 ≤ n ∧ n ≤ 4294967296 - a then a else 0), .int .u32 (if 1 ≤ n ∧ n ≤ 4294967296 - a then a + n - 1 else 0)], .bool (decide (1 ≤ n ∧ n ≤ 4294967296 - a))]) H false false
  | _ => False
theorem m45 : Mono s45 := by
  intro vs H Q Q' hQ h
  unfold s45 at h ⊢
  split at h
  all_goals first
    | exact h.elim
    | (repeat' (first | exact hQ _ _ _ _ h | refine And.imp_right (fun h => ?_) h | refine Exists.imp (fun _ h => ?_) h | (intro z; replace h := h z)))
theorem k45 : Snd Tryd.prog 1 45 s45 := by
  refine snd_of_ev (by kernel_rfl) (C := tab []) (sndC_nil) x45 n45 c45 30 ?_
  intro vs H Q hs
  unfold s45 at hs
  split at hs
  · rename_i a n
    obtain ⟨hp, hs⟩ := hs
    have hq := hs; clear hs
    have hx := xor_u32 a (by omega) (by omega)
    repeat' (conv => whnf
             first
             | (refine Stop.mk ?_)
             | (refine fI_gen ?_; intro z hz)
             | (refine fO_gen ?_; intro z hz)
             | (refine dec_true (by assumption) ?_)
             | (refine dec_false (by assumption) ?_)
             | (refine dec_split (fun h => ?_) (fun h => ?_))
             | (apply silE)
             | (exact And.intro rfl (And.intro rfl (And.intro rfl rfl)))
             | (refine And.intro (by first | omega | ((simp only [decide_eq_true_eq, decide_eq_false_iff_not, Bool.and_eq_true, beq_iff_eq, Bool.not_eq_true', Bool.not_eq_false'] at *); omega) | (subst_vars; simp only [Int.ofNat_eq_natCast, tq_not, fq_not, tq_and, fq_and, tq_or, fq_or, tq_beq, fq_beq, tq_bne, fq_bne, tq_dec, fq_dec, one1, V.tup.injEq, V.agg.injEq, List.cons.injEq, V.int.injEq, V.bool.injEq, true_and, and_true, decide_eq_true_eq, decide_eq_false_iff_not, Bool.and_eq_true, Bool.and_eq_false_iff, Bool.or_eq_true, Bool.or_eq_false_iff, Bool.not_eq_true', Bool.not_eq_false', beq_iff_eq, wrap_u32, wrap_i64, wrap_u8, beq_eq_false_iff_ne, ne_eq, bne_iff_ne, bne_eq_false_iff_eq, eq_self, and_self, splice, V.cells, List.take_succ_cons, List.take_zero, List.take_nil, List.drop_zero, List.drop_succ_cons, List.drop_nil, List.cons_append, List.nil_append, List.append_nil, List.length_cons, List.length_nil, Nat.zero_add, Nat.reduceAdd, if_true, if_false, Bool.false_eq_true, beq_self_eq_true, decide_eq_decide, Bool.true_eq_false, or_false, false_or, or_true, true_or, and_false, false_and, not_true_eq_false, not_false_eq_true, Bool.and_true, Bool.true_and, Bool.not_true, Bool.not_false] at *; omega)) ?_)
             | (refine Exists.intro _ (Exists.intro _ (And.intro rfl ?_)))
             | (refine Exists.intro _ (And.intro rfl ?_))
             | (refine Exists.intro _ (Exists.intro _ (Exists.intro _ (Exists.intro _ (And.intro rfl ?_)))))
             | (refine ld_step rfl (by assumption) rfl ?_)
             | (refine lds_step rfl (by assumption) rfl ?_)
             | (refine fL_mk ?_)
             | (refine fH_mk ?_)
             | (refine fN_mk ?_)
             | (refine fLB_mk ?_)
             | (refine And.intro (by first | assumption | exact GLB_app (by assumption) | exact GLB_app (GLB_app (by assumption))) ?_)
             | (refine ld_step rfl ((rd_x0 _ _ _ _ _).trans rfl) rfl ?_)
             | (refine ld_step rfl ((rd_x1 _ _ _ _ _ _).trans rfl) rfl ?_)
             | (refine drec_yes (by omega) ?_)
             | (refine drec_no (by omega) ?_)
             | (intro _)
             | fail)
    all_goals
      conv => whnf
      refine leafE hq ?_
      clear hq
      first
      | rfl
      | (subst_vars
         simp only [Int.ofNat_eq_natCast, tq_not, fq_not, tq_and, fq_and, tq_or, fq_or, tq_beq, fq_beq, tq_bne, fq_bne, tq_dec, fq_dec, one1, V.tup.injEq, V.agg.injEq, List.cons.injEq, V.int.injEq, V.bool.injEq, true_and, and_true, decide_eq_true_eq, decide_eq_false_iff_not, Bool.and_eq_true, Bool.and_eq_false_iff, Bool.or_eq_true, Bool.or_eq_false_iff, Bool.not_eq_true', Bool.not_eq_false', beq_iff_eq, wrap_u32, wrap_i64, wrap_u8, beq_eq_false_iff_ne, ne_eq, bne_iff_ne, bne_eq_false_iff_eq, eq_self, and_self, splice, V.cells, List.take_succ_cons, List.take_zero, List.take_nil, List.drop_zero, List.drop_succ_cons, List.drop_nil, List.cons_append, List.nil_append, List.append_nil, List.length_cons, List.length_nil, Nat.zero_add, Nat.reduceAdd, if_true, if_false, Bool.false_eq_true, beq_self_eq_true, decide_eq_decide, Bool.true_eq_false, or_false, false_or, or_true, true_or, and_false, false_and, not_true_eq_false, not_false_eq_true, Bool.and_true, Bool.true_and, Bool.not_true, Bool.not_false] at *
         (try simp only [hx] at *)
         repeat' (first | refine And.intro ?_ ?_ | (split <;> skip))
         all_goals (first | omega | (rw [Bool.eq_iff_iff]; simp only [decide_eq_true_eq, true_iff, iff_true, false_iff, iff_false, Bool.false_eq_true, Bool.and_eq_true, Bool.or_eq_true, beq_iff_eq, and_true, bne_iff_ne, ne_eq, Bool.not_eq_true']; omega)))
  · exact hs.elim
def s47 : Sp := fun vs H Q => match vs with
  | [.int .u32 a, .int .i64 n] => ((0 ≤ a ∧ a < 4294967296) ∧ (-9223372036854775808 ≤ n ∧ n < 9223372036854775808)) ∧ Q (.tup [.agg [.int .u32 (if 1 ≤ n ∧ n ≤ 4294967296 - a then a else 0), .int .u32 (if 1 ≤ n ∧ n ≤ 4294967296 - a then a + n - 1 else 0)], .bool (decide (1 ≤ n ∧ n ≤ 4294967296 - a))]) H false false
  | _ => False
theorem m47 : Mono s47 := by
  intro vs H Q Q' hQ h
  unfold s47 at h ⊢
  split at h
  all_goals first
    | exact h.elim
    | (repeat' (first | exact hQ _ _ _ _ h | refine And.imp_right (fun h => ?_) h | refine Exists.imp (fun _ h => ?_) h | (intro z; replace h := h z)))
theorem k47 : Snd Tryd.prog 1 47 s47 := by
  refine snd_of_ev (by kernel_rfl) (C := tab []) (sndC_nil) x47 n47 c47 30 ?_
  intro vs H Q hs
  unfold s47 at hs
  split at hs
  · skip
    obtain ⟨hp, hs⟩ := hs
    have hq := hs; clear hs
    repeat' (conv => whnf
             first
             | (refine Stop.mk ?_)
             | (refine fI_gen ?_; intro z hz)
             | (refine fO_gen ?_; intro z hz)
             | (refine dec_true (by assumption) ?_)
             | (refine dec_false (by assumption) ?_)
             | (refine dec_split (fun h => ?_) (fun h => ?_))
             | (apply silE)
             | (exact And.intro rfl (And.intro rfl (And.intro rfl rfl)))
             | (refine And.intro (by first | omega | ((simp only [decide_eq_true_eq, decide_eq_false_iff_not, Bool.and_eq_true, beq_iff_eq, Bool.not_eq_true', Bool.not_eq_false'] at *); omega) | (subst_vars; simp only [Int.ofNat_eq_natCast, tq_not, fq_not, tq_and, fq_and, tq_or, fq_or, tq_beq, fq_beq, tq_bne, fq_bne, tq_dec, fq_dec, one1, V.tup.injEq, V.agg.injEq, List.cons.injEq, V.int.injEq, V.bool.injEq, true_and, and_true, decide_eq_true_eq, decide_eq_false_iff_not, Bool.and_eq_true, Bool.and_eq_false_iff, Bool.or_eq_true, Bool.or_eq_false_iff, Bool.not_eq_true', Bool.not_eq_false', beq_iff_eq, wrap_u32, wrap_i64, wrap_u8, beq_eq_false_iff_ne, ne_eq, bne_iff_ne, bne_eq_false_iff_eq, eq_self, and_self, splice, V.cells, List.take_succ_cons, List.take_zero, List.take_nil, List.drop_zero, List.drop_succ_cons, List.drop_nil, List.cons_append, List.nil_append, List.append_nil, List.length_cons, List.length_nil, Nat.zero_add, Nat.reduceAdd, if_true, if_false, Bool.false_eq_true, beq_self_eq_true, decide_eq_decide, Bool.true_eq_false, or_false, false_or, or_true, true_or, and_false, false_and, not_true_eq_false, not_false_eq_true, Bool.and_true, Bool.true_and, Bool.not_true, Bool.not_false] at *; omega)) ?_)
             | (refine Exists.intro _ (Exists.intro _ (And.intro rfl ?_)))
             | (refine Exists.intro _ (And.intro rfl ?_))
             | (refine Exists.intro _ (Exists.intro _ (Exists.intro _ (Exists.intro _ (And.intro rfl ?_)))))
             | (refine ld_step rfl (by assumption) rfl ?_)
             | (refine lds_step rfl (by assumption) rfl ?_)
             | (refine fL_mk ?_)
             | (refine fH_mk ?_)
             | (refine fN_mk ?_)
             | (refine fLB_mk ?_)
             | (refine And.intro (by first | assumption | exact GLB_app (by assumption) | exact GLB_app (GLB_app (by assumption))) ?_)
             | (refine ld_step rfl ((rd_x0 _ _ _ _ _).trans rfl) rfl ?_)
             | (refine ld_step rfl ((rd_x1 _ _ _ _ _ _).trans rfl) rfl ?_)
             | (refine drec_yes (by omega) ?_)
             | (refine drec_no (by omega) ?_)
             | (intro _)
             | fail)
    all_goals
      conv => whnf
      refine leafE hq ?_
      clear hq
      first
      | rfl
      | (subst_vars
         simp only [Int.ofNat_eq_natCast, tq_not, fq_not, tq_and, fq_and, tq_or, fq_or, tq_beq, fq_beq, tq_bne, fq_bne, tq_dec, fq_dec, one1, V.tup.injEq, V.agg.injEq, List.cons.injEq, V.int.injEq, V.bool.injEq, true_and, and_true, decide_eq_true_eq, decide_eq_false_iff_not, Bool.and_eq_true, Bool.and_eq_false_iff, Bool.or_eq_true, Bool.or_eq_false_iff, Bool.not_eq_true', Bool.not_eq_false', beq_iff_eq, wrap_u32, wrap_i64, wrap_u8, beq_eq_false_iff_ne, ne_eq, bne_iff_ne, bne_eq_false_iff_eq, eq_self, and_self, splice, V.cells, List.take_succ_cons, List.take_zero, List.take_nil, List.drop_zero, List.drop_succ_cons, List.drop_nil, List.cons_append, List.nil_append, List.append_nil, List.length_cons, List.length_nil, Nat.zero_add, Nat.reduceAdd, if_true, if_false, Bool.false_eq_true, beq_self_eq_true, decide_eq_decide, Bool.true_eq_false, or_false, false_or, or_true, true_or, and_false, false_and, not_true_eq_false, not_false_eq_true, Bool.and_true, Bool.true_and, Bool.not_true, Bool.not_false] at *
         skip
         repeat' (first | refine And.intro ?_ ?_ | (split <;> skip))
         all_goals (first | omega | (rw [Bool.eq_iff_iff]; simp only [decide_eq_true_eq, true_iff, iff_true, false_iff, iff_false, Bool.false_eq_true, Bool.and_eq_true, Bool.or_eq_true, beq_iff_eq, and_true, bne_iff_ne, ne_eq, Bool.not_eq_true']; omega)))
  · exact hs.elim
def s50 : Sp := fun vs H Q => match vs with
  | [.agg [.int .u32 a, .int .u32 b], .agg [.int .u32 c, .int .u32 d]] => Q (.agg [.int .u32 (if a < c then c else a), .int .u32 (if d < b then d else b)]) H false false
  | _ => False
theorem m50 : Mono s50 := by
  intro vs H Q Q' hQ h
  unfold s50 at h ⊢
  split at h
  all_goals first
    | exact h.elim
    | (repeat' (first | exact hQ _ _ _ _ h | refine And.imp_right (fun h => ?_) h | refine Exists.imp (fun _ h => ?_) h | (intro z; replace h := h z)))
theorem k50 : Snd Tryd.prog 1 50 s50 := by
  refine snd_of_ev (by kernel_rfl) (C := tab []) (sndC_nil) x50 n50 c50 30 ?_
  intro vs H Q hs
  unfold s50 at hs
  split at hs
  · skip
    have hq := hs; clear hs
    repeat' (conv => whnf
             first
             | (refine Stop.mk ?_)
             | (refine fI_gen ?_; intro z hz)
             | (refine fO_gen ?_; intro z hz)
             | (refine dec_true (by assumption) ?_)
             | (refine dec_false (by assumption) ?_)
             | (refine dec_split (fun h => ?_) (fun h => ?_))
             | (apply silE)
             | (exact And.intro rfl (And.intro rfl (And.intro rfl rfl)))
             | (refine And.intro (by first | omega | ((simp only [decide_eq_true_eq, decide_eq_false_iff_not, Bool.and_eq_true, beq_iff_eq, Bool.not_eq_true', Bool.not_eq_false'] at *); omega) | (subst_vars; simp only [Int.ofNat_eq_natCast, tq_not, fq_not, tq_and, fq_and, tq_or, fq_or, tq_beq, fq_beq, tq_bne, fq_bne, tq_dec, fq_dec, one1, V.tup.injEq, V.agg.injEq, List.cons.injEq, V.int.injEq, V.bool.injEq, true_and, and_true, decide_eq_true_eq, decide_eq_false_iff_not, Bool.and_eq_true, Bool.and_eq_false_iff, Bool.or_eq_true, Bool.or_eq_false_iff, Bool.not_eq_true', Bool.not_eq_false', beq_iff_eq, wrap_u32, wrap_i64, wrap_u8, beq_eq_false_iff_ne, ne_eq, bne_iff_ne, bne_eq_false_iff_eq, eq_self, and_self, splice, V.cells, List.take_succ_cons, List.take_zero, List.take_nil, List.drop_zero, List.drop_succ_cons, List.drop_nil, List.cons_append, List.nil_append, List.append_nil, List.length_cons, List.length_nil, Nat.zero_add, Nat.reduceAdd, if_true, if_false, Bool.false_eq_true, beq_self_eq_true, decide_eq_decide, Bool.true_eq_false, or_false, false_or, or_true, true_or, and_false, false_and, not_true_eq_false, not_false_eq_true, Bool.and_true, Bool.true_and, Bool.not_true, Bool.not_false] at *; omega)) ?_)
             | (refine Exists.intro _ (Exists.intro _ (And.intro rfl ?_)))
             | (refine Exists.intro _ (And.intro rfl ?_))
             | (refine Exists.intro _ (Exists.intro _ (Exists.intro _ (Exists.intro _ (And.intro rfl ?_)))))
             | (refine ld_step rfl (by assumption) rfl ?_)
             | (refine lds_step rfl (by assumption) rfl ?_)
             | (refine fL_mk ?_)
             | (refine fH_mk ?_)
             | (refine fN_mk ?_)
             | (refine fLB_mk ?_)
             | (refine And.intro (by first | assumption | exact GLB_app (by assumption) | exact GLB_app (GLB_app (by assumption))) ?_)
             | (refine ld_step rfl ((rd_x0 _ _ _ _ _).trans rfl) rfl ?_)
             | (refine ld_step rfl ((rd_x1 _ _ _ _ _ _).trans rfl) rfl ?_)
             | (refine drec_yes (by omega) ?_)
             | (refine drec_no (by omega) ?_)
             | (intro _)
             | fail)
    all_goals
      conv => whnf
      refine leafE hq ?_
      clear hq
      first
      | rfl
      | (subst_vars
         simp only [Int.ofNat_eq_natCast, tq_not, fq_not, tq_and, fq_and, tq_or, fq_or, tq_beq, fq_beq, tq_bne, fq_bne, tq_dec, fq_dec, one1, V.tup.injEq, V.agg.injEq, List.cons.injEq, V.int.injEq, V.bool.injEq, true_and, and_true, decide_eq_true_eq, decide_eq_false_iff_not, Bool.and_eq_true, Bool.and_eq_false_iff, Bool.or_eq_true, Bool.or_eq_false_iff, Bool.not_eq_true', Bool.not_eq_false', beq_iff_eq, wrap_u32, wrap_i64, wrap_u8, beq_eq_false_iff_ne, ne_eq, bne_iff_ne, bne_eq_false_iff_eq, eq_self, and_self, splice, V.cells, List.take_succ_cons, List.take_zero, List.take_nil, List.drop_zero, List.drop_succ_cons, List.drop_nil, List.cons_append, List.nil_append, List.append_nil, List.length_cons, List.length_nil, Nat.zero_add, Nat.reduceAdd, if_true, if_false, Bool.false_eq_true, beq_self_eq_true, decide_eq_decide, Bool.true_eq_false, or_false, false_or, or_true, true_or, and_false, false_and, not_true_eq_false, not_false_eq_true, Bool.and_true, Bool.true_and, Bool.not_true, Bool.not_false] at *
         skip
         repeat' (first | refine And.intro ?_ ?_ | (split <;> skip))
         all_goals (first | omega | (rw [Bool.eq_iff_iff]; simp only [decide_eq_true_eq, true_iff, iff_true, false_iff, iff_false, Bool.false_eq_true, Bool.and_eq_true, Bool.or_eq_true, beq_iff_eq, and_true, bne_iff_ne, ne_eq, Bool.not_eq_true']; omega)))
  · exact hs.elim
def s37 : Sp := fun vs H Q => match vs with
  | [.agg [.int .u32 a, .int .u32 b], .agg [.int .u32 c, .int .u32 d]] => Q (.bool (decide (a ≤ b ∧ c ≤ d ∧ a ≤ d ∧ c ≤ b))) H false false
  | _ => False
theorem m37 : Mono s37 := by
  intro vs H Q Q' hQ h
  unfold s37 at h ⊢
  split at h
  all_goals first
    | exact h.elim
    | (repeat' (first | exact hQ _ _ _ _ h | refine And.imp_right (fun h => ?_) h | refine Exists.imp (fun _ h => ?_) h | (intro z; replace h := h z)))
theorem k37 : Snd Tryd.prog 1 37 s37 := by
  refine snd_of_ev (by kernel_rfl) (C := tab [(43, s43), (50, s50)]) (sndC_cons k43 (sndC_cons k50 (sndC_nil))) x37 n37 c37 30 ?_
  intro vs H Q hs
  unfold s37 at hs
  split at hs
  · skip
    have hq := hs; clear hs
    repeat' (conv => whnf
             first
             | (refine Stop.mk ?_)
             | (refine fI_gen ?_; intro z hz)
             | (refine fO_gen ?_; intro z hz)
             | (refine dec_true (by assumption) ?_)
             | (refine dec_false (by assumption) ?_)
             | (refine dec_split (fun h => ?_) (fun h => ?_))
             | (apply silE)
             | (exact And.intro rfl (And.intro rfl (And.intro rfl rfl)))
             | (refine And.intro (by first | omega | ((simp only [decide_eq_true_eq, decide_eq_false_iff_not, Bool.and_eq_true, beq_iff_eq, Bool.not_eq_true', Bool.not_eq_false'] at *); omega) | (subst_vars; simp only [Int.ofNat_eq_natCast, tq_not, fq_not, tq_and, fq_and, tq_or, fq_or, tq_beq, fq_beq, tq_bne, fq_bne, tq_dec, fq_dec, one1, V.tup.injEq, V.agg.injEq, List.cons.injEq, V.int.injEq, V.bool.injEq, true_and, and_true, decide_eq_true_eq, decide_eq_false_iff_not, Bool.and_eq_true, Bool.and_eq_false_iff, Bool.or_eq_true, Bool.or_eq_false_iff, Bool.not_eq_true', Bool.not_eq_false', beq_iff_eq, wrap_u32, wrap_i64, wrap_u8, beq_eq_false_iff_ne, ne_eq, bne_iff_ne, bne_eq_false_iff_eq, eq_self, and_self, splice, V.cells, List.take_succ_cons, List.take_zero, List.take_nil, List.drop_zero, List.drop_succ_cons, List.drop_nil, List.cons_append, List.nil_append, List.append_nil, List.length_cons, List.length_nil, Nat.zero_add, Nat.reduceAdd, if_true, if_false, Bool.false_eq_true, beq_self_eq_true, decide_eq_decide, Bool.true_eq_false, or_false, false_or, or_true, true_or, and_false, false_and, not_true_eq_false, not_false_eq_true, Bool.and_true, Bool.true_and, Bool.not_true, Bool.not_false] at *; omega)) ?_)
             | (refine Exists.intro _ (Exists.intro _ (And.intro rfl ?_)))
             | (refine Exists.intro _ (And.intro rfl ?_))
             | (refine Exists.intro _ (Exists.intro _ (Exists.intro _ (Exists.intro _ (And.intro rfl ?_)))))
             | (refine ld_step rfl (by assumption) rfl ?_)
             | (refine lds_step rfl (by assumption) rfl ?_)
             | (refine fL_mk ?_)
             | (refine fH_mk ?_)
             | (refine fN_mk ?_)
             | (refine fLB_mk ?_)
             | (refine And.intro (by first | assumption | exact GLB_app (by assumption) | exact GLB_app (GLB_app (by assumption))) ?_)
             | (refine ld_step rfl ((rd_x0 _ _ _ _ _).trans rfl) rfl ?_)
             | (refine ld_step rfl ((rd_x1 _ _ _ _ _ _).trans rfl) rfl ?_)
             | (refine drec_yes (by omega) ?_)
             | (refine drec_no (by omega) ?_)
             | (intro _)
             | fail)
    all_goals
      conv => whnf
      refine leafE hq ?_
      clear hq
      first
      | rfl
      | (subst_vars
         simp only [Int.ofNat_eq_natCast, tq_not, fq_not, tq_and, fq_and, tq_or, fq_or, tq_beq, fq_beq, tq_bne, fq_bne, tq_dec, fq_dec, one1, V.tup.injEq, V.agg.injEq, List.cons.injEq, V.int.injEq, V.bool.injEq, true_and, and_true, decide_eq_true_eq, decide_eq_false_iff_not, Bool.and_eq_true, Bool.and_eq_false_iff, Bool.or_eq_true, Bool.or_eq_false_iff, Bool.not_eq_true', Bool.not_eq_false', beq_iff_eq, wrap_u32, wrap_i64, wrap_u8, beq_eq_false_iff_ne, ne_eq, bne_iff_ne, bne_eq_false_iff_eq, eq_self, and_self, splice, V.cells, List.take_succ_cons, List.take_zero, List.take_nil, List.drop_zero, List.drop_succ_cons, List.drop_nil, List.cons_append, List.nil_append, List.append_nil, List.length_cons, List.length_nil, Nat.zero_add, Nat.reduceAdd, if_true, if_false, Bool.false_eq_true, beq_self_eq_true, decide_eq_decide, Bool.true_eq_false, or_false, false_or, or_true, true_or, and_false, false_and, not_true_eq_false, not_false_eq_true, Bool.and_true, Bool.true_and, Bool.not_true, Bool.not_false] at *
         skip
         repeat' (first | refine And.intro ?_ ?_ | (split <;> skip))
         all_goals (first | omega | (rw [Bool.eq_iff_iff]; simp only [decide_eq_true_eq, true_iff, iff_true, false_iff, iff_false, Bool.false_eq_true, Bool.and_eq_true, Bool.or_eq_true, beq_iff_eq, and_true, bne_iff_ne, ne_eq, Bool.not_eq_true']; omega)))
  · exact hs.elim
def s29 : Sp := fun vs H Q => match vs with
  | [.agg [.int .u32 a, .int .u32 b], .agg [.int .u32 c, .int .u32 d]] => Q (.bool (decide (a ≤ b ∧ c ≤ d ∧ c ≤ a ∧ a ≤ d ∧ c ≤ b ∧ b ≤ d))) H false false
  | _ => False
theorem m29 : Mono s29 := by
  intro vs H Q Q' hQ h
  unfold s29 at h ⊢
  split at h
  all_goals first
    | exact h.elim
    | (repeat' (first | exact hQ _ _ _ _ h | refine And.imp_right (fun h => ?_) h | refine Exists.imp (fun _ h => ?_) h | (intro z; replace h := h z)))
theorem k29 : Snd Tryd.prog 1 29 s29 := by
  refine snd_of_ev (by kernel_rfl) (C := tab [(26, s26), (43, s43)]) (sndC_cons k26 (sndC_cons k43 (sndC_nil))) x29 n29 c29 30 ?_
  intro vs H Q hs
  unfold s29 at hs
  split at hs
  · skip
    have hq := hs; clear hs
    repeat' (conv => whnf
             first
             | (refine Stop.mk ?_)
             | (refine fI_gen ?_; intro z hz)
             | (refine fO_gen ?_; intro z hz)
             | (refine dec_true (by assumption) ?_)
             | (refine dec_false (by assumption) ?_)
             | (refine dec_split (fun h => ?_) (fun h => ?_))
             | (apply silE)
             | (exact And.intro rfl (And.intro rfl (And.intro rfl rfl)))
             | (refine And.intro (by first | omega | ((simp only [decide_eq_true_eq, decide_eq_false_iff_not, Bool.and_eq_true, beq_iff_eq, Bool.not_eq_true', Bool.not_eq_false'] at *); omega) | (subst_vars; simp only [Int.ofNat_eq_natCast, tq_not, fq_not, tq_and, fq_and, tq_or, fq_or, tq_beq, fq_beq, tq_bne, fq_bne, tq_dec, fq_dec, one1, V.tup.injEq, V.agg.injEq, List.cons.injEq, V.int.injEq, V.bool.injEq, true_and, and_true, decide_eq_true_eq, decide_eq_false_iff_not, Bool.and_eq_true, Bool.and_eq_false_iff, Bool.or_eq_true, Bool.or_eq_false_iff, Bool.not_eq_true', Bool.not_eq_false', beq_iff_eq, wrap_u32, wrap_i64, wrap_u8, beq_eq_false_iff_ne, ne_eq, bne_iff_ne, bne_eq_false_iff_eq, eq_self, and_self, splice, V.cells, List.take_succ_cons, List.take_zero, List.take_nil, List.drop_zero, List.drop_succ_cons, List.drop_nil, List.cons_append, List.nil_append, List.append_nil, List.length_cons, List.length_nil, Nat.zero_add, Nat.reduceAdd, if_true, if_false, Bool.false_eq_true, beq_self_eq_true, decide_eq_decide, Bool.true_eq_false, or_false, false_or, or_true, true_or, and_false, false_and, not_true_eq_false, not_false_eq_true, Bool.and_true, Bool.true_and, Bool.not_true, Bool.not_false] at *; omega)) ?_)
             | (refine Exists.intro _ (Exists.intro _ (And.intro rfl ?_)))
             | (refine Exists.intro _ (And.intro rfl ?_))
             | (refine Exists.intro _ (Exists.intro _ (Exists.intro _ (Exists.intro _ (And.intro rfl ?_)))))
             | (refine ld_step rfl (by assumption) rfl ?_)
             | (refine lds_step rfl (by assumption) rfl ?_)
             | (refine fL_mk ?_)
             | (refine fH_mk ?_)
             | (refine fN_mk ?_)
             | (refine fLB_mk ?_)
             | (refine And.intro (by first | assumption | exact GLB_app (by assumption) | exact GLB_app (GLB_app (by assumption))) ?_)
             | (refine ld_step rfl ((rd_x0 _ _ _ _ _).trans rfl) rfl ?_)
             | (refine ld_step rfl ((rd_x1 _ _ _ _ _ _).trans rfl) rfl ?_)
             | (refine drec_yes (by omega) ?_)
             | (refine drec_no (by omega) ?_)
             | (intro _)
             | fail)
    all_goals
      conv => whnf
      refine leafE hq ?_
      clear hq
      first
      | rfl
      | (subst_vars
         simp only [Int.ofNat_eq_natCast, tq_not, fq_not, tq_and, fq_and, tq_or, fq_or, tq_beq, fq_beq, tq_bne, fq_bne, tq_dec, fq_dec, one1, V.tup.injEq, V.agg.injEq, List.cons.injEq, V.int.injEq, V.bool.injEq, true_and, and_true, decide_eq_true_eq, decide_eq_false_iff_not, Bool.and_eq_true, Bool.and_eq_false_iff, Bool.or_eq_true, Bool.or_eq_false_iff, Bool.not_eq_true', Bool.not_eq_false', beq_iff_eq, wrap_u32, wrap_i64, wrap_u8, beq_eq_false_iff_ne, ne_eq, bne_iff_ne, bne_eq_false_iff_eq, eq_self, and_self, splice, V.cells, List.take_succ_cons, List.take_zero, List.take_nil, List.drop_zero, List.drop_succ_cons, List.drop_nil, List.cons_append, List.nil_append, List.append_nil, List.length_cons, List.length_nil, Nat.zero_add, Nat.reduceAdd, if_true, if_false, Bool.false_eq_true, beq_self_eq_true, decide_eq_decide, Bool.true_eq_false, or_false, false_or, or_true, true_or, and_false, false_and, not_true_eq_false, not_false_eq_true, Bool.and_true, Bool.true_and, Bool.not_true, Bool.not_false] at *
         skip
         repeat' (first | refine And.intro ?_ ?_ | (split <;> skip))
         all_goals (first | omega | (rw [Bool.eq_iff_iff]; simp only [decide_eq_true_eq, true_iff, iff_true, false_iff, iff_false, Bool.false_eq_true, Bool.and_eq_true, Bool.or_eq_true, beq_iff_eq, and_true, bne_iff_ne, ne_eq, Bool.not_eq_true']; omega)))
  · exact hs.elim
def s28 : Sp := evFun (tab [(37, s37), (29, s29)]) 30 e28
theorem m28 : Mono s28 := evFun_mono (monoC_cons m37 (monoC_cons m29 (monoC_nil))) _ _
theorem k28 : Snd Tryd.prog 1 28 s28 := snd_of_ev (by kernel_rfl) (C := tab [(37, s37), (29, s29)]) (sndC_cons k37 (sndC_cons k29 (sndC_nil))) x28 n28 c28 30 (fun _ _ _ h => h)
def s16 : Sp := fun vs H Q => match vs with
  | [.agg [.int .u32 a, .int .u32 b], .agg [.int .u32 c, .int .u32 d]] => Q (.bool (decide (a ≤ b ∧ c ≤ d ∧ c ≤ a ∧ a ≤ d ∧ c ≤ b ∧ b ≤ d))) H false false
  | _ => False
theorem m16 : Mono s16 := by
  intro vs H Q Q' hQ h
  unfold s16 at h ⊢
  split at h
  all_goals first
    | exact h.elim
    | (repeat' (first | exact hQ _ _ _ _ h | refine And.imp_right (fun h => ?_) h | refine Exists.imp (fun _ h => ?_) h | (intro z; replace h := h z)))
theorem k16 : Snd Tryd.prog 1 16 s16 := by
  refine snd_of_ev (by kernel_rfl) (C := tab [(28, s28), (29, s29)]) (sndC_cons k28 (sndC_cons k29 (sndC_nil))) x16 n16 c16 30 ?_
  intro vs H Q hs
  unfold s16 at hs
  split at hs
  · skip
    have hq := hs; clear hs
    repeat' (conv => whnf
             first
             | (refine Stop.mk ?_)
             | (refine fI_gen ?_; intro z hz)
             | (refine fO_gen ?_; intro z hz)
             | (refine dec_true (by assumption) ?_)
             | (refine dec_false (by assumption) ?_)
             | (refine dec_split (fun h => ?_) (fun h => ?_))
             | (apply silE)
             | (exact And.intro rfl (And.intro rfl (And.intro rfl rfl)))
             | (refine And.intro (by first | omega | ((simp only [decide_eq_true_eq, decide_eq_false_iff_not, Bool.and_eq_true, beq_iff_eq, Bool.not_eq_true', Bool.not_eq_false'] at *); omega) | (subst_vars; simp only [Int.ofNat_eq_natCast, tq_not, fq_not, tq_and, fq_and, tq_or, fq_or, tq_beq, fq_beq, tq_bne, fq_bne, tq_dec, fq_dec, one1, V.tup.injEq, V.agg.injEq, List.cons.injEq, V.int.injEq, V.bool.injEq, true_and, and_true, decide_eq_true_eq, decide_eq_false_iff_not, Bool.and_eq_true, Bool.and_eq_false_iff, Bool.or_eq_true, Bool.or_eq_false_iff, Bool.not_eq_true', Bool.not_eq_false', beq_iff_eq, wrap_u32, wrap_i64, wrap_u8, beq_eq_false_iff_ne, ne_eq, bne_iff_ne, bne_eq_false_iff_eq, eq_self, and_self, splice, V.cells, List.take_succ_cons, List.take_zero, List.take_nil, List.drop_zero, List.drop_succ_cons, List.drop_nil, List.cons_append, List.nil_append, List.append_nil, List.length_cons, List.length_nil, Nat.zero_add, Nat.reduceAdd, if_true, if_false, Bool.false_eq_true, beq_self_eq_true, decide_eq_decide, Bool.true_eq_false, or_false, false_or, or_true, true_or, and_false, false_and, not_true_eq_false, not_false_eq_true, Bool.and_true, Bool.true_and, Bool.not_true, Bool.not_false] at *; omega)) ?_)
             | (refine Exists.intro _ (Exists.intro _ (And.intro rfl ?_)))
             | (refine Exists.intro _ (And.intro rfl ?_))
             | (refine Exists.intro _ (Exists.intro _ (Exists.intro _ (Exists.intro _ (And.intro rfl ?_)))))
             | (refine ld_step rfl (by assumption) rfl ?_)
             | (refine lds_step rfl (by assumption) rfl ?_)
             | (refine fL_mk ?_)
             | (refine fH_mk ?_)
             | (refine fN_mk ?_)
             | (refine fLB_mk ?_)
             | (refine And.intro (by first | assumption | exact GLB_app (by assumption) | exact GLB_app (GLB_app (by assumption))) ?_)
             | (refine ld_step rfl ((rd_x0 _ _ _ _ _).trans rfl) rfl ?_)
             | (refine ld_step rfl ((rd_x1 _ _ _ _ _ _).trans rfl) rfl ?_)
             | (refine drec_yes (by omega) ?_)
             | (refine drec_no (by omega) ?_)
             | (intro _)
             | fail)
    all_goals
      conv => whnf
      refine leafE hq ?_
      clear hq
      first
      | rfl
      | (subst_vars
         simp only [Int.ofNat_eq_natCast, tq_not, fq_not, tq_and, fq_and, tq_or, fq_or, tq_beq, fq_beq, tq_bne, fq_bne, tq_dec, fq_dec, one1, V.tup.injEq, V.agg.injEq, List.cons.injEq, V.int.injEq, V.bool.injEq, true_and, and_true, decide_eq_true_eq, decide_eq_false_iff_not, Bool.and_eq_true, Bool.and_eq_false_iff, Bool.or_eq_true, Bool.or_eq_false_iff, Bool.not_eq_true', Bool.not_eq_false', beq_iff_eq, wrap_u32, wrap_i64, wrap_u8, beq_eq_false_iff_ne, ne_eq, bne_iff_ne, bne_eq_false_iff_eq, eq_self, and_self, splice, V.cells, List.take_succ_cons, List.take_zero, List.take_nil, List.drop_zero, List.drop_succ_cons, List.drop_nil, List.cons_append, List.nil_append, List.append_nil, List.length_cons, List.length_nil, Nat.zero_add, Nat.reduceAdd, if_true, if_false, Bool.false_eq_true, beq_self_eq_true, decide_eq_decide, Bool.true_eq_false, or_false, false_or, or_true, true_or, and_false, false_and, not_true_eq_false, not_false_eq_true, Bool.and_true, Bool.true_and, Bool.not_true, Bool.not_false] at *
         skip
         repeat' (first | refine And.intro ?_ ?_ | (split <;> skip))
         all_goals (first | omega | (rw [Bool.eq_iff_iff]; simp only [decide_eq_true_eq, true_iff, iff_true, false_iff, iff_false, Bool.false_eq_true, Bool.and_eq_true, Bool.or_eq_true, beq_iff_eq, and_true, bne_iff_ne, ne_eq, Bool.not_eq_true']; omega)))
  · exact hs.elim
def s32 : Sp := fun vs H Q => match vs with
  | [.agg [.int .u32 a, .int .u32 b], .agg [.int .u32 c, .int .u32 d]] => Q (.bool (decide (a ≤ b ∧ c ≤ d ∧ c ≤ a ∧ a ≤ d ∧ c ≤ b ∧ b ≤ d))) H false false
  | _ => False
theorem m32 : Mono s32 := by
  intro vs H Q Q' hQ h
  unfold s32 at h ⊢
  split at h
  all_goals first
    | exact h.elim
    | (repeat' (first | exact hQ _ _ _ _ h | refine And.imp_right (fun h => ?_) h | refine Exists.imp (fun _ h => ?_) h | (intro z; replace h := h z)))
theorem k32 : Snd Tryd.prog 1 32 s32 := by
  refine snd_of_ev (by kernel_rfl) (C := tab [(30, s30), (48, s48)]) (sndC_cons k30 (sndC_cons k48 (sndC_nil))) x32 n32 c32 30 ?_
  intro vs H Q hs
  unfold s32 at hs
  split at hs
  · skip
    have hq := hs; clear hs
    repeat' (conv => whnf
             first
             | (refine Stop.mk ?_)
             | (refine fI_gen ?_; intro z hz)
             | (refine fO_gen ?_; intro z hz)
             | (refine dec_true (by assumption) ?_)
             | (refine dec_false (by assumption) ?_)
             | (refine dec_split (fun h => ?_) (fun h => ?_))
             | (apply silE)
             | (exact And.intro rfl (And.intro rfl (And.intro rfl rfl)))
             | (refine And.intro (by first | omega | ((simp only [decide_eq_true_eq, decide_eq_false_iff_not, Bool.and_eq_true, beq_iff_eq, Bool.not_eq_true', Bool.not_eq_false'] at *); omega) | (subst_vars; simp only [Int.ofNat_eq_natCast, tq_not, fq_not, tq_and, fq_and, tq_or, fq_or, tq_beq, fq_beq, tq_bne, fq_bne, tq_dec, fq_dec, one1, V.tup.injEq, V.agg.injEq, List.cons.injEq, V.int.injEq, V.bool.injEq, true_and, and_true, decide_eq_true_eq, decide_eq_false_iff_not, Bool.and_eq_true, Bool.and_eq_false_iff, Bool.or_eq_true, Bool.or_eq_false_iff, Bool.not_eq_true', Bool.not_eq_false', beq_iff_eq, wrap_u32, wrap_i64, wrap_u8, beq_eq_false_iff_ne, ne_eq, bne_iff_ne, bne_eq_false_iff_eq, eq_self, and_self, splice, V.cells, List.take_succ_cons, List.take_zero, List.take_nil, List.drop_zero, List.drop_succ_cons, List.drop_nil, List.cons_append, List.nil_append, List.append_nil, List.length_cons, List.length_nil, Nat.zero_add, Nat.reduceAdd, if_true, if_false, Bool.false_eq_true, beq_self_eq_true, decide_eq_decide, Bool.true_eq_false, or_false, false_or, or_true, true_or, and_false, false_and, not_true_eq_false, not_false_eq_true, Bool.and_true, Bool.true_and, Bool.not_true, Bool.not_false] at *; omega)) ?_)
             | (refine Exists.intro _ (Exists.intro _ (And.intro rfl ?_)))
             | (refine Exists.intro _ (And.intro rfl ?_))
             | (refine Exists.intro _ (Exists.intro _ (Exists.intro _ (Exists.intro _ (And.intro rfl ?_)))))
             | (refine ld_step rfl (by assumption) rfl ?_)
             | (refine lds_step rfl (by assumption) rfl ?_)
             | (refine fL_mk ?_)
             | (refine fH_mk ?_)
             | (refine fN_mk ?_)
             | (refine fLB_mk ?_)
             | (refine And.intro (by first | assumption | exact GLB_app (by assumption) | exact GLB_app (GLB_app (by assumption))) ?_)
             | (refine ld_step rfl ((rd_x0 _ _ _ _ _).trans rfl) rfl ?_)
             | (refine ld_step rfl ((rd_x1 _ _ _ _ _ _).trans rfl) rfl ?_)
             | (refine drec_yes (by omega) ?_)
             | (refine drec_no (by omega) ?_)
             | (intro _)
             | fail)
    all_goals
      conv => whnf
      refine leafE hq ?_
      clear hq
      first
      | rfl
      | (subst_vars
         simp only [Int.ofNat_eq_natCast, tq_not, fq_not, tq_and, fq_and, tq_or, fq_or, tq_beq, fq_beq, tq_bne, fq_bne, tq_dec, fq_dec, one1, V.tup.injEq, V.agg.injEq, List.cons.injEq, V.int.injEq, V.bool.injEq, true_and, and_true, decide_eq_true_eq, decide_eq_false_iff_not, Bool.and_eq_true, Bool.and_eq_false_iff, Bool.or_eq_true, Bool.or_eq_false_iff, Bool.not_eq_true', Bool.not_eq_false', beq_iff_eq, wrap_u32, wrap_i64, wrap_u8, beq_eq_false_iff_ne, ne_eq, bne_iff_ne, bne_eq_false_iff_eq, eq_self, and_self, splice, V.cells, List.take_succ_cons, List.take_zero, List.take_nil, List.drop_zero, List.drop_succ_cons, List.drop_nil, List.cons_append, List.nil_append, List.append_nil, List.length_cons, List.length_nil, Nat.zero_add, Nat.reduceAdd, if_true, if_false, Bool.false_eq_true, beq_self_eq_true, decide_eq_decide, Bool.true_eq_false, or_false, false_or, or_true, true_or, and_false, false_and, not_true_eq_false, not_false_eq_true, Bool.and_true, Bool.true_and, Bool.not_true, Bool.not_false] at *
         skip
         repeat' (first | refine And.intro ?_ ?_ | (split <;> skip))
         all_goals (first | omega | (rw [Bool.eq_iff_iff]; simp only [decide_eq_true_eq, true_iff, iff_true, false_iff, iff_false, Bool.false_eq_true, Bool.and_eq_true, Bool.or_eq_true, beq_iff_eq, and_true, bne_iff_ne, ne_eq, Bool.not_eq_true']; omega)))
  · exact hs.elim
-- not here: reach.Meet
def s33 : Sp := fun vs H Q => match vs with
  | [.agg [.int .u32 a, .int .u32 b], .agg [.int .u32 c, .int .u32 d]] => Q (.tup [.agg [.int .u32 (if a ≤ b ∧ c ≤ d ∧ a ≤ d ∧ c ≤ b then (if a < c then c else a) else 0), .int .u32 (if a ≤ b ∧ c ≤ d ∧ a ≤ d ∧ c ≤ b then (if d < b then d else b) else 0)], .bool (decide (a ≤ b ∧ c ≤ d ∧ a ≤ d ∧ c ≤ b))]) H false false
  | _ => False
theorem m33 : Mono s33 := by
  intro vs H Q Q' hQ h
  unfold s33 at h ⊢
  split at h
  all_goals first
    | exact h.elim
    | (repeat' (first | exact hQ _ _ _ _ h | refine And.imp_right (fun h => ?_) h | refine Exists.imp (fun _ h => ?_) h | (intro z; replace h := h z)))
theorem k33 : Snd Tryd.prog 1 33 s33 := by
  refine snd_of_ev (by kernel_rfl) (C := tab [(30, s30)]) (sndC_cons k30 (sndC_nil)) x33 n33 c33 30 ?_
  intro vs H Q hs
  unfold s33 at hs
  split at hs
  · skip
    have hq := hs; clear hs
    repeat' (conv => whnf
             first
             | (refine Stop.mk ?_)
             | (refine fI_gen ?_; intro z hz)
             | (refine fO_gen ?_; intro z hz)
             | (refine dec_true (by assumption) ?_)
             | (refine dec_false (by assumption) ?_)
             | (refine dec_split (fun h => ?_) (fun h => ?_))
             | (apply silE)
             | (exact And.intro rfl (And.intro rfl (And.intro rfl rfl)))
             | (refine And.intro (by first | omega | ((simp only [decide_eq_true_eq, decide_eq_false_iff_not, Bool.and_eq_true, beq_iff_eq, Bool.not_eq_true', Bool.not_eq_false'] at *); omega) | (subst_vars; simp only [Int.ofNat_eq_natCast, tq_not, fq_not, tq_and, fq_and, tq_or, fq_or, tq_beq, fq_beq, tq_bne, fq_bne, tq_dec, fq_dec, one1, V.tup.injEq, V.agg.injEq, List.cons.injEq, V.int.injEq, V.bool.injEq, true_and, and_true, decide_eq_true_eq, decide_eq_false_iff_not, Bool.and_eq_true, Bool.and_eq_false_iff, Bool.or_eq_true, Bool.or_eq_false_iff, Bool.not_eq_true', Bool.not_eq_false', beq_iff_eq, wrap_u32, wrap_i64, wrap_u8, beq_eq_false_iff_ne, ne_eq, bne_iff_ne, bne_eq_false_iff_eq, eq_self, and_self, splice, V.cells, List.take_succ_cons, List.take_zero, List.take_nil, List.drop_zero, List.drop_succ_cons, List.drop_nil, List.cons_append, List.nil_append, List.append_nil, List.length_cons, List.length_nil, Nat.zero_add, Nat.reduceAdd, if_true, if_false, Bool.false_eq_true, beq_self_eq_true, decide_eq_decide, Bool.true_eq_false, or_false, false_or, or_true, true_or, and_false, false_and, not_true_eq_false, not_false_eq_true, Bool.and_true, Bool.true_and, Bool.not_true, Bool.not_false] at *; omega)) ?_)
             | (refine Exists.intro _ (Exists.intro _ (And.intro rfl ?_)))
             | (refine Exists.intro _ (And.intro rfl ?_))
             | (refine Exists.intro _ (Exists.intro _ (Exists.intro _ (Exists.intro _ (And.intro rfl ?_)))))
             | (refine ld_step rfl (by assumption) rfl ?_)
             | (refine lds_step rfl (by assumption) rfl ?_)
             | (refine fL_mk ?_)
             | (refine fH_mk ?_)
             | (refine fN_mk ?_)
             | (refine fLB_mk ?_)
             | (refine And.intro (by first | assumption | exact GLB_app (by assumption) | exact GLB_app (GLB_app (by assumption))) ?_)
             | (refine ld_step rfl ((rd_x0 _ _ _ _ _).trans rfl) rfl ?_)
             | (refine ld_step rfl ((rd_x1 _ _ _ _ _ _).trans rfl) rfl ?_)
             | (refine drec_yes (by omega) ?_)
             | (refine drec_no (by omega) ?_)
             | (intro _)
             | fail)
    all_goals
      conv => whnf
      refine leafE hq ?_
      clear hq
      first
      | rfl
      | (subst_vars
         simp only [Int.ofNat_eq_natCast, tq_not, fq_not, tq_and, fq_and, tq_or, fq_or, tq_beq, fq_beq, tq_bne, fq_bne, tq_dec, fq_dec, one1, V.tup.injEq, V.agg.injEq, List.cons.injEq, V.int.injEq, V.bool.injEq, true_and, and_true, decide_eq_true_eq, decide_eq_false_iff_not, Bool.and_eq_true, Bool.and_eq_false_iff, Bool.or_eq_true, Bool.or_eq_false_iff, Bool.not_eq_true', Bool.not_eq_false', beq_iff_eq, wrap_u32, wrap_i64, wrap_u8, beq_eq_false_iff_ne, ne_eq, bne_iff_ne, bne_eq_false_iff_eq, eq_self, and_self, splice, V.cells, List.take_succ_cons, List.take_zero, List.take_nil, List.drop_zero, List.drop_succ_cons, List.drop_nil, List.cons_append, List.nil_append, List.append_nil, List.length_cons, List.length_nil, Nat.zero_add, Nat.reduceAdd, if_true, if_false, Bool.false_eq_true, beq_self_eq_true, decide_eq_decide, Bool.true_eq_false, or_false, false_or, or_true, true_or, and_false, false_and, not_true_eq_false, not_false_eq_true, Bool.and_true, Bool.true_and, Bool.not_true, Bool.not_false] at *
         skip
         repeat' (first | refine And.intro ?_ ?_ | (split <;> skip))
         all_goals (first | omega | (rw [Bool.eq_iff_iff]; simp only [decide_eq_true_eq, true_iff, iff_true, false_iff, iff_false, Bool.false_eq_true, Bool.and_eq_true, Bool.or_eq_true, beq_iff_eq, and_true, bne_iff_ne, ne_eq, Bool.not_eq_true']; omega)))
  · exact hs.elim
-- not here: reach.Less
-- not here: septumref02.Less
end Go.Ev
