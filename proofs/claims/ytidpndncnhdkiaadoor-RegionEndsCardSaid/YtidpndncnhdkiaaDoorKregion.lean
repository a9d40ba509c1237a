/- dev: region, septumref06 -/
import Derived.Test.YtidpndncnhdkiaaDoorKaccess
import Derived.Test.YtidpndncnhdkiaaDoorKapart
set_option linter.all false
namespace Go.Ev
open Go Go.Proofs
set_option maxRecDepth 4000
set_option maxHeartbeats 4000000
/-- a right region that is On -/
def regO (on : Bool) (w f t rk : Int) : Prop := on = true ∧ (0 ≤ w ∧ w < 8) ∧ f ≤ t ∧ 0 ≤ rk ∧ rk ≤ 255
instance (on : Bool) (w f t rk : Int) : Decidable (regO on w f t rk) := by unfold regO; exact inferInstance
/-- none -/
def regZ (on : Bool) (w f t : Int) (rr rw : Bool) (rk : Int) (lk : Bool) : Prop := on = false ∧ w = 0 ∧ f = 0 ∧ t = 0 ∧ rr = false ∧ rw = false ∧ rk = 0 ∧ lk = false
instance (on : Bool) (w f t : Int) (rr rw : Bool) (rk : Int) (lk : Bool) : Decidable (regZ on w f t rr rw rk lk) := by unfold regZ; exact inferInstance
/-- a region has an access -/
def hasP (on : Bool) (w f t rk : Int) (aw : Int) (awr : Bool) (aa an ad : Int) : Prop := regO on w f t rk ∧ accP aw awr aa an ad ∧ aw = w ∧ f ≤ aa ∧ aa + an - 1 ≤ t
instance (on : Bool) (w f t rk : Int) (aw : Int) (awr : Bool) (aa an ad : Int) : Decidable (hasP on w f t rk aw awr aa an ad) := by unfold hasP; exact inferInstance
def letP (awr rr rw : Bool) : Prop := if awr = true then rw = true else rr = true
instance (awr rr rw : Bool) : Decidable (letP awr rr rw) := by unfold letP; exact inferInstance
def clashP (on : Bool) (w f t rk : Int) (on2 : Bool) (w2 f2 t2 rk2 : Int) : Prop := regO on w f t rk ∧ regO on2 w2 f2 t2 rk2 ∧ w ≠ w2 ∧ f ≤ t2 ∧ f2 ≤ t
instance (on : Bool) (w f t rk : Int) (on2 : Bool) (w2 f2 t2 rk2 : Int) : Decidable (clashP on w f t rk on2 w2 f2 t2 rk2) := by unfold clashP; exact inferInstance
def aboveP (on : Bool) (w f t rk : Int) (on2 : Bool) (w2 f2 t2 rk2 : Int) : Prop := regO on w f t rk ∧ regO on2 w2 f2 t2 rk2 ∧ rk2 < rk
instance (on : Bool) (w f t rk : Int) (on2 : Bool) (w2 f2 t2 rk2 : Int) : Decidable (aboveP on w f t rk on2 w2 f2 t2 rk2) := by unfold aboveP; exact inferInstance
def s39 : Sp := fun vs H Q => match vs with
  | [.agg [.bool on, .int .i64 w, .int .u32 f, .int .u32 t, .bool rr, .bool rw, .int .i64 rk, .bool lk]] => Q (.bool (decide (0 ≤ w ∧ w < 8))) H false false
  | _ => False
theorem m39 : Mono s39 := by
  intro vs H Q Q' hQ h
  unfold s39 at h ⊢
  split at h
  all_goals first
    | exact h.elim
    | (repeat' (first | exact hQ _ _ _ _ h | refine And.imp_right (fun h => ?_) h | refine Exists.imp (fun _ h => ?_) h | (intro z; replace h := h z)))
theorem k39 : Snd Tryd.prog 1 39 s39 := by
  refine snd_of_ev (by kernel_rfl) (C := tab []) (sndC_nil) x39 n39 c39 30 ?_
  intro vs H Q hs
  unfold s39 at hs
  split at hs
  · skip
    have hq := hs; clear hs
    repeat' (conv => whnf
             first
             | (refine Stop.mk ?_)
             | (refine fI_gen ?_; intro z hz)
             | (refine fO_gen ?_; intro z hz)
             | (refine dec_true (by assumption) ?_)
             | (refine dec_false (by assumption) ?_)
             | (refine dec_split (fun h => ?_) (fun h => ?_))
             | (apply silE)
             | (exact And.intro rfl (And.intro rfl (And.intro rfl rfl)))
             | (refine And.intro (by first | omega | ((simp only [decide_eq_true_eq, decide_eq_false_iff_not, Bool.and_eq_true, beq_iff_eq, Bool.not_eq_true', Bool.not_eq_false'] at *); omega) | (subst_vars; simp only [Int.ofNat_eq_natCast, tq_not, fq_not, tq_and, fq_and, tq_or, fq_or, tq_beq, fq_beq, tq_bne, fq_bne, tq_dec, fq_dec, one1, V.tup.injEq, V.agg.injEq, List.cons.injEq, V.int.injEq, V.bool.injEq, true_and, and_true, decide_eq_true_eq, decide_eq_false_iff_not, Bool.and_eq_true, Bool.and_eq_false_iff, Bool.or_eq_true, Bool.or_eq_false_iff, Bool.not_eq_true', Bool.not_eq_false', beq_iff_eq, wrap_u32, wrap_i64, wrap_u8, beq_eq_false_iff_ne, ne_eq, bne_iff_ne, bne_eq_false_iff_eq, eq_self, and_self, splice, V.cells, List.take_succ_cons, List.take_zero, List.take_nil, List.drop_zero, List.drop_succ_cons, List.drop_nil, List.cons_append, List.nil_append, List.append_nil, List.length_cons, List.length_nil, Nat.zero_add, Nat.reduceAdd, if_true, if_false, Bool.false_eq_true, beq_self_eq_true, decide_eq_decide, Bool.true_eq_false, or_false, false_or, or_true, true_or, and_false, false_and, not_true_eq_false, not_false_eq_true, Bool.and_true, Bool.true_and, Bool.not_true, Bool.not_false] at *; omega)) ?_)
             | (refine Exists.intro _ (Exists.intro _ (And.intro rfl ?_)))
             | (refine Exists.intro _ (And.intro rfl ?_))
             | (refine Exists.intro _ (Exists.intro _ (Exists.intro _ (Exists.intro _ (And.intro rfl ?_)))))
             | (refine ld_step rfl (by assumption) rfl ?_)
             | (refine lds_step rfl (by assumption) rfl ?_)
             | (refine fL_mk ?_)
             | (refine fH_mk ?_)
             | (refine fN_mk ?_)
             | (refine fLB_mk ?_)
             | (refine And.intro (by first | assumption | exact GLB_app (by assumption) | exact GLB_app (GLB_app (by assumption))) ?_)
             | (refine ld_step rfl ((rd_x0 _ _ _ _ _).trans rfl) rfl ?_)
             | (refine ld_step rfl ((rd_x1 _ _ _ _ _ _).trans rfl) rfl ?_)
             | (refine drec_yes (by omega) ?_)
             | (refine drec_no (by omega) ?_)
             | (intro _)
             | fail)
    all_goals
      conv => whnf
      refine leafE hq ?_
      clear hq
      first
      | rfl
      | (subst_vars
         simp only [Int.ofNat_eq_natCast, tq_not, fq_not, tq_and, fq_and, tq_or, fq_or, tq_beq, fq_beq, tq_bne, fq_bne, tq_dec, fq_dec, one1, V.tup.injEq, V.agg.injEq, List.cons.injEq, V.int.injEq, V.bool.injEq, true_and, and_true, decide_eq_true_eq, decide_eq_false_iff_not, Bool.and_eq_true, Bool.and_eq_false_iff, Bool.or_eq_true, Bool.or_eq_false_iff, Bool.not_eq_true', Bool.not_eq_false', beq_iff_eq, wrap_u32, wrap_i64, wrap_u8, beq_eq_false_iff_ne, ne_eq, bne_iff_ne, bne_eq_false_iff_eq, eq_self, and_self, splice, V.cells, List.take_succ_cons, List.take_zero, List.take_nil, List.drop_zero, List.drop_succ_cons, List.drop_nil, List.cons_append, List.nil_append, List.append_nil, List.length_cons, List.length_nil, Nat.zero_add, Nat.reduceAdd, if_true, if_false, Bool.false_eq_true, beq_self_eq_true, decide_eq_decide, Bool.true_eq_false, or_false, false_or, or_true, true_or, and_false, false_and, not_true_eq_false, not_false_eq_true, Bool.and_true, Bool.true_and, Bool.not_true, Bool.not_false] at *
         skip
         repeat' (first | refine And.intro ?_ ?_ | (split <;> skip))
         all_goals (first | omega | (rw [Bool.eq_iff_iff]; simp only [decide_eq_true_eq, true_iff, iff_true, false_iff, iff_false, Bool.false_eq_true, Bool.and_eq_true, Bool.or_eq_true, beq_iff_eq, and_true, bne_iff_ne, ne_eq, Bool.not_eq_true']; omega)))
  · exact hs.elim
def s40 : Sp := fun vs H Q => match vs with
  | [.agg [.bool on, .int .i64 w, .int .u32 f, .int .u32 t, .bool rr, .bool rw, .int .i64 rk, .bool lk]] => Q (.bool (decide (f ≤ t))) H false false
  | _ => False
theorem m40 : Mono s40 := by
  intro vs H Q Q' hQ h
  unfold s40 at h ⊢
  split at h
  all_goals first
    | exact h.elim
    | (repeat' (first | exact hQ _ _ _ _ h | refine And.imp_right (fun h => ?_) h | refine Exists.imp (fun _ h => ?_) h | (intro z; replace h := h z)))
theorem k40 : Snd Tryd.prog 1 40 s40 := by
  refine snd_of_ev (by kernel_rfl) (C := tab [(34, s34)]) (sndC_cons k34 (sndC_nil)) x40 n40 c40 30 ?_
  intro vs H Q hs
  unfold s40 at hs
  split at hs
  · skip
    have hq := hs; clear hs
    repeat' (conv => whnf
             first
             | (refine Stop.mk ?_)
             | (refine fI_gen ?_; intro z hz)
             | (refine fO_gen ?_; intro z hz)
             | (refine dec_true (by assumption) ?_)
             | (refine dec_false (by assumption) ?_)
             | (refine dec_split (fun h => ?_) (fun h => ?_))
             | (apply silE)
             | (exact And.intro rfl (And.intro rfl (And.intro rfl rfl)))
             | (refine And.intro (by first | omega | ((simp only [decide_eq_true_eq, decide_eq_false_iff_not, Bool.and_eq_true, beq_iff_eq, Bool.not_eq_true', Bool.not_eq_false'] at *); omega) | (subst_vars; simp only [Int.ofNat_eq_natCast, tq_not, fq_not, tq_and, fq_and, tq_or, fq_or, tq_beq, fq_beq, tq_bne, fq_bne, tq_dec, fq_dec, one1, V.tup.injEq, V.agg.injEq, List.cons.injEq, V.int.injEq, V.bool.injEq, true_and, and_true, decide_eq_true_eq, decide_eq_false_iff_not, Bool.and_eq_true, Bool.and_eq_false_iff, Bool.or_eq_true, Bool.or_eq_false_iff, Bool.not_eq_true', Bool.not_eq_false', beq_iff_eq, wrap_u32, wrap_i64, wrap_u8, beq_eq_false_iff_ne, ne_eq, bne_iff_ne, bne_eq_false_iff_eq, eq_self, and_self, splice, V.cells, List.take_succ_cons, List.take_zero, List.take_nil, List.drop_zero, List.drop_succ_cons, List.drop_nil, List.cons_append, List.nil_append, List.append_nil, List.length_cons, List.length_nil, Nat.zero_add, Nat.reduceAdd, if_true, if_false, Bool.false_eq_true, beq_self_eq_true, decide_eq_decide, Bool.true_eq_false, or_false, false_or, or_true, true_or, and_false, false_and, not_true_eq_false, not_false_eq_true, Bool.and_true, Bool.true_and, Bool.not_true, Bool.not_false] at *; omega)) ?_)
             | (refine Exists.intro _ (Exists.intro _ (And.intro rfl ?_)))
             | (refine Exists.intro _ (And.intro rfl ?_))
             | (refine Exists.intro _ (Exists.intro _ (Exists.intro _ (Exists.intro _ (And.intro rfl ?_)))))
             | (refine ld_step rfl (by assumption) rfl ?_)
             | (refine lds_step rfl (by assumption) rfl ?_)
             | (refine fL_mk ?_)
             | (refine fH_mk ?_)
             | (refine fN_mk ?_)
             | (refine fLB_mk ?_)
             | (refine And.intro (by first | assumption | exact GLB_app (by assumption) | exact GLB_app (GLB_app (by assumption))) ?_)
             | (refine ld_step rfl ((rd_x0 _ _ _ _ _).trans rfl) rfl ?_)
             | (refine ld_step rfl ((rd_x1 _ _ _ _ _ _).trans rfl) rfl ?_)
             | (refine drec_yes (by omega) ?_)
             | (refine drec_no (by omega) ?_)
             | (intro _)
             | fail)
    all_goals
      conv => whnf
      refine leafE hq ?_
      clear hq
      first
      | rfl
      | (subst_vars
         simp only [Int.ofNat_eq_natCast, tq_not, fq_not, tq_and, fq_and, tq_or, fq_or, tq_beq, fq_beq, tq_bne, fq_bne, tq_dec, fq_dec, one1, V.tup.injEq, V.agg.injEq, List.cons.injEq, V.int.injEq, V.bool.injEq, true_and, and_true, decide_eq_true_eq, decide_eq_false_iff_not, Bool.and_eq_true, Bool.and_eq_false_iff, Bool.or_eq_true, Bool.or_eq_false_iff, Bool.not_eq_true', Bool.not_eq_false', beq_iff_eq, wrap_u32, wrap_i64, wrap_u8, beq_eq_false_iff_ne, ne_eq, bne_iff_ne, bne_eq_false_iff_eq, eq_self, and_self, splice, V.cells, List.take_succ_cons, List.take_zero, List.take_nil, List.drop_zero, List.drop_succ_cons, List.drop_nil, List.cons_append, List.nil_append, List.append_nil, List.length_cons, List.length_nil, Nat.zero_add, Nat.reduceAdd, if_true, if_false, Bool.false_eq_true, beq_self_eq_true, decide_eq_decide, Bool.true_eq_false, or_false, false_or, or_true, true_or, and_false, false_and, not_true_eq_false, not_false_eq_true, Bool.and_true, Bool.true_and, Bool.not_true, Bool.not_false] at *
         skip
         repeat' (first | refine And.intro ?_ ?_ | (split <;> skip))
         all_goals (first | omega | (rw [Bool.eq_iff_iff]; simp only [decide_eq_true_eq, true_iff, iff_true, false_iff, iff_false, Bool.false_eq_true, Bool.and_eq_true, Bool.or_eq_true, beq_iff_eq, and_true, bne_iff_ne, ne_eq, Bool.not_eq_true']; omega)))
  · exact hs.elim
def s41 : Sp := fun vs H Q => match vs with
  | [.agg [.bool on, .int .i64 w, .int .u32 f, .int .u32 t, .bool rr, .bool rw, .int .i64 rk, .bool lk]] => Q (.bool (decide (0 ≤ rk ∧ rk ≤ 255))) H false false
  | _ => False
theorem m41 : Mono s41 := by
  intro vs H Q Q' hQ h
  unfold s41 at h ⊢
  split at h
  all_goals first
    | exact h.elim
    | (repeat' (first | exact hQ _ _ _ _ h | refine And.imp_right (fun h => ?_) h | refine Exists.imp (fun _ h => ?_) h | (intro z; replace h := h z)))
theorem k41 : Snd Tryd.prog 1 41 s41 := by
  refine snd_of_ev (by kernel_rfl) (C := tab []) (sndC_nil) x41 n41 c41 30 ?_
  intro vs H Q hs
  unfold s41 at hs
  split at hs
  · skip
    have hq := hs; clear hs
    repeat' (conv => whnf
             first
             | (refine Stop.mk ?_)
             | (refine fI_gen ?_; intro z hz)
             | (refine fO_gen ?_; intro z hz)
             | (refine dec_true (by assumption) ?_)
             | (refine dec_false (by assumption) ?_)
             | (refine dec_split (fun h => ?_) (fun h => ?_))
             | (apply silE)
             | (exact And.intro rfl (And.intro rfl (And.intro rfl rfl)))
             | (refine And.intro (by first | omega | ((simp only [decide_eq_true_eq, decide_eq_false_iff_not, Bool.and_eq_true, beq_iff_eq, Bool.not_eq_true', Bool.not_eq_false'] at *); omega) | (subst_vars; simp only [Int.ofNat_eq_natCast, tq_not, fq_not, tq_and, fq_and, tq_or, fq_or, tq_beq, fq_beq, tq_bne, fq_bne, tq_dec, fq_dec, one1, V.tup.injEq, V.agg.injEq, List.cons.injEq, V.int.injEq, V.bool.injEq, true_and, and_true, decide_eq_true_eq, decide_eq_false_iff_not, Bool.and_eq_true, Bool.and_eq_false_iff, Bool.or_eq_true, Bool.or_eq_false_iff, Bool.not_eq_true', Bool.not_eq_false', beq_iff_eq, wrap_u32, wrap_i64, wrap_u8, beq_eq_false_iff_ne, ne_eq, bne_iff_ne, bne_eq_false_iff_eq, eq_self, and_self, splice, V.cells, List.take_succ_cons, List.take_zero, List.take_nil, List.drop_zero, List.drop_succ_cons, List.drop_nil, List.cons_append, List.nil_append, List.append_nil, List.length_cons, List.length_nil, Nat.zero_add, Nat.reduceAdd, if_true, if_false, Bool.false_eq_true, beq_self_eq_true, decide_eq_decide, Bool.true_eq_false, or_false, false_or, or_true, true_or, and_false, false_and, not_true_eq_false, not_false_eq_true, Bool.and_true, Bool.true_and, Bool.not_true, Bool.not_false] at *; omega)) ?_)
             | (refine Exists.intro _ (Exists.intro _ (And.intro rfl ?_)))
             | (refine Exists.intro _ (And.intro rfl ?_))
             | (refine Exists.intro _ (Exists.intro _ (Exists.intro _ (Exists.intro _ (And.intro rfl ?_)))))
             | (refine ld_step rfl (by assumption) rfl ?_)
             | (refine lds_step rfl (by assumption) rfl ?_)
             | (refine fL_mk ?_)
             | (refine fH_mk ?_)
             | (refine fN_mk ?_)
             | (refine fLB_mk ?_)
             | (refine And.intro (by first | assumption | exact GLB_app (by assumption) | exact GLB_app (GLB_app (by assumption))) ?_)
             | (refine ld_step rfl ((rd_x0 _ _ _ _ _).trans rfl) rfl ?_)
             | (refine ld_step rfl ((rd_x1 _ _ _ _ _ _).trans rfl) rfl ?_)
             | (refine drec_yes (by omega) ?_)
             | (refine drec_no (by omega) ?_)
             | (intro _)
             | fail)
    all_goals
      conv => whnf
      refine leafE hq ?_
      clear hq
      first
      | rfl
      | (subst_vars
         simp only [Int.ofNat_eq_natCast, tq_not, fq_not, tq_and, fq_and, tq_or, fq_or, tq_beq, fq_beq, tq_bne, fq_bne, tq_dec, fq_dec, one1, V.tup.injEq, V.agg.injEq, List.cons.injEq, V.int.injEq, V.bool.injEq, true_and, and_true, decide_eq_true_eq, decide_eq_false_iff_not, Bool.and_eq_true, Bool.and_eq_false_iff, Bool.or_eq_true, Bool.or_eq_false_iff, Bool.not_eq_true', Bool.not_eq_false', beq_iff_eq, wrap_u32, wrap_i64, wrap_u8, beq_eq_false_iff_ne, ne_eq, bne_iff_ne, bne_eq_false_iff_eq, eq_self, and_self, splice, V.cells, List.take_succ_cons, List.take_zero, List.take_nil, List.drop_zero, List.drop_succ_cons, List.drop_nil, List.cons_append, List.nil_append, List.append_nil, List.length_cons, List.length_nil, Nat.zero_add, Nat.reduceAdd, if_true, if_false, Bool.false_eq_true, beq_self_eq_true, decide_eq_decide, Bool.true_eq_false, or_false, false_or, or_true, true_or, and_false, false_and, not_true_eq_false, not_false_eq_true, Bool.and_true, Bool.true_and, Bool.not_true, Bool.not_false] at *
         skip
         repeat' (first | refine And.intro ?_ ?_ | (split <;> skip))
         all_goals (first | omega | (rw [Bool.eq_iff_iff]; simp only [decide_eq_true_eq, true_iff, iff_true, false_iff, iff_false, Bool.false_eq_true, Bool.and_eq_true, Bool.or_eq_true, beq_iff_eq, and_true, bne_iff_ne, ne_eq, Bool.not_eq_true']; omega)))
  · exact hs.elim
def regC (n : Nat) (w f t rk : Int) : Prop := (n = 39 ∧ 0 ≤ w ∧ w < 8) ∨ (n = 40 ∧ f ≤ t) ∨ (n = 41 ∧ 0 ≤ rk ∧ rk ≤ 255)
instance (n : Nat) (w f t rk : Int) : Decidable (regC n w f t rk) := by unfold regC; exact inferInstance
def s42 : Sp := fun vs H Q => match vs with
  | [.fn n [.agg [.bool on, .int .i64 w, .int .u32 f, .int .u32 t, .bool rr, .bool rw, .int .i64 rk, .bool lk]] []] => ((n = 39 ∨ n = 40 ∨ n = 41)) ∧ Q (.bool (!decide (regC n w f t rk))) H false false
  | _ => False
theorem m42 : Mono s42 := by
  intro vs H Q Q' hQ h
  unfold s42 at h ⊢
  split at h
  all_goals first
    | exact h.elim
    | (repeat' (first | exact hQ _ _ _ _ h | refine And.imp_right (fun h => ?_) h | refine Exists.imp (fun _ h => ?_) h | (intro z; replace h := h z)))
theorem k42 : Snd Tryd.prog 1 42 s42 := by
  refine snd_of_ev (by kernel_rfl) (C := tab [(39, s39), (40, s40), (41, s41)]) (sndC_cons k39 (sndC_cons k40 (sndC_cons k41 (sndC_nil)))) x42 n42 c42 30 ?_
  intro vs H Q hs
  unfold s42 at hs
  split at hs
  · rename_i n on w f t rr rw rk lk
    obtain ⟨hp, hs⟩ := hs
    have hq := hs; clear hs
    rcases hp with rfl | rfl | rfl
    all_goals
      repeat' (conv => whnf
               first
               | (refine Stop.mk ?_)
               | (refine fI_gen ?_; intro z hz)
               | (refine fO_gen ?_; intro z hz)
               | (refine dec_true (by assumption) ?_)
               | (refine dec_false (by assumption) ?_)
               | (refine dec_split (fun h => ?_) (fun h => ?_))
               | (apply silE)
               | (exact And.intro rfl (And.intro rfl (And.intro rfl rfl)))
               | (refine And.intro (by first | omega | ((simp only [decide_eq_true_eq, decide_eq_false_iff_not, Bool.and_eq_true, beq_iff_eq, Bool.not_eq_true', Bool.not_eq_false'] at *); omega) | (subst_vars; simp only [Int.ofNat_eq_natCast, tq_not, fq_not, tq_and, fq_and, tq_or, fq_or, tq_beq, fq_beq, tq_bne, fq_bne, tq_dec, fq_dec, one1, V.tup.injEq, V.agg.injEq, List.cons.injEq, V.int.injEq, V.bool.injEq, true_and, and_true, decide_eq_true_eq, decide_eq_false_iff_not, Bool.and_eq_true, Bool.and_eq_false_iff, Bool.or_eq_true, Bool.or_eq_false_iff, Bool.not_eq_true', Bool.not_eq_false', beq_iff_eq, wrap_u32, wrap_i64, wrap_u8, beq_eq_false_iff_ne, ne_eq, bne_iff_ne, bne_eq_false_iff_eq, eq_self, and_self, splice, V.cells, List.take_succ_cons, List.take_zero, List.take_nil, List.drop_zero, List.drop_succ_cons, List.drop_nil, List.cons_append, List.nil_append, List.append_nil, List.length_cons, List.length_nil, Nat.zero_add, Nat.reduceAdd, if_true, if_false, Bool.false_eq_true, beq_self_eq_true, decide_eq_decide, Bool.true_eq_false, or_false, false_or, or_true, true_or, and_false, false_and, not_true_eq_false, not_false_eq_true, Bool.and_true, Bool.true_and, Bool.not_true, Bool.not_false] at *; omega)) ?_)
               | (refine Exists.intro _ (Exists.intro _ (And.intro rfl ?_)))
               | (refine Exists.intro _ (And.intro rfl ?_))
               | (refine Exists.intro _ (Exists.intro _ (Exists.intro _ (Exists.intro _ (And.intro rfl ?_)))))
               | (refine ld_step rfl (by assumption) rfl ?_)
               | (refine lds_step rfl (by assumption) rfl ?_)
               | (refine fL_mk ?_)
               | (refine fH_mk ?_)
               | (refine fN_mk ?_)
               | (refine fLB_mk ?_)
               | (refine And.intro (by first | assumption | exact GLB_app (by assumption) | exact GLB_app (GLB_app (by assumption))) ?_)
               | (refine ld_step rfl ((rd_x0 _ _ _ _ _).trans rfl) rfl ?_)
               | (refine ld_step rfl ((rd_x1 _ _ _ _ _ _).trans rfl) rfl ?_)
               | (refine drec_yes (by omega) ?_)
               | (refine drec_no (by omega) ?_)
               | (intro _)
               | fail)
      all_goals
        conv => whnf
        first
        | refine leafE hq ?_
        | refine leafH hq ?_ (take_app1 H _)
        | refine leafH hq ?_ (take_app2 H _ _)
        clear hq
        first
        | rfl
        | grind [one1, regC]
        | (refine (congrArg V.bool ?_ : V.bool _ = V.bool _)
           subst_vars
           rw [Bool.eq_iff_iff]
           simp only [Int.ofNat_eq_natCast, tq_not, fq_not, tq_and, fq_and, tq_or, fq_or, tq_beq, fq_beq, tq_bne, fq_bne, tq_dec, fq_dec, one1, V.tup.injEq, V.agg.injEq, List.cons.injEq, V.int.injEq, V.bool.injEq, true_and, and_true, decide_eq_true_eq, decide_eq_false_iff_not, Bool.and_eq_true, Bool.and_eq_false_iff, Bool.or_eq_true, Bool.or_eq_false_iff, Bool.not_eq_true', Bool.not_eq_false', beq_iff_eq, wrap_u32, wrap_i64, wrap_u8, beq_eq_false_iff_ne, ne_eq, bne_iff_ne, bne_eq_false_iff_eq, eq_self, and_self, splice, V.cells, List.take_succ_cons, List.take_zero, List.take_nil, List.drop_zero, List.drop_succ_cons, List.drop_nil, List.cons_append, List.nil_append, List.append_nil, List.length_cons, List.length_nil, Nat.zero_add, Nat.reduceAdd, if_true, if_false, Bool.false_eq_true, beq_self_eq_true, decide_eq_decide, Bool.true_eq_false, or_false, false_or, or_true, true_or, and_false, false_and, not_true_eq_false, not_false_eq_true, Bool.and_true, Bool.true_and, Bool.not_true, Bool.not_false] at *
           simp only [regC] at *
           constructor <;> intro hh <;> grind)
  · exact hs.elim
def s51r : Sp := fun vs H Q => match vs with
  | [.sl (some (b, o)) 3 cp, .fn 42 [] []] => ∃ (on : Bool) (w f t : Int) (rr rw : Bool) (rk : Int) (lk : Bool), rd H b o 3 = some [.fn 39 [.agg [.bool on, .int .i64 w, .int .u32 f, .int .u32 t, .bool rr, .bool rw, .int .i64 rk, .bool lk]] [], .fn 40 [.agg [.bool on, .int .i64 w, .int .u32 f, .int .u32 t, .bool rr, .bool rw, .int .i64 rk, .bool lk]] [], .fn 41 [.agg [.bool on, .int .i64 w, .int .u32 f, .int .u32 t, .bool rr, .bool rw, .int .i64 rk, .bool lk]] []] ∧ ∀ x : Int, (0 ≤ x ↔ ¬ ((0 ≤ w ∧ w < 8) ∧ f ≤ t ∧ 0 ≤ rk ∧ rk ≤ 255)) → Q (.int .i64 x) H false false
  | _ => False
theorem m51r : Mono s51r := by
  intro vs H Q Q' hQ h
  unfold s51r at h ⊢
  split at h
  all_goals first
    | exact h.elim
    | (repeat' (first | exact hQ _ _ _ _ h | refine And.imp_right (fun h => ?_) h | refine Exists.imp (fun _ h => ?_) h | (intro z; replace h := h z)))
theorem k51r : Snd Tryd.prog 1 51 s51r := by
  refine snd_of_ev (by kernel_rfl) (C := tab [(42, s42)]) (sndC_cons k42 (sndC_nil)) x51 n51 c51 30 ?_
  intro vs H Q hs
  unfold s51r at hs
  split at hs
  · rename_i b o cp
    obtain ⟨on, w, f, t, rr, rw, rk, lk, hr, hq⟩ := hs
    have r0 := rd_sub hr 0 1 (by omega)
    have r1 := rd_sub hr 1 1 (by omega)
    have r2 := rd_sub hr 2 1 (by omega)
    simp only [List.drop_zero, List.drop_succ_cons, List.take_succ_cons, List.take_zero] at r0 r1 r2
    clear hr
    repeat' (conv => whnf
             first
             | (refine Stop.mk ?_)
             | (refine fI_gen ?_; intro z hz)
             | (refine fO_gen ?_; intro z hz)
             | (refine pure_step (ixs_eq rfl rfl (by decide) (by decide)) ?_)
             | (refine ld_step rfl r0 rfl ?_)
             | (refine ld_step rfl r1 rfl ?_)
             | (refine ld_step rfl r2 rfl ?_)
             | (refine And.intro (by decide) ?_)
             | (refine dec_true (by assumption) ?_)
             | (refine dec_false (by assumption) ?_)
             | (refine dec_trueH (by first | rfl | (subst_vars; simp only [Int.ofNat_eq_natCast, tq_not, fq_not, tq_and, fq_and, tq_or, fq_or, tq_beq, fq_beq, tq_bne, fq_bne, tq_dec, fq_dec, one1, V.tup.injEq, V.agg.injEq, List.cons.injEq, V.int.injEq, V.bool.injEq, true_and, and_true, decide_eq_true_eq, decide_eq_false_iff_not, Bool.and_eq_true, Bool.and_eq_false_iff, Bool.or_eq_true, Bool.or_eq_false_iff, Bool.not_eq_true', Bool.not_eq_false', beq_iff_eq, wrap_u32, wrap_i64, wrap_u8, beq_eq_false_iff_ne, ne_eq, bne_iff_ne, bne_eq_false_iff_eq, eq_self, and_self, splice, V.cells, List.take_succ_cons, List.take_zero, List.take_nil, List.drop_zero, List.drop_succ_cons, List.drop_nil, List.cons_append, List.nil_append, List.append_nil, List.length_cons, List.length_nil, Nat.zero_add, Nat.reduceAdd, if_true, if_false, Bool.false_eq_true, beq_self_eq_true, decide_eq_decide, Bool.true_eq_false, or_false, false_or, or_true, true_or, and_false, false_and, not_true_eq_false, not_false_eq_true, Bool.and_true, Bool.true_and, Bool.not_true, Bool.not_false] at *; first | done | assumption | omega)) (fun h => ?_))
             | (refine dec_falseH (by first | rfl | (subst_vars; simp only [Int.ofNat_eq_natCast, tq_not, fq_not, tq_and, fq_and, tq_or, fq_or, tq_beq, fq_beq, tq_bne, fq_bne, tq_dec, fq_dec, one1, V.tup.injEq, V.agg.injEq, List.cons.injEq, V.int.injEq, V.bool.injEq, true_and, and_true, decide_eq_true_eq, decide_eq_false_iff_not, Bool.and_eq_true, Bool.and_eq_false_iff, Bool.or_eq_true, Bool.or_eq_false_iff, Bool.not_eq_true', Bool.not_eq_false', beq_iff_eq, wrap_u32, wrap_i64, wrap_u8, beq_eq_false_iff_ne, ne_eq, bne_iff_ne, bne_eq_false_iff_eq, eq_self, and_self, splice, V.cells, List.take_succ_cons, List.take_zero, List.take_nil, List.drop_zero, List.drop_succ_cons, List.drop_nil, List.cons_append, List.nil_append, List.append_nil, List.length_cons, List.length_nil, Nat.zero_add, Nat.reduceAdd, if_true, if_false, Bool.false_eq_true, beq_self_eq_true, decide_eq_decide, Bool.true_eq_false, or_false, false_or, or_true, true_or, and_false, false_and, not_true_eq_false, not_false_eq_true, Bool.and_true, Bool.true_and, Bool.not_true, Bool.not_false] at *; first | done | assumption | omega)) (fun h => ?_))
             | (refine dec_split (fun h => ?_) (fun h => ?_))
             | (apply silE)
             | (exact And.intro rfl (And.intro rfl (And.intro rfl rfl)))
             | (refine And.intro (by first | omega | ((simp only [decide_eq_true_eq, decide_eq_false_iff_not, Bool.and_eq_true, beq_iff_eq, Bool.not_eq_true', Bool.not_eq_false'] at *); omega) | (subst_vars; simp only [Int.ofNat_eq_natCast, tq_not, fq_not, tq_and, fq_and, tq_or, fq_or, tq_beq, fq_beq, tq_bne, fq_bne, tq_dec, fq_dec, one1, V.tup.injEq, V.agg.injEq, List.cons.injEq, V.int.injEq, V.bool.injEq, true_and, and_true, decide_eq_true_eq, decide_eq_false_iff_not, Bool.and_eq_true, Bool.and_eq_false_iff, Bool.or_eq_true, Bool.or_eq_false_iff, Bool.not_eq_true', Bool.not_eq_false', beq_iff_eq, wrap_u32, wrap_i64, wrap_u8, beq_eq_false_iff_ne, ne_eq, bne_iff_ne, bne_eq_false_iff_eq, eq_self, and_self, splice, V.cells, List.take_succ_cons, List.take_zero, List.take_nil, List.drop_zero, List.drop_succ_cons, List.drop_nil, List.cons_append, List.nil_append, List.append_nil, List.length_cons, List.length_nil, Nat.zero_add, Nat.reduceAdd, if_true, if_false, Bool.false_eq_true, beq_self_eq_true, decide_eq_decide, Bool.true_eq_false, or_false, false_or, or_true, true_or, and_false, false_and, not_true_eq_false, not_false_eq_true, Bool.and_true, Bool.true_and, Bool.not_true, Bool.not_false] at *; omega)) ?_)
             | (refine Exists.intro _ (Exists.intro _ (And.intro rfl ?_)))
             | (refine Exists.intro _ (And.intro rfl ?_))
             | (refine Exists.intro _ (Exists.intro _ (Exists.intro _ (Exists.intro _ (And.intro rfl ?_)))))
             | (refine ld_step rfl (by assumption) rfl ?_)
             | (refine lds_step rfl (by assumption) rfl ?_)
             | (refine fL_mk ?_)
             | (refine fH_mk ?_)
             | (refine fN_mk ?_)
             | (refine fLB_mk ?_)
             | (refine And.intro (by first | assumption | exact GLB_app (by assumption) | exact GLB_app (GLB_app (by assumption))) ?_)
             | (refine ld_step rfl ((rd_x0 _ _ _ _ _).trans rfl) rfl ?_)
             | (refine ld_step rfl ((rd_x1 _ _ _ _ _ _).trans rfl) rfl ?_)
             | (refine drec_yes (by omega) ?_)
             | (refine drec_no (by omega) ?_)
             | (intro _)
             | fail)
    all_goals
      conv => whnf
      refine hq _ ?_
      clear hq r0 r1 r2
      grind [regC]
  · exact hs.elim
def s38r : Sp := fun vs H Q => match vs with
  | [.sl (some (b, o)) 3 cp, .fn 42 [] []] => ∃ (on : Bool) (w f t : Int) (rr rw : Bool) (rk : Int) (lk : Bool), rd H b o 3 = some [.fn 39 [.agg [.bool on, .int .i64 w, .int .u32 f, .int .u32 t, .bool rr, .bool rw, .int .i64 rk, .bool lk]] [], .fn 40 [.agg [.bool on, .int .i64 w, .int .u32 f, .int .u32 t, .bool rr, .bool rw, .int .i64 rk, .bool lk]] [], .fn 41 [.agg [.bool on, .int .i64 w, .int .u32 f, .int .u32 t, .bool rr, .bool rw, .int .i64 rk, .bool lk]] []] ∧ Q (.bool (!decide ((0 ≤ w ∧ w < 8) ∧ f ≤ t ∧ 0 ≤ rk ∧ rk ≤ 255))) H false false
  | _ => False
theorem m38r : Mono s38r := by
  intro vs H Q Q' hQ h
  unfold s38r at h ⊢
  split at h
  all_goals first
    | exact h.elim
    | (repeat' (first | exact hQ _ _ _ _ h | refine And.imp_right (fun h => ?_) h | refine Exists.imp (fun _ h => ?_) h | (intro z; replace h := h z)))
theorem k38r : Snd Tryd.prog 1 38 s38r := by
  refine snd_of_ev (by kernel_rfl) (C := tab [(51, s51r)]) (sndC_cons k51r (sndC_nil)) x38 n38 c38 30 ?_
  intro vs H Q hs
  unfold s38r at hs
  split at hs
  · rename_i b o cp
    obtain ⟨on, w, f, t, rr, rw, rk, lk, hr, hq⟩ := hs
    repeat' (conv => whnf
             first
             | (refine Stop.mk ?_)
             | (refine fI_gen ?_; intro z hz)
             | (refine fO_gen ?_; intro z hz)
             | (refine ⟨on, w, f, t, rr, rw, rk, lk, hr, fun x hx => ?_⟩)
             | (refine dec_true (by assumption) ?_)
             | (refine dec_false (by assumption) ?_)
             | (refine dec_split (fun h => ?_) (fun h => ?_))
             | (apply silE)
             | (exact And.intro rfl (And.intro rfl (And.intro rfl rfl)))
             | (refine And.intro (by first | omega | ((simp only [decide_eq_true_eq, decide_eq_false_iff_not, Bool.and_eq_true, beq_iff_eq, Bool.not_eq_true', Bool.not_eq_false'] at *); omega) | (subst_vars; simp only [Int.ofNat_eq_natCast, tq_not, fq_not, tq_and, fq_and, tq_or, fq_or, tq_beq, fq_beq, tq_bne, fq_bne, tq_dec, fq_dec, one1, V.tup.injEq, V.agg.injEq, List.cons.injEq, V.int.injEq, V.bool.injEq, true_and, and_true, decide_eq_true_eq, decide_eq_false_iff_not, Bool.and_eq_true, Bool.and_eq_false_iff, Bool.or_eq_true, Bool.or_eq_false_iff, Bool.not_eq_true', Bool.not_eq_false', beq_iff_eq, wrap_u32, wrap_i64, wrap_u8, beq_eq_false_iff_ne, ne_eq, bne_iff_ne, bne_eq_false_iff_eq, eq_self, and_self, splice, V.cells, List.take_succ_cons, List.take_zero, List.take_nil, List.drop_zero, List.drop_succ_cons, List.drop_nil, List.cons_append, List.nil_append, List.append_nil, List.length_cons, List.length_nil, Nat.zero_add, Nat.reduceAdd, if_true, if_false, Bool.false_eq_true, beq_self_eq_true, decide_eq_decide, Bool.true_eq_false, or_false, false_or, or_true, true_or, and_false, false_and, not_true_eq_false, not_false_eq_true, Bool.and_true, Bool.true_and, Bool.not_true, Bool.not_false] at *; omega)) ?_)
             | (refine Exists.intro _ (Exists.intro _ (And.intro rfl ?_)))
             | (refine Exists.intro _ (And.intro rfl ?_))
             | (refine Exists.intro _ (Exists.intro _ (Exists.intro _ (Exists.intro _ (And.intro rfl ?_)))))
             | (refine ld_step rfl (by assumption) rfl ?_)
             | (refine lds_step rfl (by assumption) rfl ?_)
             | (refine fL_mk ?_)
             | (refine fH_mk ?_)
             | (refine fN_mk ?_)
             | (refine fLB_mk ?_)
             | (refine And.intro (by first | assumption | exact GLB_app (by assumption) | exact GLB_app (GLB_app (by assumption))) ?_)
             | (refine ld_step rfl ((rd_x0 _ _ _ _ _).trans rfl) rfl ?_)
             | (refine ld_step rfl ((rd_x1 _ _ _ _ _ _).trans rfl) rfl ?_)
             | (refine drec_yes (by omega) ?_)
             | (refine drec_no (by omega) ?_)
             | (intro _)
             | fail)
    all_goals
      conv => whnf
      refine leafE hq ?_
      grind [one1]
  · exact hs.elim
def s25 : Sp := fun vs H Q => match vs with
  | [.agg [.bool on, .int .i64 w, .int .u32 f, .int .u32 t, .bool rr, .bool rw, .int .i64 rk, .bool lk]] => Q (.bool (decide (regO on w f t rk))) H false false
  | _ => False
theorem m25 : Mono s25 := by
  intro vs H Q Q' hQ h
  unfold s25 at h ⊢
  split at h
  all_goals first
    | exact h.elim
    | (repeat' (first | exact hQ _ _ _ _ h | refine And.imp_right (fun h => ?_) h | refine Exists.imp (fun _ h => ?_) h | (intro z; replace h := h z)))
theorem k25 : Snd Tryd.prog 1 25 s25 := by
  refine snd_of_ev (by kernel_rfl) (C := tab [(38, s38r)]) (sndC_cons k38r (sndC_nil)) x25 n25 c25 30 ?_
  intro vs H Q hs
  unfold s25 at hs
  split at hs
  · rename_i on w f t rr rw rk lk
    have hq := hs; clear hs
    repeat' (conv => whnf
             first
             | (refine Stop.mk ?_)
             | (refine fI_gen ?_; intro z hz)
             | (refine fO_gen ?_; intro z hz)
             | (refine ⟨_, _, _, _, _, _, _, _, rd_x0 _ _ _ _ _, ?_⟩)
             | (refine dec_true (by assumption) ?_)
             | (refine dec_false (by assumption) ?_)
             | (refine dec_split (fun h => ?_) (fun h => ?_))
             | (apply silE)
             | (exact And.intro rfl (And.intro rfl (And.intro rfl rfl)))
             | (refine And.intro (by first | omega | ((simp only [decide_eq_true_eq, decide_eq_false_iff_not, Bool.and_eq_true, beq_iff_eq, Bool.not_eq_true', Bool.not_eq_false'] at *); omega) | (subst_vars; simp only [Int.ofNat_eq_natCast, tq_not, fq_not, tq_and, fq_and, tq_or, fq_or, tq_beq, fq_beq, tq_bne, fq_bne, tq_dec, fq_dec, one1, V.tup.injEq, V.agg.injEq, List.cons.injEq, V.int.injEq, V.bool.injEq, true_and, and_true, decide_eq_true_eq, decide_eq_false_iff_not, Bool.and_eq_true, Bool.and_eq_false_iff, Bool.or_eq_true, Bool.or_eq_false_iff, Bool.not_eq_true', Bool.not_eq_false', beq_iff_eq, wrap_u32, wrap_i64, wrap_u8, beq_eq_false_iff_ne, ne_eq, bne_iff_ne, bne_eq_false_iff_eq, eq_self, and_self, splice, V.cells, List.take_succ_cons, List.take_zero, List.take_nil, List.drop_zero, List.drop_succ_cons, List.drop_nil, List.cons_append, List.nil_append, List.append_nil, List.length_cons, List.length_nil, Nat.zero_add, Nat.reduceAdd, if_true, if_false, Bool.false_eq_true, beq_self_eq_true, decide_eq_decide, Bool.true_eq_false, or_false, false_or, or_true, true_or, and_false, false_and, not_true_eq_false, not_false_eq_true, Bool.and_true, Bool.true_and, Bool.not_true, Bool.not_false] at *; omega)) ?_)
             | (refine Exists.intro _ (Exists.intro _ (And.intro rfl ?_)))
             | (refine Exists.intro _ (And.intro rfl ?_))
             | (refine Exists.intro _ (Exists.intro _ (Exists.intro _ (Exists.intro _ (And.intro rfl ?_)))))
             | (refine ld_step rfl (by assumption) rfl ?_)
             | (refine lds_step rfl (by assumption) rfl ?_)
             | (refine fL_mk ?_)
             | (refine fH_mk ?_)
             | (refine fN_mk ?_)
             | (refine fLB_mk ?_)
             | (refine And.intro (by first | assumption | exact GLB_app (by assumption) | exact GLB_app (GLB_app (by assumption))) ?_)
             | (refine ld_step rfl ((rd_x0 _ _ _ _ _).trans rfl) rfl ?_)
             | (refine ld_step rfl ((rd_x1 _ _ _ _ _ _).trans rfl) rfl ?_)
             | (refine drec_yes (by omega) ?_)
             | (refine drec_no (by omega) ?_)
             | (intro _)
             | fail)
    all_goals
      conv => whnf
      first
      | refine leafE hq ?_
      | refine leafH hq ?_ (take_app1 H _)
      clear hq
      grind [one1, regO]
  · exact hs.elim
def s12 : Sp := fun vs H Q => match vs with
  | [.agg [.bool on, .int .i64 w, .int .u32 f, .int .u32 t, .bool rr, .bool rw, .int .i64 rk, .bool lk]] => Q (.bool (decide (regZ on w f t rr rw rk lk ∨ regO on w f t rk))) H false false
  | _ => False
theorem m12 : Mono s12 := by
  intro vs H Q Q' hQ h
  unfold s12 at h ⊢
  split at h
  all_goals first
    | exact h.elim
    | (repeat' (first | exact hQ _ _ _ _ h | refine And.imp_right (fun h => ?_) h | refine Exists.imp (fun _ h => ?_) h | (intro z; replace h := h z)))
theorem k12 : Snd Tryd.prog 1 12 s12 := by
  refine snd_of_ev (by kernel_rfl) (C := tab [(25, s25)]) (sndC_cons k25 (sndC_nil)) x12 n12 c12 30 ?_
  intro vs H Q hs
  unfold s12 at hs
  split at hs
  · rename_i on w f t rr rw rk lk
    have hq := hs; clear hs
    repeat' (conv => whnf
             first
             | (refine Stop.mk ?_)
             | (refine fI_gen ?_; intro z hz)
             | (refine fO_gen ?_; intro z hz)
             | (refine dec_true (by assumption) ?_)
             | (refine dec_false (by assumption) ?_)
             | (refine dec_split (fun h => ?_) (fun h => ?_))
             | (apply silE)
             | (exact And.intro rfl (And.intro rfl (And.intro rfl rfl)))
             | (refine And.intro (by first | omega | ((simp only [decide_eq_true_eq, decide_eq_false_iff_not, Bool.and_eq_true, beq_iff_eq, Bool.not_eq_true', Bool.not_eq_false'] at *); omega) | (subst_vars; simp only [Int.ofNat_eq_natCast, tq_not, fq_not, tq_and, fq_and, tq_or, fq_or, tq_beq, fq_beq, tq_bne, fq_bne, tq_dec, fq_dec, one1, V.tup.injEq, V.agg.injEq, List.cons.injEq, V.int.injEq, V.bool.injEq, true_and, and_true, decide_eq_true_eq, decide_eq_false_iff_not, Bool.and_eq_true, Bool.and_eq_false_iff, Bool.or_eq_true, Bool.or_eq_false_iff, Bool.not_eq_true', Bool.not_eq_false', beq_iff_eq, wrap_u32, wrap_i64, wrap_u8, beq_eq_false_iff_ne, ne_eq, bne_iff_ne, bne_eq_false_iff_eq, eq_self, and_self, splice, V.cells, List.take_succ_cons, List.take_zero, List.take_nil, List.drop_zero, List.drop_succ_cons, List.drop_nil, List.cons_append, List.nil_append, List.append_nil, List.length_cons, List.length_nil, Nat.zero_add, Nat.reduceAdd, if_true, if_false, Bool.false_eq_true, beq_self_eq_true, decide_eq_decide, Bool.true_eq_false, or_false, false_or, or_true, true_or, and_false, false_and, not_true_eq_false, not_false_eq_true, Bool.and_true, Bool.true_and, Bool.not_true, Bool.not_false] at *; omega)) ?_)
             | (refine Exists.intro _ (Exists.intro _ (And.intro rfl ?_)))
             | (refine Exists.intro _ (And.intro rfl ?_))
             | (refine Exists.intro _ (Exists.intro _ (Exists.intro _ (Exists.intro _ (And.intro rfl ?_)))))
             | (refine ld_step rfl (by assumption) rfl ?_)
             | (refine lds_step rfl (by assumption) rfl ?_)
             | (refine fL_mk ?_)
             | (refine fH_mk ?_)
             | (refine fN_mk ?_)
             | (refine fLB_mk ?_)
             | (refine And.intro (by first | assumption | exact GLB_app (by assumption) | exact GLB_app (GLB_app (by assumption))) ?_)
             | (refine ld_step rfl ((rd_x0 _ _ _ _ _).trans rfl) rfl ?_)
             | (refine ld_step rfl ((rd_x1 _ _ _ _ _ _).trans rfl) rfl ?_)
             | (refine drec_yes (by omega) ?_)
             | (refine drec_no (by omega) ?_)
             | (intro _)
             | fail)
    all_goals
      conv => whnf
      first
      | refine leafE hq ?_
      | refine leafH hq ?_ (take_app1 H _)
      | refine leafH hq ?_ (take_app2 H _ _)
      clear hq
      first
      | rfl
      | grind [one1, regZ]
      | (refine (congrArg V.bool ?_ : V.bool _ = V.bool _)
         subst_vars
         rw [Bool.eq_iff_iff]
         simp only [Int.ofNat_eq_natCast, tq_not, fq_not, tq_and, fq_and, tq_or, fq_or, tq_beq, fq_beq, tq_bne, fq_bne, tq_dec, fq_dec, one1, V.tup.injEq, V.agg.injEq, List.cons.injEq, V.int.injEq, V.bool.injEq, true_and, and_true, decide_eq_true_eq, decide_eq_false_iff_not, Bool.and_eq_true, Bool.and_eq_false_iff, Bool.or_eq_true, Bool.or_eq_false_iff, Bool.not_eq_true', Bool.not_eq_false', beq_iff_eq, wrap_u32, wrap_i64, wrap_u8, beq_eq_false_iff_ne, ne_eq, bne_iff_ne, bne_eq_false_iff_eq, eq_self, and_self, splice, V.cells, List.take_succ_cons, List.take_zero, List.take_nil, List.drop_zero, List.drop_succ_cons, List.drop_nil, List.cons_append, List.nil_append, List.append_nil, List.length_cons, List.length_nil, Nat.zero_add, Nat.reduceAdd, if_true, if_false, Bool.false_eq_true, beq_self_eq_true, decide_eq_decide, Bool.true_eq_false, or_false, false_or, or_true, true_or, and_false, false_and, not_true_eq_false, not_false_eq_true, Bool.and_true, Bool.true_and, Bool.not_true, Bool.not_false] at *
         simp only [regZ] at *
         constructor <;> intro hh <;> grind)
  · exact hs.elim
def s14 : Sp := fun vs H Q => match vs with
  | [.agg [.bool on, .int .i64 w, .int .u32 f, .int .u32 t, .bool rr, .bool rw, .int .i64 rk, .bool lk], .agg [.int .i64 aw, .bool awr, .int .u32 aa, .int .i64 an, .int .u32 ad]] => ((0 ≤ f ∧ f < 4294967296) ∧ (0 ≤ t ∧ t < 4294967296) ∧ (0 ≤ aa ∧ aa < 4294967296) ∧ (0 ≤ ad ∧ ad < 4294967296) ∧ (-9223372036854775808 ≤ an ∧ an < 9223372036854775808)) ∧ GLB H ∧ Q (.bool (decide (hasP on w f t rk aw awr aa an ad))) H false false
  | _ => False
theorem m14 : Mono s14 := by
  intro vs H Q Q' hQ h
  unfold s14 at h ⊢
  split at h
  all_goals first
    | exact h.elim
    | (repeat' (first | exact hQ _ _ _ _ h | refine And.imp_right (fun h => ?_) h | refine Exists.imp (fun _ h => ?_) h | (intro z; replace h := h z)))
theorem k14 : Snd Tryd.prog 1 14 s14 := by
  refine snd_of_ev (by kernel_rfl) (C := tab [(27, s27c), (25, s25), (16, s16)]) (sndC_cons k27c (sndC_cons k25 (sndC_cons k16 (sndC_nil)))) x14 n14 c14 30 ?_
  intro vs H Q hs
  unfold s14 at hs
  split at hs
  · rename_i on w f t rr rw rk lk aw awr aa an ad
    obtain ⟨hp, hs⟩ := hs
    obtain ⟨hg, hs⟩ := hs
    have hq := hs; clear hs
    repeat' (conv => whnf
             first
             | (refine Stop.mk ?_)
             | (refine fI_gen ?_; intro z hz)
             | (refine fO_gen ?_; intro z hz)
             | (rintro x y o (⟨rfl, hd⟩ | ⟨rfl, hd⟩))
             | (refine dec_true (by assumption) ?_)
             | (refine dec_false (by assumption) ?_)
             | (refine dec_split (fun h => ?_) (fun h => ?_))
             | (apply silE)
             | (exact And.intro rfl (And.intro rfl (And.intro rfl rfl)))
             | (refine And.intro (by first | omega | ((simp only [decide_eq_true_eq, decide_eq_false_iff_not, Bool.and_eq_true, beq_iff_eq, Bool.not_eq_true', Bool.not_eq_false'] at *); omega) | (subst_vars; simp only [Int.ofNat_eq_natCast, tq_not, fq_not, tq_and, fq_and, tq_or, fq_or, tq_beq, fq_beq, tq_bne, fq_bne, tq_dec, fq_dec, one1, V.tup.injEq, V.agg.injEq, List.cons.injEq, V.int.injEq, V.bool.injEq, true_and, and_true, decide_eq_true_eq, decide_eq_false_iff_not, Bool.and_eq_true, Bool.and_eq_false_iff, Bool.or_eq_true, Bool.or_eq_false_iff, Bool.not_eq_true', Bool.not_eq_false', beq_iff_eq, wrap_u32, wrap_i64, wrap_u8, beq_eq_false_iff_ne, ne_eq, bne_iff_ne, bne_eq_false_iff_eq, eq_self, and_self, splice, V.cells, List.take_succ_cons, List.take_zero, List.take_nil, List.drop_zero, List.drop_succ_cons, List.drop_nil, List.cons_append, List.nil_append, List.append_nil, List.length_cons, List.length_nil, Nat.zero_add, Nat.reduceAdd, if_true, if_false, Bool.false_eq_true, beq_self_eq_true, decide_eq_decide, Bool.true_eq_false, or_false, false_or, or_true, true_or, and_false, false_and, not_true_eq_false, not_false_eq_true, Bool.and_true, Bool.true_and, Bool.not_true, Bool.not_false] at *; omega)) ?_)
             | (refine Exists.intro _ (Exists.intro _ (And.intro rfl ?_)))
             | (refine Exists.intro _ (And.intro rfl ?_))
             | (refine Exists.intro _ (Exists.intro _ (Exists.intro _ (Exists.intro _ (And.intro rfl ?_)))))
             | (refine ld_step rfl (by assumption) rfl ?_)
             | (refine lds_step rfl (by assumption) rfl ?_)
             | (refine fL_mk ?_)
             | (refine fH_mk ?_)
             | (refine fN_mk ?_)
             | (refine fLB_mk ?_)
             | (refine And.intro (by first | assumption | exact GLB_app (by assumption) | exact GLB_app (GLB_app (by assumption))) ?_)
             | (refine ld_step rfl ((rd_x0 _ _ _ _ _).trans rfl) rfl ?_)
             | (refine ld_step rfl ((rd_x1 _ _ _ _ _ _).trans rfl) rfl ?_)
             | (refine drec_yes (by omega) ?_)
             | (refine drec_no (by omega) ?_)
             | (intro _)
             | fail)
    all_goals
      conv => whnf
      first
      | refine leafE hq ?_
      | refine leafH hq ?_ (take_app1 H _)
      | refine leafH hq ?_ (take_app2 H _ _)
      clear hq
      first
      | rfl
      | grind [one1, hasP, regO, regZ]
      | (refine (congrArg V.bool ?_ : V.bool _ = V.bool _)
         subst_vars
         rw [Bool.eq_iff_iff]
         simp only [Int.ofNat_eq_natCast, tq_not, fq_not, tq_and, fq_and, tq_or, fq_or, tq_beq, fq_beq, tq_bne, fq_bne, tq_dec, fq_dec, one1, V.tup.injEq, V.agg.injEq, List.cons.injEq, V.int.injEq, V.bool.injEq, true_and, and_true, decide_eq_true_eq, decide_eq_false_iff_not, Bool.and_eq_true, Bool.and_eq_false_iff, Bool.or_eq_true, Bool.or_eq_false_iff, Bool.not_eq_true', Bool.not_eq_false', beq_iff_eq, wrap_u32, wrap_i64, wrap_u8, beq_eq_false_iff_ne, ne_eq, bne_iff_ne, bne_eq_false_iff_eq, eq_self, and_self, splice, V.cells, List.take_succ_cons, List.take_zero, List.take_nil, List.drop_zero, List.drop_succ_cons, List.drop_nil, List.cons_append, List.nil_append, List.append_nil, List.length_cons, List.length_nil, Nat.zero_add, Nat.reduceAdd, if_true, if_false, Bool.false_eq_true, beq_self_eq_true, decide_eq_decide, Bool.true_eq_false, or_false, false_or, or_true, true_or, and_false, false_and, not_true_eq_false, not_false_eq_true, Bool.and_true, Bool.true_and, Bool.not_true, Bool.not_false] at *
         simp only [hasP, regO, regZ] at *
         constructor <;> intro hh <;> grind)
  · exact hs.elim
def s15 : Sp := fun vs H Q => match vs with
  | [.agg [.bool on, .int .i64 w, .int .u32 f, .int .u32 t, .bool rr, .bool rw, .int .i64 rk, .bool lk], .agg [.int .i64 aw, .bool awr, .int .u32 aa, .int .i64 an, .int .u32 ad]] => ((0 ≤ f ∧ f < 4294967296) ∧ (0 ≤ t ∧ t < 4294967296) ∧ (0 ≤ aa ∧ aa < 4294967296) ∧ (0 ≤ ad ∧ ad < 4294967296) ∧ (-9223372036854775808 ≤ an ∧ an < 9223372036854775808)) ∧ GLB H ∧ Q (.bool (decide (hasP on w f t rk aw awr aa an ad ∧ letP awr rr rw))) H false false
  | _ => False
theorem m15 : Mono s15 := by
  intro vs H Q Q' hQ h
  unfold s15 at h ⊢
  split at h
  all_goals first
    | exact h.elim
    | (repeat' (first | exact hQ _ _ _ _ h | refine And.imp_right (fun h => ?_) h | refine Exists.imp (fun _ h => ?_) h | (intro z; replace h := h z)))
theorem k15 : Snd Tryd.prog 1 15 s15 := by
  refine snd_of_ev (by kernel_rfl) (C := tab [(14, s14)]) (sndC_cons k14 (sndC_nil)) x15 n15 c15 30 ?_
  intro vs H Q hs
  unfold s15 at hs
  split at hs
  · rename_i on w f t rr rw rk lk aw awr aa an ad
    obtain ⟨hp, hs⟩ := hs
    obtain ⟨hg, hs⟩ := hs
    have hq := hs; clear hs
    repeat' (conv => whnf
             first
             | (refine Stop.mk ?_)
             | (refine fI_gen ?_; intro z hz)
             | (refine fO_gen ?_; intro z hz)
             | (refine dec_true (by assumption) ?_)
             | (refine dec_false (by assumption) ?_)
             | (refine dec_split (fun h => ?_) (fun h => ?_))
             | (apply silE)
             | (exact And.intro rfl (And.intro rfl (And.intro rfl rfl)))
             | (refine And.intro (by first | omega | ((simp only [decide_eq_true_eq, decide_eq_false_iff_not, Bool.and_eq_true, beq_iff_eq, Bool.not_eq_true', Bool.not_eq_false'] at *); omega) | (subst_vars; simp only [Int.ofNat_eq_natCast, tq_not, fq_not, tq_and, fq_and, tq_or, fq_or, tq_beq, fq_beq, tq_bne, fq_bne, tq_dec, fq_dec, one1, V.tup.injEq, V.agg.injEq, List.cons.injEq, V.int.injEq, V.bool.injEq, true_and, and_true, decide_eq_true_eq, decide_eq_false_iff_not, Bool.and_eq_true, Bool.and_eq_false_iff, Bool.or_eq_true, Bool.or_eq_false_iff, Bool.not_eq_true', Bool.not_eq_false', beq_iff_eq, wrap_u32, wrap_i64, wrap_u8, beq_eq_false_iff_ne, ne_eq, bne_iff_ne, bne_eq_false_iff_eq, eq_self, and_self, splice, V.cells, List.take_succ_cons, List.take_zero, List.take_nil, List.drop_zero, List.drop_succ_cons, List.drop_nil, List.cons_append, List.nil_append, List.append_nil, List.length_cons, List.length_nil, Nat.zero_add, Nat.reduceAdd, if_true, if_false, Bool.false_eq_true, beq_self_eq_true, decide_eq_decide, Bool.true_eq_false, or_false, false_or, or_true, true_or, and_false, false_and, not_true_eq_false, not_false_eq_true, Bool.and_true, Bool.true_and, Bool.not_true, Bool.not_false] at *; omega)) ?_)
             | (refine Exists.intro _ (Exists.intro _ (And.intro rfl ?_)))
             | (refine Exists.intro _ (And.intro rfl ?_))
             | (refine Exists.intro _ (Exists.intro _ (Exists.intro _ (Exists.intro _ (And.intro rfl ?_)))))
             | (refine ld_step rfl (by assumption) rfl ?_)
             | (refine lds_step rfl (by assumption) rfl ?_)
             | (refine fL_mk ?_)
             | (refine fH_mk ?_)
             | (refine fN_mk ?_)
             | (refine fLB_mk ?_)
             | (refine And.intro (by first | assumption | exact GLB_app (by assumption) | exact GLB_app (GLB_app (by assumption))) ?_)
             | (refine ld_step rfl ((rd_x0 _ _ _ _ _).trans rfl) rfl ?_)
             | (refine ld_step rfl ((rd_x1 _ _ _ _ _ _).trans rfl) rfl ?_)
             | (refine drec_yes (by omega) ?_)
             | (refine drec_no (by omega) ?_)
             | (intro _)
             | fail)
    all_goals
      conv => whnf
      first
      | refine leafE hq ?_
      | refine leafH hq ?_ (take_app1 H _)
      | refine leafH hq ?_ (take_app2 H _ _)
      clear hq
      first
      | rfl
      | grind [one1, letP]
      | (refine (congrArg V.bool ?_ : V.bool _ = V.bool _)
         subst_vars
         rw [Bool.eq_iff_iff]
         simp only [Int.ofNat_eq_natCast, tq_not, fq_not, tq_and, fq_and, tq_or, fq_or, tq_beq, fq_beq, tq_bne, fq_bne, tq_dec, fq_dec, one1, V.tup.injEq, V.agg.injEq, List.cons.injEq, V.int.injEq, V.bool.injEq, true_and, and_true, decide_eq_true_eq, decide_eq_false_iff_not, Bool.and_eq_true, Bool.and_eq_false_iff, Bool.or_eq_true, Bool.or_eq_false_iff, Bool.not_eq_true', Bool.not_eq_false', beq_iff_eq, wrap_u32, wrap_i64, wrap_u8, beq_eq_false_iff_ne, ne_eq, bne_iff_ne, bne_eq_false_iff_eq, eq_self, and_self, splice, V.cells, List.take_succ_cons, List.take_zero, List.take_nil, List.drop_zero, List.drop_succ_cons, List.drop_nil, List.cons_append, List.nil_append, List.append_nil, List.length_cons, List.length_nil, Nat.zero_add, Nat.reduceAdd, if_true, if_false, Bool.false_eq_true, beq_self_eq_true, decide_eq_decide, Bool.true_eq_false, or_false, false_or, or_true, true_or, and_false, false_and, not_true_eq_false, not_false_eq_true, Bool.and_true, Bool.true_and, Bool.not_true, Bool.not_false] at *
         simp only [letP] at *
         constructor <;> intro hh <;> grind)
  · exact hs.elim
def s23 : Sp := fun vs H Q => match vs with
  | [.agg [.bool on, .int .i64 w, .int .u32 f, .int .u32 t, .bool rr, .bool rw, .int .i64 rk, .bool lk], .agg [.bool on2, .int .i64 w2, .int .u32 f2, .int .u32 t2, .bool rr2, .bool rw2, .int .i64 rk2, .bool lk2]] => Q (.bool (decide (regO on w f t rk ∧ regO on2 w2 f2 t2 rk2))) H false false
  | _ => False
theorem m23 : Mono s23 := by
  intro vs H Q Q' hQ h
  unfold s23 at h ⊢
  split at h
  all_goals first
    | exact h.elim
    | (repeat' (first | exact hQ _ _ _ _ h | refine And.imp_right (fun h => ?_) h | refine Exists.imp (fun _ h => ?_) h | (intro z; replace h := h z)))
theorem k23 : Snd Tryd.prog 1 23 s23 := by
  refine snd_of_ev (by kernel_rfl) (C := tab [(25, s25)]) (sndC_cons k25 (sndC_nil)) x23 n23 c23 30 ?_
  intro vs H Q hs
  unfold s23 at hs
  split at hs
  · skip
    have hq := hs; clear hs
    repeat' (conv => whnf
             first
             | (refine Stop.mk ?_)
             | (refine fI_gen ?_; intro z hz)
             | (refine fO_gen ?_; intro z hz)
             | (refine dec_true (by assumption) ?_)
             | (refine dec_false (by assumption) ?_)
             | (refine dec_split (fun h => ?_) (fun h => ?_))
             | (apply silE)
             | (exact And.intro rfl (And.intro rfl (And.intro rfl rfl)))
             | (refine And.intro (by first | omega | ((simp only [decide_eq_true_eq, decide_eq_false_iff_not, Bool.and_eq_true, beq_iff_eq, Bool.not_eq_true', Bool.not_eq_false'] at *); omega) | (subst_vars; simp only [Int.ofNat_eq_natCast, tq_not, fq_not, tq_and, fq_and, tq_or, fq_or, tq_beq, fq_beq, tq_bne, fq_bne, tq_dec, fq_dec, one1, V.tup.injEq, V.agg.injEq, List.cons.injEq, V.int.injEq, V.bool.injEq, true_and, and_true, decide_eq_true_eq, decide_eq_false_iff_not, Bool.and_eq_true, Bool.and_eq_false_iff, Bool.or_eq_true, Bool.or_eq_false_iff, Bool.not_eq_true', Bool.not_eq_false', beq_iff_eq, wrap_u32, wrap_i64, wrap_u8, beq_eq_false_iff_ne, ne_eq, bne_iff_ne, bne_eq_false_iff_eq, eq_self, and_self, splice, V.cells, List.take_succ_cons, List.take_zero, List.take_nil, List.drop_zero, List.drop_succ_cons, List.drop_nil, List.cons_append, List.nil_append, List.append_nil, List.length_cons, List.length_nil, Nat.zero_add, Nat.reduceAdd, if_true, if_false, Bool.false_eq_true, beq_self_eq_true, decide_eq_decide, Bool.true_eq_false, or_false, false_or, or_true, true_or, and_false, false_and, not_true_eq_false, not_false_eq_true, Bool.and_true, Bool.true_and, Bool.not_true, Bool.not_false] at *; omega)) ?_)
             | (refine Exists.intro _ (Exists.intro _ (And.intro rfl ?_)))
             | (refine Exists.intro _ (And.intro rfl ?_))
             | (refine Exists.intro _ (Exists.intro _ (Exists.intro _ (Exists.intro _ (And.intro rfl ?_)))))
             | (refine ld_step rfl (by assumption) rfl ?_)
             | (refine lds_step rfl (by assumption) rfl ?_)
             | (refine fL_mk ?_)
             | (refine fH_mk ?_)
             | (refine fN_mk ?_)
             | (refine fLB_mk ?_)
             | (refine And.intro (by first | assumption | exact GLB_app (by assumption) | exact GLB_app (GLB_app (by assumption))) ?_)
             | (refine ld_step rfl ((rd_x0 _ _ _ _ _).trans rfl) rfl ?_)
             | (refine ld_step rfl ((rd_x1 _ _ _ _ _ _).trans rfl) rfl ?_)
             | (refine drec_yes (by omega) ?_)
             | (refine drec_no (by omega) ?_)
             | (intro _)
             | fail)
    all_goals
      conv => whnf
      first
      | refine leafE hq ?_
      | refine leafH hq ?_ (take_app1 H _)
      | refine leafH hq ?_ (take_app2 H _ _)
      clear hq
      first
      | rfl
      | grind [one1]
      | (refine (congrArg V.bool ?_ : V.bool _ = V.bool _)
         subst_vars
         rw [Bool.eq_iff_iff]
         simp only [Int.ofNat_eq_natCast, tq_not, fq_not, tq_and, fq_and, tq_or, fq_or, tq_beq, fq_beq, tq_bne, fq_bne, tq_dec, fq_dec, one1, V.tup.injEq, V.agg.injEq, List.cons.injEq, V.int.injEq, V.bool.injEq, true_and, and_true, decide_eq_true_eq, decide_eq_false_iff_not, Bool.and_eq_true, Bool.and_eq_false_iff, Bool.or_eq_true, Bool.or_eq_false_iff, Bool.not_eq_true', Bool.not_eq_false', beq_iff_eq, wrap_u32, wrap_i64, wrap_u8, beq_eq_false_iff_ne, ne_eq, bne_iff_ne, bne_eq_false_iff_eq, eq_self, and_self, splice, V.cells, List.take_succ_cons, List.take_zero, List.take_nil, List.drop_zero, List.drop_succ_cons, List.drop_nil, List.cons_append, List.nil_append, List.append_nil, List.length_cons, List.length_nil, Nat.zero_add, Nat.reduceAdd, if_true, if_false, Bool.false_eq_true, beq_self_eq_true, decide_eq_decide, Bool.true_eq_false, or_false, false_or, or_true, true_or, and_false, false_and, not_true_eq_false, not_false_eq_true, Bool.and_true, Bool.true_and, Bool.not_true, Bool.not_false] at *
         skip
         constructor <;> intro hh <;> grind)
  · exact hs.elim
def s11 : Sp := fun vs H Q => match vs with
  | [.agg [.bool on, .int .i64 w, .int .u32 f, .int .u32 t, .bool rr, .bool rw, .int .i64 rk, .bool lk], .agg [.bool on2, .int .i64 w2, .int .u32 f2, .int .u32 t2, .bool rr2, .bool rw2, .int .i64 rk2, .bool lk2]] => Q (.bool (decide (clashP on w f t rk on2 w2 f2 t2 rk2))) H false false
  | _ => False
theorem m11 : Mono s11 := by
  intro vs H Q Q' hQ h
  unfold s11 at h ⊢
  split at h
  all_goals first
    | exact h.elim
    | (repeat' (first | exact hQ _ _ _ _ h | refine And.imp_right (fun h => ?_) h | refine Exists.imp (fun _ h => ?_) h | (intro z; replace h := h z)))
theorem k11 : Snd Tryd.prog 1 11 s11 := by
  refine snd_of_ev (by kernel_rfl) (C := tab [(23, s23), (24, s24t)]) (sndC_cons k23 (sndC_cons k24t (sndC_nil))) x11 n11 c11 30 ?_
  intro vs H Q hs
  unfold s11 at hs
  split at hs
  · rename_i on w f t rr rw rk lk on2 w2 f2 t2 rr2 rw2 rk2 lk2
    have hq := hs; clear hs
    repeat' (conv => whnf
             first
             | (refine Stop.mk ?_)
             | (refine fI_gen ?_; intro z hz)
             | (refine fO_gen ?_; intro z hz)
             | (refine ⟨_, _, _, _, (rd_x0 _ _ _ _ _).trans rfl, ?_⟩)
             | (refine dec_true (by assumption) ?_)
             | (refine dec_false (by assumption) ?_)
             | (refine dec_split (fun h => ?_) (fun h => ?_))
             | (apply silE)
             | (exact And.intro rfl (And.intro rfl (And.intro rfl rfl)))
             | (refine And.intro (by first | omega | ((simp only [decide_eq_true_eq, decide_eq_false_iff_not, Bool.and_eq_true, beq_iff_eq, Bool.not_eq_true', Bool.not_eq_false'] at *); omega) | (subst_vars; simp only [Int.ofNat_eq_natCast, tq_not, fq_not, tq_and, fq_and, tq_or, fq_or, tq_beq, fq_beq, tq_bne, fq_bne, tq_dec, fq_dec, one1, V.tup.injEq, V.agg.injEq, List.cons.injEq, V.int.injEq, V.bool.injEq, true_and, and_true, decide_eq_true_eq, decide_eq_false_iff_not, Bool.and_eq_true, Bool.and_eq_false_iff, Bool.or_eq_true, Bool.or_eq_false_iff, Bool.not_eq_true', Bool.not_eq_false', beq_iff_eq, wrap_u32, wrap_i64, wrap_u8, beq_eq_false_iff_ne, ne_eq, bne_iff_ne, bne_eq_false_iff_eq, eq_self, and_self, splice, V.cells, List.take_succ_cons, List.take_zero, List.take_nil, List.drop_zero, List.drop_succ_cons, List.drop_nil, List.cons_append, List.nil_append, List.append_nil, List.length_cons, List.length_nil, Nat.zero_add, Nat.reduceAdd, if_true, if_false, Bool.false_eq_true, beq_self_eq_true, decide_eq_decide, Bool.true_eq_false, or_false, false_or, or_true, true_or, and_false, false_and, not_true_eq_false, not_false_eq_true, Bool.and_true, Bool.true_and, Bool.not_true, Bool.not_false] at *; omega)) ?_)
             | (refine Exists.intro _ (Exists.intro _ (And.intro rfl ?_)))
             | (refine Exists.intro _ (And.intro rfl ?_))
             | (refine Exists.intro _ (Exists.intro _ (Exists.intro _ (Exists.intro _ (And.intro rfl ?_)))))
             | (refine ld_step rfl (by assumption) rfl ?_)
             | (refine lds_step rfl (by assumption) rfl ?_)
             | (refine fL_mk ?_)
             | (refine fH_mk ?_)
             | (refine fN_mk ?_)
             | (refine fLB_mk ?_)
             | (refine And.intro (by first | assumption | exact GLB_app (by assumption) | exact GLB_app (GLB_app (by assumption))) ?_)
             | (refine ld_step rfl ((rd_x0 _ _ _ _ _).trans rfl) rfl ?_)
             | (refine ld_step rfl ((rd_x1 _ _ _ _ _ _).trans rfl) rfl ?_)
             | (refine drec_yes (by omega) ?_)
             | (refine drec_no (by omega) ?_)
             | (intro _)
             | fail)
    all_goals
      conv => whnf
      first
      | refine leafE hq ?_
      | refine leafH hq ?_ (take_app1 H _)
      clear hq
      grind [one1, clashP, regO]
  · exact hs.elim
def s17 : Sp := fun vs H Q => match vs with
  | [.agg [.bool on, .int .i64 w, .int .u32 f, .int .u32 t, .bool rr, .bool rw, .int .i64 rk, .bool lk], .agg [.bool on2, .int .i64 w2, .int .u32 f2, .int .u32 t2, .bool rr2, .bool rw2, .int .i64 rk2, .bool lk2]] => Q (.bool (decide (aboveP on w f t rk on2 w2 f2 t2 rk2))) H false false
  | _ => False
theorem m17 : Mono s17 := by
  intro vs H Q Q' hQ h
  unfold s17 at h ⊢
  split at h
  all_goals first
    | exact h.elim
    | (repeat' (first | exact hQ _ _ _ _ h | refine And.imp_right (fun h => ?_) h | refine Exists.imp (fun _ h => ?_) h | (intro z; replace h := h z)))
theorem k17 : Snd Tryd.prog 1 17 s17 := by
  refine snd_of_ev (by kernel_rfl) (C := tab [(23, s23)]) (sndC_cons k23 (sndC_nil)) x17 n17 c17 30 ?_
  intro vs H Q hs
  unfold s17 at hs
  split at hs
  · skip
    have hq := hs; clear hs
    repeat' (conv => whnf
             first
             | (refine Stop.mk ?_)
             | (refine fI_gen ?_; intro z hz)
             | (refine fO_gen ?_; intro z hz)
             | (refine dec_true (by assumption) ?_)
             | (refine dec_false (by assumption) ?_)
             | (refine dec_split (fun h => ?_) (fun h => ?_))
             | (apply silE)
             | (exact And.intro rfl (And.intro rfl (And.intro rfl rfl)))
             | (refine And.intro (by first | omega | ((simp only [decide_eq_true_eq, decide_eq_false_iff_not, Bool.and_eq_true, beq_iff_eq, Bool.not_eq_true', Bool.not_eq_false'] at *); omega) | (subst_vars; simp only [Int.ofNat_eq_natCast, tq_not, fq_not, tq_and, fq_and, tq_or, fq_or, tq_beq, fq_beq, tq_bne, fq_bne, tq_dec, fq_dec, one1, V.tup.injEq, V.agg.injEq, List.cons.injEq, V.int.injEq, V.bool.injEq, true_and, and_true, decide_eq_true_eq, decide_eq_false_iff_not, Bool.and_eq_true, Bool.and_eq_false_iff, Bool.or_eq_true, Bool.or_eq_false_iff, Bool.not_eq_true', Bool.not_eq_false', beq_iff_eq, wrap_u32, wrap_i64, wrap_u8, beq_eq_false_iff_ne, ne_eq, bne_iff_ne, bne_eq_false_iff_eq, eq_self, and_self, splice, V.cells, List.take_succ_cons, List.take_zero, List.take_nil, List.drop_zero, List.drop_succ_cons, List.drop_nil, List.cons_append, List.nil_append, List.append_nil, List.length_cons, List.length_nil, Nat.zero_add, Nat.reduceAdd, if_true, if_false, Bool.false_eq_true, beq_self_eq_true, decide_eq_decide, Bool.true_eq_false, or_false, false_or, or_true, true_or, and_false, false_and, not_true_eq_false, not_false_eq_true, Bool.and_true, Bool.true_and, Bool.not_true, Bool.not_false] at *; omega)) ?_)
             | (refine Exists.intro _ (Exists.intro _ (And.intro rfl ?_)))
             | (refine Exists.intro _ (And.intro rfl ?_))
             | (refine Exists.intro _ (Exists.intro _ (Exists.intro _ (Exists.intro _ (And.intro rfl ?_)))))
             | (refine ld_step rfl (by assumption) rfl ?_)
             | (refine lds_step rfl (by assumption) rfl ?_)
             | (refine fL_mk ?_)
             | (refine fH_mk ?_)
             | (refine fN_mk ?_)
             | (refine fLB_mk ?_)
             | (refine And.intro (by first | assumption | exact GLB_app (by assumption) | exact GLB_app (GLB_app (by assumption))) ?_)
             | (refine ld_step rfl ((rd_x0 _ _ _ _ _).trans rfl) rfl ?_)
             | (refine ld_step rfl ((rd_x1 _ _ _ _ _ _).trans rfl) rfl ?_)
             | (refine drec_yes (by omega) ?_)
             | (refine drec_no (by omega) ?_)
             | (intro _)
             | fail)
    all_goals
      conv => whnf
      first
      | refine leafE hq ?_
      | refine leafH hq ?_ (take_app1 H _)
      | refine leafH hq ?_ (take_app2 H _ _)
      clear hq
      first
      | rfl
      | grind [one1, aboveP]
      | (refine (congrArg V.bool ?_ : V.bool _ = V.bool _)
         subst_vars
         rw [Bool.eq_iff_iff]
         simp only [Int.ofNat_eq_natCast, tq_not, fq_not, tq_and, fq_and, tq_or, fq_or, tq_beq, fq_beq, tq_bne, fq_bne, tq_dec, fq_dec, one1, V.tup.injEq, V.agg.injEq, List.cons.injEq, V.int.injEq, V.bool.injEq, true_and, and_true, decide_eq_true_eq, decide_eq_false_iff_not, Bool.and_eq_true, Bool.and_eq_false_iff, Bool.or_eq_true, Bool.or_eq_false_iff, Bool.not_eq_true', Bool.not_eq_false', beq_iff_eq, wrap_u32, wrap_i64, wrap_u8, beq_eq_false_iff_ne, ne_eq, bne_iff_ne, bne_eq_false_iff_eq, eq_self, and_self, splice, V.cells, List.take_succ_cons, List.take_zero, List.take_nil, List.drop_zero, List.drop_succ_cons, List.drop_nil, List.cons_append, List.nil_append, List.append_nil, List.length_cons, List.length_nil, Nat.zero_add, Nat.reduceAdd, if_true, if_false, Bool.false_eq_true, beq_self_eq_true, decide_eq_decide, Bool.true_eq_false, or_false, false_or, or_true, true_or, and_false, false_and, not_true_eq_false, not_false_eq_true, Bool.and_true, Bool.true_and, Bool.not_true, Bool.not_false] at *
         simp only [aboveP] at *
         constructor <;> intro hh <;> grind)
  · exact hs.elim
def s18 : Sp := fun vs H Q => match vs with
  | [.agg [.bool on, .int .i64 w, .int .u32 f, .int .u32 t, .bool rr, .bool rw, .int .i64 rk, .bool lk]] => Q (.bool (decide (regZ on w f t rr rw rk lk ∨ regO on w f t rk))) H false false
  | _ => False
theorem m18 : Mono s18 := by
  intro vs H Q Q' hQ h
  unfold s18 at h ⊢
  split at h
  all_goals first
    | exact h.elim
    | (repeat' (first | exact hQ _ _ _ _ h | refine And.imp_right (fun h => ?_) h | refine Exists.imp (fun _ h => ?_) h | (intro z; replace h := h z)))
theorem k18 : Snd Tryd.prog 1 18 s18 := by
  refine snd_of_ev (by kernel_rfl) (C := tab [(30, s30)]) (sndC_cons k30 (sndC_nil)) x18 n18 c18 30 ?_
  intro vs H Q hs
  unfold s18 at hs
  split at hs
  · rename_i on w f t rr rw rk lk
    have hq := hs; clear hs
    repeat' (conv => whnf
             first
             | (refine Stop.mk ?_)
             | (refine fI_gen ?_; intro z hz)
             | (refine fO_gen ?_; intro z hz)
             | (refine dec_true (by assumption) ?_)
             | (refine dec_false (by assumption) ?_)
             | (refine dec_split (fun h => ?_) (fun h => ?_))
             | (apply silE)
             | (exact And.intro rfl (And.intro rfl (And.intro rfl rfl)))
             | (refine And.intro (by first | omega | ((simp only [decide_eq_true_eq, decide_eq_false_iff_not, Bool.and_eq_true, beq_iff_eq, Bool.not_eq_true', Bool.not_eq_false'] at *); omega) | (subst_vars; simp only [Int.ofNat_eq_natCast, tq_not, fq_not, tq_and, fq_and, tq_or, fq_or, tq_beq, fq_beq, tq_bne, fq_bne, tq_dec, fq_dec, one1, V.tup.injEq, V.agg.injEq, List.cons.injEq, V.int.injEq, V.bool.injEq, true_and, and_true, decide_eq_true_eq, decide_eq_false_iff_not, Bool.and_eq_true, Bool.and_eq_false_iff, Bool.or_eq_true, Bool.or_eq_false_iff, Bool.not_eq_true', Bool.not_eq_false', beq_iff_eq, wrap_u32, wrap_i64, wrap_u8, beq_eq_false_iff_ne, ne_eq, bne_iff_ne, bne_eq_false_iff_eq, eq_self, and_self, splice, V.cells, List.take_succ_cons, List.take_zero, List.take_nil, List.drop_zero, List.drop_succ_cons, List.drop_nil, List.cons_append, List.nil_append, List.append_nil, List.length_cons, List.length_nil, Nat.zero_add, Nat.reduceAdd, if_true, if_false, Bool.false_eq_true, beq_self_eq_true, decide_eq_decide, Bool.true_eq_false, or_false, false_or, or_true, true_or, and_false, false_and, not_true_eq_false, not_false_eq_true, Bool.and_true, Bool.true_and, Bool.not_true, Bool.not_false] at *; omega)) ?_)
             | (refine Exists.intro _ (Exists.intro _ (And.intro rfl ?_)))
             | (refine Exists.intro _ (And.intro rfl ?_))
             | (refine Exists.intro _ (Exists.intro _ (Exists.intro _ (Exists.intro _ (And.intro rfl ?_)))))
             | (refine ld_step rfl (by assumption) rfl ?_)
             | (refine lds_step rfl (by assumption) rfl ?_)
             | (refine fL_mk ?_)
             | (refine fH_mk ?_)
             | (refine fN_mk ?_)
             | (refine fLB_mk ?_)
             | (refine And.intro (by first | assumption | exact GLB_app (by assumption) | exact GLB_app (GLB_app (by assumption))) ?_)
             | (refine ld_step rfl ((rd_x0 _ _ _ _ _).trans rfl) rfl ?_)
             | (refine ld_step rfl ((rd_x1 _ _ _ _ _ _).trans rfl) rfl ?_)
             | (refine drec_yes (by omega) ?_)
             | (refine drec_no (by omega) ?_)
             | (intro _)
             | fail)
    all_goals
      conv => whnf
      first
      | refine leafE hq ?_
      | refine leafH hq ?_ (take_app1 H _)
      | refine leafH hq ?_ (take_app2 H _ _)
      clear hq
      first
      | rfl
      | grind [one1, regZ, regO]
      | (refine (congrArg V.bool ?_ : V.bool _ = V.bool _)
         subst_vars
         rw [Bool.eq_iff_iff]
         simp only [Int.ofNat_eq_natCast, tq_not, fq_not, tq_and, fq_and, tq_or, fq_or, tq_beq, fq_beq, tq_bne, fq_bne, tq_dec, fq_dec, one1, V.tup.injEq, V.agg.injEq, List.cons.injEq, V.int.injEq, V.bool.injEq, true_and, and_true, decide_eq_true_eq, decide_eq_false_iff_not, Bool.and_eq_true, Bool.and_eq_false_iff, Bool.or_eq_true, Bool.or_eq_false_iff, Bool.not_eq_true', Bool.not_eq_false', beq_iff_eq, wrap_u32, wrap_i64, wrap_u8, beq_eq_false_iff_ne, ne_eq, bne_iff_ne, bne_eq_false_iff_eq, eq_self, and_self, splice, V.cells, List.take_succ_cons, List.take_zero, List.take_nil, List.drop_zero, List.drop_succ_cons, List.drop_nil, List.cons_append, List.nil_append, List.append_nil, List.length_cons, List.length_nil, Nat.zero_add, Nat.reduceAdd, if_true, if_false, Bool.false_eq_true, beq_self_eq_true, decide_eq_decide, Bool.true_eq_false, or_false, false_or, or_true, true_or, and_false, false_and, not_true_eq_false, not_false_eq_true, Bool.and_true, Bool.true_and, Bool.not_true, Bool.not_false] at *
         simp only [regZ, regO] at *
         constructor <;> intro hh <;> grind)
  · exact hs.elim
def s19 : Sp := fun vs H Q => match vs with
  | [.agg [.bool on, .int .i64 w, .int .u32 f, .int .u32 t, .bool rr, .bool rw, .int .i64 rk, .bool lk], .agg [.int .i64 aw, .bool awr, .int .u32 aa, .int .i64 an, .int .u32 ad]] => ((0 ≤ f ∧ f < 4294967296) ∧ (0 ≤ t ∧ t < 4294967296) ∧ (0 ≤ aa ∧ aa < 4294967296) ∧ (0 ≤ ad ∧ ad < 4294967296) ∧ (-9223372036854775808 ≤ an ∧ an < 9223372036854775808)) ∧ Q (.bool (decide (hasP on w f t rk aw awr aa an ad))) H false false
  | _ => False
theorem m19 : Mono s19 := by
  intro vs H Q Q' hQ h
  unfold s19 at h ⊢
  split at h
  all_goals first
    | exact h.elim
    | (repeat' (first | exact hQ _ _ _ _ h | refine And.imp_right (fun h => ?_) h | refine Exists.imp (fun _ h => ?_) h | (intro z; replace h := h z)))
theorem k19 : Snd Tryd.prog 1 19 s19 := by
  refine snd_of_ev (by kernel_rfl) (C := tab [(31, s31c), (18, s18), (32, s32)]) (sndC_cons k31c (sndC_cons k18 (sndC_cons k32 (sndC_nil)))) x19 n19 c19 30 ?_
  intro vs H Q hs
  unfold s19 at hs
  split at hs
  · rename_i on w f t rr rw rk lk aw awr aa an ad
    obtain ⟨hp, hs⟩ := hs
    have hq := hs; clear hs
    repeat' (conv => whnf
             first
             | (refine Stop.mk ?_)
             | (refine fI_gen ?_; intro z hz)
             | (refine fO_gen ?_; intro z hz)
             | (rintro x y o (⟨rfl, hd⟩ | ⟨rfl, hd⟩))
             | (refine dec_true (by assumption) ?_)
             | (refine dec_false (by assumption) ?_)
             | (refine dec_split (fun h => ?_) (fun h => ?_))
             | (apply silE)
             | (exact And.intro rfl (And.intro rfl (And.intro rfl rfl)))
             | (refine And.intro (by first | omega | ((simp only [decide_eq_true_eq, decide_eq_false_iff_not, Bool.and_eq_true, beq_iff_eq, Bool.not_eq_true', Bool.not_eq_false'] at *); omega) | (subst_vars; simp only [Int.ofNat_eq_natCast, tq_not, fq_not, tq_and, fq_and, tq_or, fq_or, tq_beq, fq_beq, tq_bne, fq_bne, tq_dec, fq_dec, one1, V.tup.injEq, V.agg.injEq, List.cons.injEq, V.int.injEq, V.bool.injEq, true_and, and_true, decide_eq_true_eq, decide_eq_false_iff_not, Bool.and_eq_true, Bool.and_eq_false_iff, Bool.or_eq_true, Bool.or_eq_false_iff, Bool.not_eq_true', Bool.not_eq_false', beq_iff_eq, wrap_u32, wrap_i64, wrap_u8, beq_eq_false_iff_ne, ne_eq, bne_iff_ne, bne_eq_false_iff_eq, eq_self, and_self, splice, V.cells, List.take_succ_cons, List.take_zero, List.take_nil, List.drop_zero, List.drop_succ_cons, List.drop_nil, List.cons_append, List.nil_append, List.append_nil, List.length_cons, List.length_nil, Nat.zero_add, Nat.reduceAdd, if_true, if_false, Bool.false_eq_true, beq_self_eq_true, decide_eq_decide, Bool.true_eq_false, or_false, false_or, or_true, true_or, and_false, false_and, not_true_eq_false, not_false_eq_true, Bool.and_true, Bool.true_and, Bool.not_true, Bool.not_false] at *; omega)) ?_)
             | (refine Exists.intro _ (Exists.intro _ (And.intro rfl ?_)))
             | (refine Exists.intro _ (And.intro rfl ?_))
             | (refine Exists.intro _ (Exists.intro _ (Exists.intro _ (Exists.intro _ (And.intro rfl ?_)))))
             | (refine ld_step rfl (by assumption) rfl ?_)
             | (refine lds_step rfl (by assumption) rfl ?_)
             | (refine fL_mk ?_)
             | (refine fH_mk ?_)
             | (refine fN_mk ?_)
             | (refine fLB_mk ?_)
             | (refine And.intro (by first | assumption | exact GLB_app (by assumption) | exact GLB_app (GLB_app (by assumption))) ?_)
             | (refine ld_step rfl ((rd_x0 _ _ _ _ _).trans rfl) rfl ?_)
             | (refine ld_step rfl ((rd_x1 _ _ _ _ _ _).trans rfl) rfl ?_)
             | (refine drec_yes (by omega) ?_)
             | (refine drec_no (by omega) ?_)
             | (intro _)
             | fail)
    all_goals
      conv => whnf
      first
      | refine leafE hq ?_
      | refine leafH hq ?_ (take_app1 H _)
      | refine leafH hq ?_ (take_app2 H _ _)
      clear hq
      first
      | rfl
      | grind [one1, hasP, regO, regZ]
      | (refine (congrArg V.bool ?_ : V.bool _ = V.bool _)
         subst_vars
         rw [Bool.eq_iff_iff]
         simp only [Int.ofNat_eq_natCast, tq_not, fq_not, tq_and, fq_and, tq_or, fq_or, tq_beq, fq_beq, tq_bne, fq_bne, tq_dec, fq_dec, one1, V.tup.injEq, V.agg.injEq, List.cons.injEq, V.int.injEq, V.bool.injEq, true_and, and_true, decide_eq_true_eq, decide_eq_false_iff_not, Bool.and_eq_true, Bool.and_eq_false_iff, Bool.or_eq_true, Bool.or_eq_false_iff, Bool.not_eq_true', Bool.not_eq_false', beq_iff_eq, wrap_u32, wrap_i64, wrap_u8, beq_eq_false_iff_ne, ne_eq, bne_iff_ne, bne_eq_false_iff_eq, eq_self, and_self, splice, V.cells, List.take_succ_cons, List.take_zero, List.take_nil, List.drop_zero, List.drop_succ_cons, List.drop_nil, List.cons_append, List.nil_append, List.append_nil, List.length_cons, List.length_nil, Nat.zero_add, Nat.reduceAdd, if_true, if_false, Bool.false_eq_true, beq_self_eq_true, decide_eq_decide, Bool.true_eq_false, or_false, false_or, or_true, true_or, and_false, false_and, not_true_eq_false, not_false_eq_true, Bool.and_true, Bool.true_and, Bool.not_true, Bool.not_false] at *
         simp only [hasP, regO, regZ] at *
         constructor <;> intro hh <;> grind)
  · exact hs.elim
def s20 : Sp := fun vs H Q => match vs with
  | [.agg [.bool on, .int .i64 w, .int .u32 f, .int .u32 t, .bool rr, .bool rw, .int .i64 rk, .bool lk], .agg [.int .i64 aw, .bool awr, .int .u32 aa, .int .i64 an, .int .u32 ad]] => ((0 ≤ f ∧ f < 4294967296) ∧ (0 ≤ t ∧ t < 4294967296) ∧ (0 ≤ aa ∧ aa < 4294967296) ∧ (0 ≤ ad ∧ ad < 4294967296) ∧ (-9223372036854775808 ≤ an ∧ an < 9223372036854775808)) ∧ Q (.bool (decide (hasP on w f t rk aw awr aa an ad ∧ letP awr rr rw))) H false false
  | _ => False
theorem m20 : Mono s20 := by
  intro vs H Q Q' hQ h
  unfold s20 at h ⊢
  split at h
  all_goals first
    | exact h.elim
    | (repeat' (first | exact hQ _ _ _ _ h | refine And.imp_right (fun h => ?_) h | refine Exists.imp (fun _ h => ?_) h | (intro z; replace h := h z)))
theorem k20 : Snd Tryd.prog 1 20 s20 := by
  refine snd_of_ev (by kernel_rfl) (C := tab [(19, s19)]) (sndC_cons k19 (sndC_nil)) x20 n20 c20 30 ?_
  intro vs H Q hs
  unfold s20 at hs
  split at hs
  · rename_i on w f t rr rw rk lk aw awr aa an ad
    obtain ⟨hp, hs⟩ := hs
    have hq := hs; clear hs
    repeat' (conv => whnf
             first
             | (refine Stop.mk ?_)
             | (refine fI_gen ?_; intro z hz)
             | (refine fO_gen ?_; intro z hz)
             | (refine dec_true (by assumption) ?_)
             | (refine dec_false (by assumption) ?_)
             | (refine dec_split (fun h => ?_) (fun h => ?_))
             | (apply silE)
             | (exact And.intro rfl (And.intro rfl (And.intro rfl rfl)))
             | (refine And.intro (by first | omega | ((simp only [decide_eq_true_eq, decide_eq_false_iff_not, Bool.and_eq_true, beq_iff_eq, Bool.not_eq_true', Bool.not_eq_false'] at *); omega) | (subst_vars; simp only [Int.ofNat_eq_natCast, tq_not, fq_not, tq_and, fq_and, tq_or, fq_or, tq_beq, fq_beq, tq_bne, fq_bne, tq_dec, fq_dec, one1, V.tup.injEq, V.agg.injEq, List.cons.injEq, V.int.injEq, V.bool.injEq, true_and, and_true, decide_eq_true_eq, decide_eq_false_iff_not, Bool.and_eq_true, Bool.and_eq_false_iff, Bool.or_eq_true, Bool.or_eq_false_iff, Bool.not_eq_true', Bool.not_eq_false', beq_iff_eq, wrap_u32, wrap_i64, wrap_u8, beq_eq_false_iff_ne, ne_eq, bne_iff_ne, bne_eq_false_iff_eq, eq_self, and_self, splice, V.cells, List.take_succ_cons, List.take_zero, List.take_nil, List.drop_zero, List.drop_succ_cons, List.drop_nil, List.cons_append, List.nil_append, List.append_nil, List.length_cons, List.length_nil, Nat.zero_add, Nat.reduceAdd, if_true, if_false, Bool.false_eq_true, beq_self_eq_true, decide_eq_decide, Bool.true_eq_false, or_false, false_or, or_true, true_or, and_false, false_and, not_true_eq_false, not_false_eq_true, Bool.and_true, Bool.true_and, Bool.not_true, Bool.not_false] at *; omega)) ?_)
             | (refine Exists.intro _ (Exists.intro _ (And.intro rfl ?_)))
             | (refine Exists.intro _ (And.intro rfl ?_))
             | (refine Exists.intro _ (Exists.intro _ (Exists.intro _ (Exists.intro _ (And.intro rfl ?_)))))
             | (refine ld_step rfl (by assumption) rfl ?_)
             | (refine lds_step rfl (by assumption) rfl ?_)
             | (refine fL_mk ?_)
             | (refine fH_mk ?_)
             | (refine fN_mk ?_)
             | (refine fLB_mk ?_)
             | (refine And.intro (by first | assumption | exact GLB_app (by assumption) | exact GLB_app (GLB_app (by assumption))) ?_)
             | (refine ld_step rfl ((rd_x0 _ _ _ _ _).trans rfl) rfl ?_)
             | (refine ld_step rfl ((rd_x1 _ _ _ _ _ _).trans rfl) rfl ?_)
             | (refine drec_yes (by omega) ?_)
             | (refine drec_no (by omega) ?_)
             | (intro _)
             | fail)
    all_goals
      conv => whnf
      first
      | refine leafE hq ?_
      | refine leafH hq ?_ (take_app1 H _)
      | refine leafH hq ?_ (take_app2 H _ _)
      clear hq
      first
      | rfl
      | grind [one1, letP]
      | (refine (congrArg V.bool ?_ : V.bool _ = V.bool _)
         subst_vars
         rw [Bool.eq_iff_iff]
         simp only [Int.ofNat_eq_natCast, tq_not, fq_not, tq_and, fq_and, tq_or, fq_or, tq_beq, fq_beq, tq_bne, fq_bne, tq_dec, fq_dec, one1, V.tup.injEq, V.agg.injEq, List.cons.injEq, V.int.injEq, V.bool.injEq, true_and, and_true, decide_eq_true_eq, decide_eq_false_iff_not, Bool.and_eq_true, Bool.and_eq_false_iff, Bool.or_eq_true, Bool.or_eq_false_iff, Bool.not_eq_true', Bool.not_eq_false', beq_iff_eq, wrap_u32, wrap_i64, wrap_u8, beq_eq_false_iff_ne, ne_eq, bne_iff_ne, bne_eq_false_iff_eq, eq_self, and_self, splice, V.cells, List.take_succ_cons, List.take_zero, List.take_nil, List.drop_zero, List.drop_succ_cons, List.drop_nil, List.cons_append, List.nil_append, List.append_nil, List.length_cons, List.length_nil, Nat.zero_add, Nat.reduceAdd, if_true, if_false, Bool.false_eq_true, beq_self_eq_true, decide_eq_decide, Bool.true_eq_false, or_false, false_or, or_true, true_or, and_false, false_and, not_true_eq_false, not_false_eq_true, Bool.and_true, Bool.true_and, Bool.not_true, Bool.not_false] at *
         simp only [letP] at *
         constructor <;> intro hh <;> grind)
  · exact hs.elim
def s21 : Sp := fun vs H Q => match vs with
  | [.agg [.bool on, .int .i64 w, .int .u32 f, .int .u32 t, .bool rr, .bool rw, .int .i64 rk, .bool lk], .agg [.bool on2, .int .i64 w2, .int .u32 f2, .int .u32 t2, .bool rr2, .bool rw2, .int .i64 rk2, .bool lk2]] => Q (.bool (decide (clashP on w f t rk on2 w2 f2 t2 rk2))) H false false
  | _ => False
theorem m21 : Mono s21 := by
  intro vs H Q Q' hQ h
  unfold s21 at h ⊢
  split at h
  all_goals first
    | exact h.elim
    | (repeat' (first | exact hQ _ _ _ _ h | refine And.imp_right (fun h => ?_) h | refine Exists.imp (fun _ h => ?_) h | (intro z; replace h := h z)))
theorem k21 : Snd Tryd.prog 1 21 s21 := by
  refine snd_of_ev (by kernel_rfl) (C := tab [(18, s18), (33, s33)]) (sndC_cons k18 (sndC_cons k33 (sndC_nil))) x21 n21 c21 30 ?_
  intro vs H Q hs
  unfold s21 at hs
  split at hs
  · rename_i on w f t rr rw rk lk on2 w2 f2 t2 rr2 rw2 rk2 lk2
    have hq := hs; clear hs
    repeat' (conv => whnf
             first
             | (refine Stop.mk ?_)
             | (refine fI_gen ?_; intro z hz)
             | (refine fO_gen ?_; intro z hz)
             | (refine dec_true (by assumption) ?_)
             | (refine dec_false (by assumption) ?_)
             | (refine dec_split (fun h => ?_) (fun h => ?_))
             | (apply silE)
             | (exact And.intro rfl (And.intro rfl (And.intro rfl rfl)))
             | (refine And.intro (by first | omega | ((simp only [decide_eq_true_eq, decide_eq_false_iff_not, Bool.and_eq_true, beq_iff_eq, Bool.not_eq_true', Bool.not_eq_false'] at *); omega) | (subst_vars; simp only [Int.ofNat_eq_natCast, tq_not, fq_not, tq_and, fq_and, tq_or, fq_or, tq_beq, fq_beq, tq_bne, fq_bne, tq_dec, fq_dec, one1, V.tup.injEq, V.agg.injEq, List.cons.injEq, V.int.injEq, V.bool.injEq, true_and, and_true, decide_eq_true_eq, decide_eq_false_iff_not, Bool.and_eq_true, Bool.and_eq_false_iff, Bool.or_eq_true, Bool.or_eq_false_iff, Bool.not_eq_true', Bool.not_eq_false', beq_iff_eq, wrap_u32, wrap_i64, wrap_u8, beq_eq_false_iff_ne, ne_eq, bne_iff_ne, bne_eq_false_iff_eq, eq_self, and_self, splice, V.cells, List.take_succ_cons, List.take_zero, List.take_nil, List.drop_zero, List.drop_succ_cons, List.drop_nil, List.cons_append, List.nil_append, List.append_nil, List.length_cons, List.length_nil, Nat.zero_add, Nat.reduceAdd, if_true, if_false, Bool.false_eq_true, beq_self_eq_true, decide_eq_decide, Bool.true_eq_false, or_false, false_or, or_true, true_or, and_false, false_and, not_true_eq_false, not_false_eq_true, Bool.and_true, Bool.true_and, Bool.not_true, Bool.not_false] at *; omega)) ?_)
             | (refine Exists.intro _ (Exists.intro _ (And.intro rfl ?_)))
             | (refine Exists.intro _ (And.intro rfl ?_))
             | (refine Exists.intro _ (Exists.intro _ (Exists.intro _ (Exists.intro _ (And.intro rfl ?_)))))
             | (refine ld_step rfl (by assumption) rfl ?_)
             | (refine lds_step rfl (by assumption) rfl ?_)
             | (refine fL_mk ?_)
             | (refine fH_mk ?_)
             | (refine fN_mk ?_)
             | (refine fLB_mk ?_)
             | (refine And.intro (by first | assumption | exact GLB_app (by assumption) | exact GLB_app (GLB_app (by assumption))) ?_)
             | (refine ld_step rfl ((rd_x0 _ _ _ _ _).trans rfl) rfl ?_)
             | (refine ld_step rfl ((rd_x1 _ _ _ _ _ _).trans rfl) rfl ?_)
             | (refine drec_yes (by omega) ?_)
             | (refine drec_no (by omega) ?_)
             | (intro _)
             | fail)
    all_goals
      conv => whnf
      first
      | refine leafE hq ?_
      | refine leafH hq ?_ (take_app1 H _)
      | refine leafH hq ?_ (take_app2 H _ _)
      clear hq
      first
      | rfl
      | grind [one1, clashP, regO, regZ]
      | (refine (congrArg V.bool ?_ : V.bool _ = V.bool _)
         subst_vars
         rw [Bool.eq_iff_iff]
         simp only [Int.ofNat_eq_natCast, tq_not, fq_not, tq_and, fq_and, tq_or, fq_or, tq_beq, fq_beq, tq_bne, fq_bne, tq_dec, fq_dec, one1, V.tup.injEq, V.agg.injEq, List.cons.injEq, V.int.injEq, V.bool.injEq, true_and, and_true, decide_eq_true_eq, decide_eq_false_iff_not, Bool.and_eq_true, Bool.and_eq_false_iff, Bool.or_eq_true, Bool.or_eq_false_iff, Bool.not_eq_true', Bool.not_eq_false', beq_iff_eq, wrap_u32, wrap_i64, wrap_u8, beq_eq_false_iff_ne, ne_eq, bne_iff_ne, bne_eq_false_iff_eq, eq_self, and_self, splice, V.cells, List.take_succ_cons, List.take_zero, List.take_nil, List.drop_zero, List.drop_succ_cons, List.drop_nil, List.cons_append, List.nil_append, List.append_nil, List.length_cons, List.length_nil, Nat.zero_add, Nat.reduceAdd, if_true, if_false, Bool.false_eq_true, beq_self_eq_true, decide_eq_decide, Bool.true_eq_false, or_false, false_or, or_true, true_or, and_false, false_and, not_true_eq_false, not_false_eq_true, Bool.and_true, Bool.true_and, Bool.not_true, Bool.not_false] at *
         simp only [clashP, regO, regZ] at *
         constructor <;> intro hh <;> grind)
  · exact hs.elim
def s22 : Sp := fun vs H Q => match vs with
  | [.agg [.bool on, .int .i64 w, .int .u32 f, .int .u32 t, .bool rr, .bool rw, .int .i64 rk, .bool lk], .agg [.bool on2, .int .i64 w2, .int .u32 f2, .int .u32 t2, .bool rr2, .bool rw2, .int .i64 rk2, .bool lk2]] => Q (.bool (decide (aboveP on w f t rk on2 w2 f2 t2 rk2))) H false false
  | _ => False
theorem m22 : Mono s22 := by
  intro vs H Q Q' hQ h
  unfold s22 at h ⊢
  split at h
  all_goals first
    | exact h.elim
    | (repeat' (first | exact hQ _ _ _ _ h | refine And.imp_right (fun h => ?_) h | refine Exists.imp (fun _ h => ?_) h | (intro z; replace h := h z)))
theorem k22 : Snd Tryd.prog 1 22 s22 := by
  refine snd_of_ev (by kernel_rfl) (C := tab [(18, s18)]) (sndC_cons k18 (sndC_nil)) x22 n22 c22 30 ?_
  intro vs H Q hs
  unfold s22 at hs
  split at hs
  · skip
    have hq := hs; clear hs
    repeat' (conv => whnf
             first
             | (refine Stop.mk ?_)
             | (refine fI_gen ?_; intro z hz)
             | (refine fO_gen ?_; intro z hz)
             | (refine dec_true (by assumption) ?_)
             | (refine dec_false (by assumption) ?_)
             | (refine dec_split (fun h => ?_) (fun h => ?_))
             | (apply silE)
             | (exact And.intro rfl (And.intro rfl (And.intro rfl rfl)))
             | (refine And.intro (by first | omega | ((simp only [decide_eq_true_eq, decide_eq_false_iff_not, Bool.and_eq_true, beq_iff_eq, Bool.not_eq_true', Bool.not_eq_false'] at *); omega) | (subst_vars; simp only [Int.ofNat_eq_natCast, tq_not, fq_not, tq_and, fq_and, tq_or, fq_or, tq_beq, fq_beq, tq_bne, fq_bne, tq_dec, fq_dec, one1, V.tup.injEq, V.agg.injEq, List.cons.injEq, V.int.injEq, V.bool.injEq, true_and, and_true, decide_eq_true_eq, decide_eq_false_iff_not, Bool.and_eq_true, Bool.and_eq_false_iff, Bool.or_eq_true, Bool.or_eq_false_iff, Bool.not_eq_true', Bool.not_eq_false', beq_iff_eq, wrap_u32, wrap_i64, wrap_u8, beq_eq_false_iff_ne, ne_eq, bne_iff_ne, bne_eq_false_iff_eq, eq_self, and_self, splice, V.cells, List.take_succ_cons, List.take_zero, List.take_nil, List.drop_zero, List.drop_succ_cons, List.drop_nil, List.cons_append, List.nil_append, List.append_nil, List.length_cons, List.length_nil, Nat.zero_add, Nat.reduceAdd, if_true, if_false, Bool.false_eq_true, beq_self_eq_true, decide_eq_decide, Bool.true_eq_false, or_false, false_or, or_true, true_or, and_false, false_and, not_true_eq_false, not_false_eq_true, Bool.and_true, Bool.true_and, Bool.not_true, Bool.not_false] at *; omega)) ?_)
             | (refine Exists.intro _ (Exists.intro _ (And.intro rfl ?_)))
             | (refine Exists.intro _ (And.intro rfl ?_))
             | (refine Exists.intro _ (Exists.intro _ (Exists.intro _ (Exists.intro _ (And.intro rfl ?_)))))
             | (refine ld_step rfl (by assumption) rfl ?_)
             | (refine lds_step rfl (by assumption) rfl ?_)
             | (refine fL_mk ?_)
             | (refine fH_mk ?_)
             | (refine fN_mk ?_)
             | (refine fLB_mk ?_)
             | (refine And.intro (by first | assumption | exact GLB_app (by assumption) | exact GLB_app (GLB_app (by assumption))) ?_)
             | (refine ld_step rfl ((rd_x0 _ _ _ _ _).trans rfl) rfl ?_)
             | (refine ld_step rfl ((rd_x1 _ _ _ _ _ _).trans rfl) rfl ?_)
             | (refine drec_yes (by omega) ?_)
             | (refine drec_no (by omega) ?_)
             | (intro _)
             | fail)
    all_goals
      conv => whnf
      first
      | refine leafE hq ?_
      | refine leafH hq ?_ (take_app1 H _)
      | refine leafH hq ?_ (take_app2 H _ _)
      clear hq
      first
      | rfl
      | grind [one1, aboveP, regO, regZ]
      | (refine (congrArg V.bool ?_ : V.bool _ = V.bool _)
         subst_vars
         rw [Bool.eq_iff_iff]
         simp only [Int.ofNat_eq_natCast, tq_not, fq_not, tq_and, fq_and, tq_or, fq_or, tq_beq, fq_beq, tq_bne, fq_bne, tq_dec, fq_dec, one1, V.tup.injEq, V.agg.injEq, List.cons.injEq, V.int.injEq, V.bool.injEq, true_and, and_true, decide_eq_true_eq, decide_eq_false_iff_not, Bool.and_eq_true, Bool.and_eq_false_iff, Bool.or_eq_true, Bool.or_eq_false_iff, Bool.not_eq_true', Bool.not_eq_false', beq_iff_eq, wrap_u32, wrap_i64, wrap_u8, beq_eq_false_iff_ne, ne_eq, bne_iff_ne, bne_eq_false_iff_eq, eq_self, and_self, splice, V.cells, List.take_succ_cons, List.take_zero, List.take_nil, List.drop_zero, List.drop_succ_cons, List.drop_nil, List.cons_append, List.nil_append, List.append_nil, List.length_cons, List.length_nil, Nat.zero_add, Nat.reduceAdd, if_true, if_false, Bool.false_eq_true, beq_self_eq_true, decide_eq_decide, Bool.true_eq_false, or_false, false_or, or_true, true_or, and_false, false_and, not_true_eq_false, not_false_eq_true, Bool.and_true, Bool.true_and, Bool.not_true, Bool.not_false] at *
         simp only [aboveP, regO, regZ] at *
         constructor <;> intro hh <;> grind)
  · exact hs.elim
end Go.Ev
