/- dev: reach, septumref02, septumkit.Pick -/
import Derived.Test.YtngbaiiokdladaaDoorKA
import Derived.Test.YtngbaiiokdladaaDoorEvW
set_option linter.all false
namespace Go.Ev
open Go Go.Proofs
set_option maxRecDepth 4000
def s35 : Sp := fun vs H Q => match vs with
  | [.int .u32 a, .int .i64 n] => ((0 ≤ a ∧ a < 4294967296) ∧ (-9223372036854775808 ≤ n ∧ n < 9223372036854775808)) ∧ Q (.tup [.agg [.int .u32 (if 1 ≤ n ∧ n ≤ 4294967296 - a then a else 0), .int .u32 (if 1 ≤ n ∧ n ≤ 4294967296 - a then a + n - 1 else 0)], .bool (decide (1 ≤ n ∧ n ≤ 4294967296 - a))]) H false false
  | _ => False
theorem k35 : Snd Tryd.prog 1 35 s35 := by
  refine snd_of_ev (by kernel_rfl) (C := tab []) (sndC_nil) x35 n35 c35 30 ?_
  intro vs H Q hs
  unfold s35 at hs
  split at hs
  · rename_i a n
    obtain ⟨hp, hs⟩ := hs
    have hq := hs; clear hs
    have hx := xor_u32 a (by omega) (by omega)
    repeat' (conv => whnf
             first | (refine Stop.mk ?_) | (refine fI_gen ?_; intro z hz) | (refine fO_gen ?_; intro z hz) | (refine dec_true (by assumption) ?_) | (refine dec_false (by assumption) ?_) | (refine dec_split (fun h => ?_) (fun h => ?_)) | (apply silE) | (exact And.intro rfl (And.intro rfl (And.intro rfl rfl))) | (refine And.intro (by first | omega | ((simp only [decide_eq_true_eq, decide_eq_false_iff_not, Bool.and_eq_true, beq_iff_eq, Bool.not_eq_true', Bool.not_eq_false'] at *); omega) | (subst_vars; simp only [Int.ofNat_eq_natCast, tq_not, fq_not, tq_and, fq_and, tq_or, fq_or, tq_beq, fq_beq, tq_bne, fq_bne, tq_dec, fq_dec, one1, V.tup.injEq, V.agg.injEq, List.cons.injEq, V.int.injEq, V.bool.injEq, true_and, and_true, decide_eq_true_eq, decide_eq_false_iff_not, Bool.and_eq_true, Bool.and_eq_false_iff, Bool.or_eq_true, Bool.or_eq_false_iff, Bool.not_eq_true', Bool.not_eq_false', beq_iff_eq, wrap_u32, wrap_i64, wrap_u8, beq_eq_false_iff_ne, ne_eq, bne_iff_ne, bne_eq_false_iff_eq, eq_self, and_self, splice, V.cells, List.take_succ_cons, List.take_zero, List.take_nil, List.drop_zero, List.drop_succ_cons, List.drop_nil, List.cons_append, List.nil_append, List.append_nil, List.length_cons, List.length_nil, Nat.zero_add, Nat.reduceAdd, if_true, if_false, Bool.false_eq_true, beq_self_eq_true, decide_eq_decide, Bool.true_eq_false, or_false, false_or, or_true, true_or, and_false, false_and, not_true_eq_false, not_false_eq_true, Bool.and_true, Bool.true_and, Bool.not_true, Bool.not_false] at *; omega)) ?_) | (refine Exists.intro _ (Exists.intro _ (And.intro rfl ?_))) | (refine Exists.intro _ (And.intro rfl ?_)) | (refine Exists.intro _ (Exists.intro _ (Exists.intro _ (Exists.intro _ (And.intro rfl ?_))))) | (refine ld_step rfl (by assumption) rfl ?_) | (refine lds_step rfl (by assumption) rfl ?_) | (refine fL_mk ?_) | (refine fH_mk ?_) | (refine fN_mk ?_) | (refine fLB_mk ?_) | (refine And.intro (by repeat (first | assumption | refine GLB_app ?_)) ?_) | (refine ld_step rfl ((rd_x0 _ _ _ _ _).trans rfl) rfl ?_) | (refine ld_step rfl ((rd_x1 _ _ _ _ _ _).trans rfl) rfl ?_) | (refine ld_step rfl ((rd_x2 _ _ _ _ _ _ _).trans rfl) rfl ?_) | (refine lds_step rfl ((rd_x0 _ _ _ _ _).trans rfl) rfl ?_) | (refine lds_step rfl ((rd_x1 _ _ _ _ _ _).trans rfl) rfl ?_) | (refine lds_step rfl ((rd_x2 _ _ _ _ _ _ _).trans rfl) rfl ?_) | (refine mem_step (st_eq rfl rfl rfl rfl (wr_last _ _ _ _ rfl)) ?_) | (refine drec_yes (by omega) ?_) | (refine drec_no (by omega) ?_) | (intro _) | fail)
    all_goals
      conv => whnf
      refine leafE hq ?_
      clear hq
      first
      | rfl
      | (subst_vars
         simp only [Int.ofNat_eq_natCast, tq_not, fq_not, tq_and, fq_and, tq_or, fq_or, tq_beq, fq_beq, tq_bne, fq_bne, tq_dec, fq_dec, one1, V.tup.injEq, V.agg.injEq, List.cons.injEq, V.int.injEq, V.bool.injEq, true_and, and_true, decide_eq_true_eq, decide_eq_false_iff_not, Bool.and_eq_true, Bool.and_eq_false_iff, Bool.or_eq_true, Bool.or_eq_false_iff, Bool.not_eq_true', Bool.not_eq_false', beq_iff_eq, wrap_u32, wrap_i64, wrap_u8, beq_eq_false_iff_ne, ne_eq, bne_iff_ne, bne_eq_false_iff_eq, eq_self, and_self, splice, V.cells, List.take_succ_cons, List.take_zero, List.take_nil, List.drop_zero, List.drop_succ_cons, List.drop_nil, List.cons_append, List.nil_append, List.append_nil, List.length_cons, List.length_nil, Nat.zero_add, Nat.reduceAdd, if_true, if_false, Bool.false_eq_true, beq_self_eq_true, decide_eq_decide, Bool.true_eq_false, or_false, false_or, or_true, true_or, and_false, false_and, not_true_eq_false, not_false_eq_true, Bool.and_true, Bool.true_and, Bool.not_true, Bool.not_false] at *
         (try simp only [hx] at *)
         repeat' (first | refine And.intro ?_ ?_ | (split <;> skip))
         all_goals (first | omega | (rw [Bool.eq_iff_iff]; simp only [decide_eq_true_eq, true_iff, iff_true, false_iff, iff_false, Bool.false_eq_true, Bool.and_eq_true, Bool.or_eq_true, beq_iff_eq, and_true, bne_iff_ne, ne_eq, Bool.not_eq_true']; omega)))
  · exact hs.elim
def s46 : Sp := fun vs H Q => match vs with
  | [.int .u32 a, .int .i64 n] => ((0 ≤ a ∧ a < 4294967296) ∧ (-9223372036854775808 ≤ n ∧ n < 9223372036854775808)) ∧ Q (.tup [.agg [.int .u32 (if 1 ≤ n ∧ n ≤ 4294967296 - a then a else 0), .int .u32 (if 1 ≤ n ∧ n ≤ 4294967296 - a then a + n - 1 else 0)], .bool (decide (1 ≤ n ∧ n ≤ 4294967296 - a))]) H false false
  | _ => False
theorem k46 : Snd Tryd.prog 1 46 s46 := by
  refine snd_of_ev (by kernel_rfl) (C := tab []) (sndC_nil) x46 n46 c46 30 ?_
  intro vs H Q hs
  unfold s46 at hs
  split at hs
  · skip
    obtain ⟨hp, hs⟩ := hs
    have hq := hs; clear hs
    repeat' (conv => whnf
             first | (refine Stop.mk ?_) | (refine fI_gen ?_; intro z hz) | (refine fO_gen ?_; intro z hz) | (refine dec_true (by assumption) ?_) | (refine dec_false (by assumption) ?_) | (refine dec_split (fun h => ?_) (fun h => ?_)) | (apply silE) | (exact And.intro rfl (And.intro rfl (And.intro rfl rfl))) | (refine And.intro (by first | omega | ((simp only [decide_eq_true_eq, decide_eq_false_iff_not, Bool.and_eq_true, beq_iff_eq, Bool.not_eq_true', Bool.not_eq_false'] at *); omega) | (subst_vars; simp only [Int.ofNat_eq_natCast, tq_not, fq_not, tq_and, fq_and, tq_or, fq_or, tq_beq, fq_beq, tq_bne, fq_bne, tq_dec, fq_dec, one1, V.tup.injEq, V.agg.injEq, List.cons.injEq, V.int.injEq, V.bool.injEq, true_and, and_true, decide_eq_true_eq, decide_eq_false_iff_not, Bool.and_eq_true, Bool.and_eq_false_iff, Bool.or_eq_true, Bool.or_eq_false_iff, Bool.not_eq_true', Bool.not_eq_false', beq_iff_eq, wrap_u32, wrap_i64, wrap_u8, beq_eq_false_iff_ne, ne_eq, bne_iff_ne, bne_eq_false_iff_eq, eq_self, and_self, splice, V.cells, List.take_succ_cons, List.take_zero, List.take_nil, List.drop_zero, List.drop_succ_cons, List.drop_nil, List.cons_append, List.nil_append, List.append_nil, List.length_cons, List.length_nil, Nat.zero_add, Nat.reduceAdd, if_true, if_false, Bool.false_eq_true, beq_self_eq_true, decide_eq_decide, Bool.true_eq_false, or_false, false_or, or_true, true_or, and_false, false_and, not_true_eq_false, not_false_eq_true, Bool.and_true, Bool.true_and, Bool.not_true, Bool.not_false] at *; omega)) ?_) | (refine Exists.intro _ (Exists.intro _ (And.intro rfl ?_))) | (refine Exists.intro _ (And.intro rfl ?_)) | (refine Exists.intro _ (Exists.intro _ (Exists.intro _ (Exists.intro _ (And.intro rfl ?_))))) | (refine ld_step rfl (by assumption) rfl ?_) | (refine lds_step rfl (by assumption) rfl ?_) | (refine fL_mk ?_) | (refine fH_mk ?_) | (refine fN_mk ?_) | (refine fLB_mk ?_) | (refine And.intro (by repeat (first | assumption | refine GLB_app ?_)) ?_) | (refine ld_step rfl ((rd_x0 _ _ _ _ _).trans rfl) rfl ?_) | (refine ld_step rfl ((rd_x1 _ _ _ _ _ _).trans rfl) rfl ?_) | (refine ld_step rfl ((rd_x2 _ _ _ _ _ _ _).trans rfl) rfl ?_) | (refine lds_step rfl ((rd_x0 _ _ _ _ _).trans rfl) rfl ?_) | (refine lds_step rfl ((rd_x1 _ _ _ _ _ _).trans rfl) rfl ?_) | (refine lds_step rfl ((rd_x2 _ _ _ _ _ _ _).trans rfl) rfl ?_) | (refine mem_step (st_eq rfl rfl rfl rfl (wr_last _ _ _ _ rfl)) ?_) | (refine drec_yes (by omega) ?_) | (refine drec_no (by omega) ?_) | (intro _) | fail)
    all_goals
      conv => whnf
      refine leafE hq ?_
      clear hq
      first
      | rfl
      | (subst_vars
         simp only [Int.ofNat_eq_natCast, tq_not, fq_not, tq_and, fq_and, tq_or, fq_or, tq_beq, fq_beq, tq_bne, fq_bne, tq_dec, fq_dec, one1, V.tup.injEq, V.agg.injEq, List.cons.injEq, V.int.injEq, V.bool.injEq, true_and, and_true, decide_eq_true_eq, decide_eq_false_iff_not, Bool.and_eq_true, Bool.and_eq_false_iff, Bool.or_eq_true, Bool.or_eq_false_iff, Bool.not_eq_true', Bool.not_eq_false', beq_iff_eq, wrap_u32, wrap_i64, wrap_u8, beq_eq_false_iff_ne, ne_eq, bne_iff_ne, bne_eq_false_iff_eq, eq_self, and_self, splice, V.cells, List.take_succ_cons, List.take_zero, List.take_nil, List.drop_zero, List.drop_succ_cons, List.drop_nil, List.cons_append, List.nil_append, List.append_nil, List.length_cons, List.length_nil, Nat.zero_add, Nat.reduceAdd, if_true, if_false, Bool.false_eq_true, beq_self_eq_true, decide_eq_decide, Bool.true_eq_false, or_false, false_or, or_true, true_or, and_false, false_and, not_true_eq_false, not_false_eq_true, Bool.and_true, Bool.true_and, Bool.not_true, Bool.not_false] at *
         skip
         repeat' (first | refine And.intro ?_ ?_ | (split <;> skip))
         all_goals (first | omega | (rw [Bool.eq_iff_iff]; simp only [decide_eq_true_eq, true_iff, iff_true, false_iff, iff_false, Bool.false_eq_true, Bool.and_eq_true, Bool.or_eq_true, beq_iff_eq, and_true, bne_iff_ne, ne_eq, Bool.not_eq_true']; omega)))
  · exact hs.elim
end Go.Ev
