/- dev: AccessAsks -/
import Derived.Test.YtngbaiiokdladaaDoorKasks4
set_option linter.all false
namespace Go.Ev
open Go Go.Proofs
set_option maxRecDepth 10000
set_option maxHeartbeats 4000000
def s5 : Sp := fun vs H Q => match vs with
  | [.agg [.int .i64 aw, .bool awr, .int .u32 aa, .int .i64 an, .int .u32 ad]] => ((0 ≤ aa ∧ aa < 4294967296) ∧ (0 ≤ ad ∧ ad < 4294967296) ∧ (-9223372036854775808 ≤ an ∧ an < 9223372036854775808)) ∧ GLB H ∧ ∀ X e g, Q (.bool true) (H ++ X) e g
  | _ => False
theorem k5 : Snd Tryd.prog 1 5 s5 := by
  refine snd_of_ev (by kernel_rfl) (C := tab [(14, s14), (8, s8)]) (sndC_cons k14 (sndC_cons k8 (sndC_nil))) x5 n5 c5 60 ?_
  intro vs Hx Q hs
  unfold s5 at hs
  split at hs
  · rename_i w wr a n d
    obtain ⟨hp, hg, hq⟩ := hs
    have hgA : ∀ X, GLB (Hx ++ X) := fun X => GLB_app hg
    have hq2 : ∀ X e g, Q (.bool true) (List.take Hx.length (Hx ++ X)) e g := fun X e g => by rw [List.take_left]; have := hq [] e g; rwa [List.append_nil] at this
    repeat' (conv => whnf
             first | (refine Stop.mk ?_) | (refine fI_gen ?_; intro z hz) | (refine fO_gen ?_; intro z hz) | (refine And.intro hp (And.intro hg ?_); intro X5 e5 g5) | (refine And.intro (hgA _) ?_) | (exact hq _ _ _) | (exact hq2 _ _ _) | (refine dec_true (by assumption) ?_) | (refine dec_false (by assumption) ?_) | (refine dec_split (fun h => ?_) (fun h => ?_)) | (apply silE) | (refine Both.mk ?_ ?_) | (refine And.intro rfl ?_) | (exact And.intro rfl (And.intro rfl (And.intro rfl rfl))) | (refine And.intro (by first | omega | ((simp only [decide_eq_true_eq, decide_eq_false_iff_not, Bool.and_eq_true, beq_iff_eq, Bool.not_eq_true', Bool.not_eq_false'] at *); omega) | (subst_vars; simp only [Int.ofNat_eq_natCast, tq_not, fq_not, tq_and, fq_and, tq_or, fq_or, tq_beq, fq_beq, tq_bne, fq_bne, tq_dec, fq_dec, one1, V.tup.injEq, V.agg.injEq, List.cons.injEq, V.int.injEq, V.bool.injEq, true_and, and_true, decide_eq_true_eq, decide_eq_false_iff_not, Bool.and_eq_true, Bool.and_eq_false_iff, Bool.or_eq_true, Bool.or_eq_false_iff, Bool.not_eq_true', Bool.not_eq_false', beq_iff_eq, wrap_u32, wrap_i64, wrap_u8, beq_eq_false_iff_ne, ne_eq, bne_iff_ne, bne_eq_false_iff_eq, eq_self, and_self, splice, V.cells, List.take_succ_cons, List.take_zero, List.take_nil, List.drop_zero, List.drop_succ_cons, List.drop_nil, List.cons_append, List.nil_append, List.append_nil, List.length_cons, List.length_nil, Nat.zero_add, Nat.reduceAdd, if_true, if_false, Bool.false_eq_true, beq_self_eq_true, decide_eq_decide, Bool.true_eq_false, or_false, false_or, or_true, true_or, and_false, false_and, not_true_eq_false, not_false_eq_true, Bool.and_true, Bool.true_and, Bool.not_true, Bool.not_false] at *; omega)) ?_) | (refine Exists.intro _ (Exists.intro _ (And.intro rfl ?_))) | (refine Exists.intro _ (And.intro rfl ?_)) | (refine Exists.intro _ (Exists.intro _ (Exists.intro _ (Exists.intro _ (And.intro rfl ?_))))) | (refine ld_step rfl (by assumption) rfl ?_) | (refine lds_step rfl (by assumption) rfl ?_) | (refine fL_mk ?_) | (refine fH_mk ?_) | (refine fN_mk ?_) | (refine fLB_mk ?_) | (refine And.intro (by repeat (first | assumption | refine GLB_app ?_)) ?_) | (refine ld_step rfl ((rd_x0 _ _ _ _ _).trans rfl) rfl ?_) | (refine ld_step rfl ((rd_x1 _ _ _ _ _ _).trans rfl) rfl ?_) | (refine ld_step rfl ((rd_x2 _ _ _ _ _ _ _).trans rfl) rfl ?_) | (refine lds_step rfl ((rd_x0 _ _ _ _ _).trans rfl) rfl ?_) | (refine lds_step rfl ((rd_x1 _ _ _ _ _ _).trans rfl) rfl ?_) | (refine lds_step rfl ((rd_x2 _ _ _ _ _ _ _).trans rfl) rfl ?_) | (refine mem_step (st_eq rfl rfl rfl rfl (wr_last _ _ _ _ rfl)) ?_) | (refine drec_yes (by omega) ?_) | (refine drec_no (by omega) ?_) | (intro _) | fail)
    all_goals (conv => whnf)
    all_goals first
      | exact hq _ _ _
      | exact hq2 _ _ _
      | (subst_vars; cases e5 <;> cases g5)
    all_goals
      repeat' (conv => whnf
               first | (refine Stop.mk ?_) | (refine fI_gen ?_; intro z hz) | (refine fO_gen ?_; intro z hz) | (exact hq _ _ _) | (exact hq2 _ _ _) | (refine dec_true (by assumption) ?_) | (refine dec_false (by assumption) ?_) | (refine dec_split (fun h => ?_) (fun h => ?_)) | (apply silE) | (refine Both.mk ?_ ?_) | (refine And.intro rfl ?_) | (exact And.intro rfl (And.intro rfl (And.intro rfl rfl))) | (refine And.intro (by first | omega | ((simp only [decide_eq_true_eq, decide_eq_false_iff_not, Bool.and_eq_true, beq_iff_eq, Bool.not_eq_true', Bool.not_eq_false'] at *); omega) | (subst_vars; simp only [Int.ofNat_eq_natCast, tq_not, fq_not, tq_and, fq_and, tq_or, fq_or, tq_beq, fq_beq, tq_bne, fq_bne, tq_dec, fq_dec, one1, V.tup.injEq, V.agg.injEq, List.cons.injEq, V.int.injEq, V.bool.injEq, true_and, and_true, decide_eq_true_eq, decide_eq_false_iff_not, Bool.and_eq_true, Bool.and_eq_false_iff, Bool.or_eq_true, Bool.or_eq_false_iff, Bool.not_eq_true', Bool.not_eq_false', beq_iff_eq, wrap_u32, wrap_i64, wrap_u8, beq_eq_false_iff_ne, ne_eq, bne_iff_ne, bne_eq_false_iff_eq, eq_self, and_self, splice, V.cells, List.take_succ_cons, List.take_zero, List.take_nil, List.drop_zero, List.drop_succ_cons, List.drop_nil, List.cons_append, List.nil_append, List.append_nil, List.length_cons, List.length_nil, Nat.zero_add, Nat.reduceAdd, if_true, if_false, Bool.false_eq_true, beq_self_eq_true, decide_eq_decide, Bool.true_eq_false, or_false, false_or, or_true, true_or, and_false, false_and, not_true_eq_false, not_false_eq_true, Bool.and_true, Bool.true_and, Bool.not_true, Bool.not_false] at *; omega)) ?_) | (refine Exists.intro _ (Exists.intro _ (And.intro rfl ?_))) | (refine Exists.intro _ (And.intro rfl ?_)) | (refine Exists.intro _ (Exists.intro _ (Exists.intro _ (Exists.intro _ (And.intro rfl ?_))))) | (refine ld_step rfl (by assumption) rfl ?_) | (refine lds_step rfl (by assumption) rfl ?_) | (refine fL_mk ?_) | (refine fH_mk ?_) | (refine fN_mk ?_) | (refine fLB_mk ?_) | (refine And.intro (by repeat (first | assumption | refine GLB_app ?_)) ?_) | (refine ld_step rfl ((rd_x0 _ _ _ _ _).trans rfl) rfl ?_) | (refine ld_step rfl ((rd_x1 _ _ _ _ _ _).trans rfl) rfl ?_) | (refine ld_step rfl ((rd_x2 _ _ _ _ _ _ _).trans rfl) rfl ?_) | (refine lds_step rfl ((rd_x0 _ _ _ _ _).trans rfl) rfl ?_) | (refine lds_step rfl ((rd_x1 _ _ _ _ _ _).trans rfl) rfl ?_) | (refine lds_step rfl ((rd_x2 _ _ _ _ _ _ _).trans rfl) rfl ?_) | (refine mem_step (st_eq rfl rfl rfl rfl (wr_last _ _ _ _ rfl)) ?_) | (refine drec_yes (by omega) ?_) | (refine drec_no (by omega) ?_) | (intro _) | fail)
    all_goals (conv => whnf)
    all_goals first
      | exact hq _ _ _
      | exact hq2 _ _ _
      | trace_state
  · exact hs.elim
end Go.Ev
