/- texts joined -/
import Derived.Test.YtmdkhaoppklokaaDoorEvX
import Derived.Test.YtmdkhaoppklokaaDoorKshow
set_option linter.all false
namespace Go.Ev
open Go Go.Proofs
set_option maxRecDepth 10000
set_option maxHeartbeats 4000000
def s22 : Sp := fun vs H Q => match vs with
  | [.int .u32 a, .int .u32 b] => Q (.tup [.int .u32 (IntKind.u32.wrap (a + b)), .bool (decide (IntKind.u32.wrap (a + b) < a))]) H false false
  | _ => False
theorem k22 : Snd Tryd.prog 2 22 s22 := by
  refine snd_of_ev (by kernel_rfl) (C := tab []) (sndC_nil) x22 n22 c22 30 ?_
  intro vs H Q hs
  unfold s22 at hs
  split at hs
  · rename_i a b
    have hq := hs; clear hs
    repeat' (conv => whnf
             first | (refine Stop.mk ?_) | (refine fI_gen ?_; intro z hz) | (refine fO_gen ?_; intro z hz) | (refine dec_true (by assumption) ?_) | (refine dec_false (by assumption) ?_) | (refine dec_split (fun h => ?_) (fun h => ?_)) | (apply silE) | (refine Both.mk ?_ ?_) | (refine And.intro rfl ?_) | (exact And.intro rfl (And.intro rfl (And.intro rfl rfl))) | (refine And.intro (by first | omega | ((simp only [decide_eq_true_eq, decide_eq_false_iff_not, Bool.and_eq_true, beq_iff_eq, Bool.not_eq_true', Bool.not_eq_false'] at *); omega) | (subst_vars; simp only [Int.ofNat_eq_natCast, tq_not, fq_not, tq_and, fq_and, tq_or, fq_or, tq_beq, fq_beq, tq_bne, fq_bne, tq_dec, fq_dec, one1, V.tup.injEq, V.agg.injEq, List.cons.injEq, V.int.injEq, V.bool.injEq, true_and, and_true, decide_eq_true_eq, decide_eq_false_iff_not, Bool.and_eq_true, Bool.and_eq_false_iff, Bool.or_eq_true, Bool.or_eq_false_iff, Bool.not_eq_true', Bool.not_eq_false', beq_iff_eq, wrap_u32, wrap_i64, wrap_u8, beq_eq_false_iff_ne, ne_eq, bne_iff_ne, bne_eq_false_iff_eq, eq_self, and_self, splice, V.cells, List.take_succ_cons, List.take_zero, List.take_nil, List.drop_zero, List.drop_succ_cons, List.drop_nil, List.cons_append, List.nil_append, List.append_nil, List.length_cons, List.length_nil, Nat.zero_add, Nat.reduceAdd, if_true, if_false, Bool.false_eq_true, beq_self_eq_true, decide_eq_decide, Bool.true_eq_false, or_false, false_or, or_true, true_or, and_false, false_and, not_true_eq_false, not_false_eq_true, Bool.and_true, Bool.true_and, Bool.not_true, Bool.not_false] at *; omega)) ?_) | (refine Exists.intro _ (Exists.intro _ (And.intro rfl ?_))) | (refine Exists.intro _ (And.intro rfl ?_)) | (refine Exists.intro _ (Exists.intro _ (Exists.intro _ (Exists.intro _ (And.intro rfl ?_))))) | (refine ld_step rfl (by assumption) rfl ?_) | (refine lds_step rfl (by assumption) rfl ?_) | (refine fL_mk ?_) | (refine fH_mk ?_) | (refine fN_mk ?_) | (refine fLB_mk ?_) | (refine And.intro (by repeat (first | assumption | refine GLB_app ?_)) ?_) | (refine ld_step rfl ((rd_x0 _ _ _ _ _).trans rfl) rfl ?_) | (refine ld_step rfl ((rd_x1 _ _ _ _ _ _).trans rfl) rfl ?_) | (refine ld_step rfl ((rd_x2 _ _ _ _ _ _ _).trans rfl) rfl ?_) | (refine lds_step rfl ((rd_x0 _ _ _ _ _).trans rfl) rfl ?_) | (refine lds_step rfl ((rd_x1 _ _ _ _ _ _).trans rfl) rfl ?_) | (refine lds_step rfl ((rd_x2 _ _ _ _ _ _ _).trans rfl) rfl ?_) | (refine mem_step (st_eq rfl rfl rfl rfl (wr_last _ _ _ _ rfl)) ?_) | (refine drec_yes (by omega) ?_) | (refine drec_no (by omega) ?_) | (intro _) | fail)
    all_goals (conv => whnf)
    all_goals
      refine leafE hq ?_
      subst_vars
      rfl
  · exact hs.elim
end Go.Ev

set_option linter.all false
namespace Go.Ev
open Go Go.Proofs
set_option maxRecDepth 10000
set_option maxHeartbeats 4000000
theorem ex_p1 : parB [48, 120, 48, 97] = true := by decide
theorem ex_p2 : parI [48, 120, 48, 97] = 10 := by decide
theorem ex_p3 : parB [48, 49, 48] = false := by decide
theorem ex_p4 : parI [48, 49, 48] = 0 := by decide
theorem ex_s : shL 10 = [48, 120, 48, 48, 48, 48, 48, 48, 48, 97] := by decide
theorem ex_l : lowV 1 4660 = 52 := by decide
def s9 : Sp := fun vs H Q => match vs with
  | [] => GLB H ∧ Q (.bool true) H false false
  | _ => False
theorem k9 : Snd Tryd.prog 2 9 s9 := by
  refine snd_of_ev (by kernel_rfl) (C := tab [(22, s22), (17, s17), (21, s21), (11, s11), (19, s19), (20, s20)]) (sndC_cons k22 (sndC_cons k17 (sndC_cons k21 (sndC_cons k11 (sndC_cons k19 (sndC_cons k20 (sndC_nil))))))) x9 n9 c9 30 ?_
  intro vs H Q hs
  unfold s9 at hs
  split at hs
  · obtain ⟨hg, hq⟩ := hs
    have ok1 : okS 1 := by decide
    have ok4 : okS 4 := by decide
    have a1 : IntKind.u32.wrap (4294967295 + 2) = 1 := by decide
    have a2 : decide (IntKind.u32.wrap (4294967295 + 2) < 4294967295) = true := by decide
    have b1 : parB (bL (ByteArray.mk (Array.mk [UInt8.ofNat 48, UInt8.ofNat 120, UInt8.ofNat 48, UInt8.ofNat 97]))) = true := ex_p1
    have b2 : parI (bL (ByteArray.mk (Array.mk [UInt8.ofNat 48, UInt8.ofNat 120, UInt8.ofNat 48, UInt8.ofNat 97]))) = 10 := ex_p2
    have b3 : parB (bL (ByteArray.mk (Array.mk [UInt8.ofNat 48, UInt8.ofNat 49, UInt8.ofNat 48]))) = false := ex_p3
    have b4 : parI (bL (ByteArray.mk (Array.mk [UInt8.ofNat 48, UInt8.ofNat 49, UInt8.ofNat 48]))) = 0 := ex_p4
    repeat' (conv => whnf
             first | (refine Stop.mk ?_) | (refine fI_is a1 ?_) | (refine fO_is a2 ?_) | (refine fI_is ex_l ?_) | (refine fO_is (decide_eq_true ok1) ?_) | (refine fO_is b1 ?_) | (refine fI_is b2 ?_) | (refine fO_is b3 ?_) | (refine fI_is b4 ?_) | (refine fO_is (b := true) rfl ?_) | (refine fO_is hsv ?_) | (refine fI_gen ?_; intro z hz) | (refine fO_gen ?_; intro z hz) | (refine And.intro (by decide) (And.intro hg ?_); intro S1 hS1; have hsv : (S1.toList == (ByteArray.mk (Array.mk [UInt8.ofNat 48, UInt8.ofNat 120, UInt8.ofNat 48, UInt8.ofNat 48, UInt8.ofNat 48, UInt8.ofNat 48, UInt8.ofNat 48, UInt8.ofNat 48, UInt8.ofNat 48, UInt8.ofNat 97])).toList) = true := by rw [bL_inj]; exact decide_eq_true (by rw [hS1, ex_s]; rfl)) | (refine And.intro ⟨by decide, ok4⟩ (And.intro hg ?_); intro bb cc X ws q1 q2 q3 q4) | (refine And.intro hg (And.intro (by decide) ?_)) | (refine And.intro (by decide) (And.intro hg ?_)) | (refine Exists.intro [52, 18, 0, 0] (Exists.intro [52, 18, 0, 0] (And.intro rfl (And.intro rfl (And.intro (by decide) (And.intro (by decide) (And.intro (rd_app (rd_block q3 (flat_len encB_len _)) _) (And.intro ((rd_x0 _ _ _ _ _).trans rfl) ?_)))))))) | (refine dec_true (by assumption) ?_) | (refine dec_false (by assumption) ?_) | (refine dec_split (fun h => ?_) (fun h => ?_)) | (apply silE) | (refine Both.mk ?_ ?_) | (refine And.intro rfl ?_) | (exact And.intro rfl (And.intro rfl (And.intro rfl rfl))) | (refine And.intro (by first | omega | ((simp only [decide_eq_true_eq, decide_eq_false_iff_not, Bool.and_eq_true, beq_iff_eq, Bool.not_eq_true', Bool.not_eq_false'] at *); omega) | (subst_vars; simp only [Int.ofNat_eq_natCast, tq_not, fq_not, tq_and, fq_and, tq_or, fq_or, tq_beq, fq_beq, tq_bne, fq_bne, tq_dec, fq_dec, one1, V.tup.injEq, V.agg.injEq, List.cons.injEq, V.int.injEq, V.bool.injEq, true_and, and_true, decide_eq_true_eq, decide_eq_false_iff_not, Bool.and_eq_true, Bool.and_eq_false_iff, Bool.or_eq_true, Bool.or_eq_false_iff, Bool.not_eq_true', Bool.not_eq_false', beq_iff_eq, wrap_u32, wrap_i64, wrap_u8, beq_eq_false_iff_ne, ne_eq, bne_iff_ne, bne_eq_false_iff_eq, eq_self, and_self, splice, V.cells, List.take_succ_cons, List.take_zero, List.take_nil, List.drop_zero, List.drop_succ_cons, List.drop_nil, List.cons_append, List.nil_append, List.append_nil, List.length_cons, List.length_nil, Nat.zero_add, Nat.reduceAdd, if_true, if_false, Bool.false_eq_true, beq_self_eq_true, decide_eq_decide, Bool.true_eq_false, or_false, false_or, or_true, true_or, and_false, false_and, not_true_eq_false, not_false_eq_true, Bool.and_true, Bool.true_and, Bool.not_true, Bool.not_false] at *; omega)) ?_) | (refine Exists.intro _ (Exists.intro _ (And.intro rfl ?_))) | (refine Exists.intro _ (And.intro rfl ?_)) | (refine Exists.intro _ (Exists.intro _ (Exists.intro _ (Exists.intro _ (And.intro rfl ?_))))) | (refine ld_step rfl (by assumption) rfl ?_) | (refine lds_step rfl (by assumption) rfl ?_) | (refine fL_mk ?_) | (refine fH_mk ?_) | (refine fN_mk ?_) | (refine fLB_mk ?_) | (refine And.intro (by repeat (first | assumption | refine GLB_app ?_)) ?_) | (refine ld_step rfl ((rd_x0 _ _ _ _ _).trans rfl) rfl ?_) | (refine ld_step rfl ((rd_x1 _ _ _ _ _ _).trans rfl) rfl ?_) | (refine ld_step rfl ((rd_x2 _ _ _ _ _ _ _).trans rfl) rfl ?_) | (refine lds_step rfl ((rd_x0 _ _ _ _ _).trans rfl) rfl ?_) | (refine lds_step rfl ((rd_x1 _ _ _ _ _ _).trans rfl) rfl ?_) | (refine lds_step rfl ((rd_x2 _ _ _ _ _ _ _).trans rfl) rfl ?_) | (refine mem_step (st_eq rfl rfl rfl rfl (wr_last _ _ _ _ rfl)) ?_) | (refine drec_yes (by omega) ?_) | (refine drec_no (by omega) ?_) | (intro _) | fail)
    all_goals (conv => whnf)
    all_goals exact leafH hq rfl (take_app2 H _ _)
  · exact hs.elim
def s3 : Sp := fun vs H Q => match vs with
  | [.str s, .int .u32 v] => (0 ≤ v ∧ v < 4294967296) ∧ GLB H ∧ Q (.bool true) H false false
  | _ => False
end Go.Ev
