/- dev: septumref03.Put -/
import Derived.Test.YtkheaekokmomhaaDoorKlane2
set_option linter.all false
namespace Go.Ev
open Go Go.Proofs
set_option maxRecDepth 4000
set_option maxHeartbeats 4000000
def s24 : Sp := fun vs H Q => match vs with
  | [.int .u32 v, .int .u32 a, .int .i64 n, .int .u32 d] => ((0 ≤ v ∧ v < 4294967296) ∧ (0 ≤ a ∧ a < 4294967296) ∧ (0 ≤ d ∧ d < 4294967296)) ∧ Q (.tup [.int .u32 (if alP n a then putV n a v d else 0), .bool (decide (alP n a))]) H false false
  | _ => False
theorem m24 : Mono s24 := by
  intro vs H Q Q' hQ h
  unfold s24 at h ⊢
  split at h
  all_goals first
    | exact h.elim
    | (repeat' (first | exact hQ _ _ _ _ h | refine And.imp_right (fun h => ?_) h | refine Exists.imp (fun _ h => ?_) h | (intro z; replace h := h z)))
theorem k24 : Snd Tryd.prog 2 24 s24 := by
  refine snd_of_ev (by kernel_rfl) (C := tab [(22, s22), (36, s36), (37, s37)]) (sndC_cons k22 (sndC_cons k36 (sndC_cons k37 (sndC_nil)))) x24 n24 c24 30 ?_
  intro vs H Q hs
  unfold s24 at hs
  split at hs
  · rename_i v a n d
    obtain ⟨hp, hs⟩ := hs
    have hq := hs; clear hs
    by_cases ha : alP n a; rcases al_facts ha hp.2.1.1 with ⟨rfl, hr, hl, h1, h2⟩ | ⟨rfl, hr, hl, h1, h2⟩ | ⟨rfl, hr, hl, h1, h2⟩ | ⟨rfl, hr, hl, h1, h2⟩ | ⟨rfl, hr, hl, h1, h2⟩ | ⟨rfl, hr, hl, h1, h2⟩ | ⟨rfl, hr, hl, h1, h2⟩
    all_goals
      repeat' (conv => whnf
               first
               | (refine Stop.mk ?_)
               | (refine fI_tmodk 0 (by first | omega | (simp only [Int.ofNat_eq_natCast] at *; omega)) ?_)
               | (refine fI_tmodk 1 (by first | omega | (simp only [Int.ofNat_eq_natCast] at *; omega)) ?_)
               | (refine fI_tmodk 2 (by first | omega | (simp only [Int.ofNat_eq_natCast] at *; omega)) ?_)
               | (refine fI_tmodk 3 (by first | omega | (simp only [Int.ofNat_eq_natCast] at *; omega)) ?_)
               | (refine fI_i64 (by first | omega | (simp only [Int.ofNat_eq_natCast] at *; omega)) ?_; intro z hz)
               | (refine fI_u32 (by first | omega | (simp only [Int.ofNat_eq_natCast] at *; omega)) ?_; intro z hz)
               | (refine fI_u8 (by first | omega | (simp only [Int.ofNat_eq_natCast] at *; omega)) ?_; intro z hz)
               | (refine fI_u64 (by first | omega | (simp only [Int.ofNat_eq_natCast] at *; omega)) ?_; intro z hz)
               | (refine fI_tdiv (by first | omega | (simp only [Int.ofNat_eq_natCast] at *; omega)) ?_; intro z hz)
               | (refine fI_tmod (by first | omega | (simp only [Int.ofNat_eq_natCast] at *; omega)) ?_; intro z hz)
               | (refine fI_gen ?_; intro z hz)
               | (refine fO_gen ?_; intro z hz)
               | (refine And.intro hp.2.1 ?_)
               | (refine ⟨⟨hp.1, Or.inr (Or.inr rfl)⟩, ?_⟩; intro b cap X ws w1 w2 w3 w4)
               | (refine ⟨⟨hp.2.2, (by decide)⟩, ?_⟩; intro b2 cap2 X2 ws2 y1 y2 y3 y4; (have hb1 := (List.getElem?_eq_some_iff.1 w3).1); (have hne : b ≠ b2 := by omega); (have w5 := (List.getElem?_append_left (l₂ := X2) hb1).trans w3); (have hbM := (List.getElem?_eq_some_iff.1 w5).1); (have q := rd_block y3 (flat_len encB_len _)))
               | (refine pure_step (ixs_eq rfl rfl (by decide) (by decide)) ?_)
               | (refine ld_step rfl (rd_sub q 0 1 (by simp [bytesV_len])) rfl ?_)
               | (refine ld_step rfl (rdN hne (rd_sub q 0 1 (by simp [bytesV_len]))) rfl ?_)
               | (refine ld_step rfl (rd_sub q 1 1 (by simp [bytesV_len])) rfl ?_)
               | (refine ld_step rfl (rdN hne (rd_sub q 1 1 (by simp [bytesV_len]))) rfl ?_)
               | (refine ld_step rfl (rd_sub q 2 1 (by simp [bytesV_len])) rfl ?_)
               | (refine ld_step rfl (rdN hne (rd_sub q 2 1 (by simp [bytesV_len]))) rfl ?_)
               | (refine ld_step rfl (rd_sub q 3 1 (by simp [bytesV_len])) rfl ?_)
               | (refine ld_step rfl (rdN hne (rd_sub q 3 1 (by simp [bytesV_len]))) rfl ?_)
               | (refine mem_step (st_eq rfl rfl rfl rfl (wrB0 w5 0 (by simp [bytesV_len]) _)) ?_)
               | (refine mem_step (st_eq rfl rfl rfl rfl (wrB1 hbM 0 (by simp [bytesV_len]) _)) ?_)
               | (refine mem_step (st_eq rfl rfl rfl rfl (wrB0 w5 1 (by simp [bytesV_len]) _)) ?_)
               | (refine mem_step (st_eq rfl rfl rfl rfl (wrB1 hbM 1 (by simp [bytesV_len]) _)) ?_)
               | (refine mem_step (st_eq rfl rfl rfl rfl (wrB0 w5 2 (by simp [bytesV_len]) _)) ?_)
               | (refine mem_step (st_eq rfl rfl rfl rfl (wrB1 hbM 2 (by simp [bytesV_len]) _)) ?_)
               | (refine mem_step (st_eq rfl rfl rfl rfl (wrB0 w5 3 (by simp [bytesV_len]) _)) ?_)
               | (refine mem_step (st_eq rfl rfl rfl rfl (wrB1 hbM 3 (by simp [bytesV_len]) _)) ?_)
               | (refine ⟨_, (by simp [bytesV_len]), (by unfold okS; simp), (by intro x hx; simp [bytesV] at hx; omega), rdB1 hbM, ?_⟩)
               | (refine dec_true (by assumption) ?_)
               | (refine dec_false (by assumption) ?_)
               | (refine dec_trueH (by first | rfl | (subst_vars; simp only [Int.ofNat_eq_natCast, tq_not, fq_not, tq_and, fq_and, tq_or, fq_or, tq_beq, fq_beq, tq_bne, fq_bne, tq_dec, fq_dec, one1, V.tup.injEq, V.agg.injEq, List.cons.injEq, V.int.injEq, V.bool.injEq, true_and, and_true, decide_eq_true_eq, decide_eq_false_iff_not, Bool.and_eq_true, Bool.and_eq_false_iff, Bool.or_eq_true, Bool.or_eq_false_iff, Bool.not_eq_true', Bool.not_eq_false', beq_iff_eq, wrap_u32, wrap_i64, wrap_u8, beq_eq_false_iff_ne, ne_eq, bne_iff_ne, bne_eq_false_iff_eq, eq_self, and_self, splice, V.cells, List.take_succ_cons, List.take_zero, List.take_nil, List.drop_zero, List.drop_succ_cons, List.drop_nil, List.cons_append, List.nil_append, List.append_nil, List.length_cons, List.length_nil, Nat.zero_add, Nat.reduceAdd, if_true, if_false, Bool.false_eq_true, beq_self_eq_true, decide_eq_decide, Bool.true_eq_false, or_false, false_or, or_true, true_or, and_false, false_and, not_true_eq_false, not_false_eq_true, Bool.and_true, Bool.true_and, Bool.not_true, Bool.not_false] at *; first | done | assumption | omega)) (fun h => ?_))
               | (refine dec_falseH (by first | rfl | (subst_vars; simp only [Int.ofNat_eq_natCast, tq_not, fq_not, tq_and, fq_and, tq_or, fq_or, tq_beq, fq_beq, tq_bne, fq_bne, tq_dec, fq_dec, one1, V.tup.injEq, V.agg.injEq, List.cons.injEq, V.int.injEq, V.bool.injEq, true_and, and_true, decide_eq_true_eq, decide_eq_false_iff_not, Bool.and_eq_true, Bool.and_eq_false_iff, Bool.or_eq_true, Bool.or_eq_false_iff, Bool.not_eq_true', Bool.not_eq_false', beq_iff_eq, wrap_u32, wrap_i64, wrap_u8, beq_eq_false_iff_ne, ne_eq, bne_iff_ne, bne_eq_false_iff_eq, eq_self, and_self, splice, V.cells, List.take_succ_cons, List.take_zero, List.take_nil, List.drop_zero, List.drop_succ_cons, List.drop_nil, List.cons_append, List.nil_append, List.append_nil, List.length_cons, List.length_nil, Nat.zero_add, Nat.reduceAdd, if_true, if_false, Bool.false_eq_true, beq_self_eq_true, decide_eq_decide, Bool.true_eq_false, or_false, false_or, or_true, true_or, and_false, false_and, not_true_eq_false, not_false_eq_true, Bool.and_true, Bool.true_and, Bool.not_true, Bool.not_false] at *; first | done | assumption | omega)) (fun h => ?_))
               | (refine dec_split (fun h => ?_) (fun h => ?_))
               | (apply silE)
               | (exact And.intro rfl (And.intro rfl (And.intro rfl rfl)))
               | (refine And.intro (by first | omega | ((simp only [decide_eq_true_eq, decide_eq_false_iff_not, Bool.and_eq_true, beq_iff_eq, Bool.not_eq_true', Bool.not_eq_false'] at *); omega) | (subst_vars; simp only [Int.ofNat_eq_natCast, tq_not, fq_not, tq_and, fq_and, tq_or, fq_or, tq_beq, fq_beq, tq_bne, fq_bne, tq_dec, fq_dec, one1, V.tup.injEq, V.agg.injEq, List.cons.injEq, V.int.injEq, V.bool.injEq, true_and, and_true, decide_eq_true_eq, decide_eq_false_iff_not, Bool.and_eq_true, Bool.and_eq_false_iff, Bool.or_eq_true, Bool.or_eq_false_iff, Bool.not_eq_true', Bool.not_eq_false', beq_iff_eq, wrap_u32, wrap_i64, wrap_u8, beq_eq_false_iff_ne, ne_eq, bne_iff_ne, bne_eq_false_iff_eq, eq_self, and_self, splice, V.cells, List.take_succ_cons, List.take_zero, List.take_nil, List.drop_zero, List.drop_succ_cons, List.drop_nil, List.cons_append, List.nil_append, List.append_nil, List.length_cons, List.length_nil, Nat.zero_add, Nat.reduceAdd, if_true, if_false, Bool.false_eq_true, beq_self_eq_true, decide_eq_decide, Bool.true_eq_false, or_false, false_or, or_true, true_or, and_false, false_and, not_true_eq_false, not_false_eq_true, Bool.and_true, Bool.true_and, Bool.not_true, Bool.not_false] at *; omega)) ?_)
               | (refine Exists.intro _ (Exists.intro _ (And.intro rfl ?_)))
               | (refine Exists.intro _ (And.intro rfl ?_))
               | (refine Exists.intro _ (Exists.intro _ (Exists.intro _ (Exists.intro _ (And.intro rfl ?_)))))
               | (refine ld_step rfl (by assumption) rfl ?_)
               | (refine lds_step rfl (by assumption) rfl ?_)
               | (refine fL_mk ?_)
               | (refine fH_mk ?_)
               | (refine fN_mk ?_)
               | (refine fLB_mk ?_)
               | (refine And.intro (by repeat (first | assumption | refine GLB_app ?_)) ?_)
               | (refine ld_step rfl ((rd_x0 _ _ _ _ _).trans rfl) rfl ?_)
               | (refine ld_step rfl ((rd_x1 _ _ _ _ _ _).trans rfl) rfl ?_)
               | (refine ld_step rfl ((rd_x2 _ _ _ _ _ _ _).trans rfl) rfl ?_)
               | (refine lds_step rfl ((rd_x0 _ _ _ _ _).trans rfl) rfl ?_)
               | (refine lds_step rfl ((rd_x1 _ _ _ _ _ _).trans rfl) rfl ?_)
               | (refine lds_step rfl ((rd_x2 _ _ _ _ _ _ _).trans rfl) rfl ?_)
               | (refine mem_step (st_eq rfl rfl rfl rfl (wr_last _ _ _ _ rfl)) ?_)
               | (refine drec_yes (by omega) ?_)
               | (refine drec_no (by omega) ?_)
               | (intro _)
               | fail)
      all_goals
        conv => whnf
        first
        | refine leafE hq ?_
        | refine leafH hq ?_ (take_set w1)
        | refine leafH hq ?_ ((take_set (X := X ++ X2) w1).trans (by rw [List.append_assoc]))
        clear hq
        subst_vars
        first
        | (rw [if_neg ha, decide_eq_false ha]; rfl)
        | (rw [if_pos ha, decide_eq_true ha]
           unfold putV
           rw [h1, h2]
           simp [one1, bytesV, ofB]
           omega)
  · exact hs.elim
end Go.Ev
