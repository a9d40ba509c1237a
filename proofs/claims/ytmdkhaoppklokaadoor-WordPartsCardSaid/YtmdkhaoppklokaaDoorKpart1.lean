/- dev: bytes of no size, numbers of any bytes -/
import Derived.Test.YtmdkhaoppklokaaDoorEvX
import Derived.Test.YtmdkhaoppklokaaDoorKbyt
import Derived.Test.YtmdkhaoppklokaaDoorKof2
set_option linter.all false
namespace Go.Ev
open Go Go.Proofs
set_option maxRecDepth 10000
set_option maxHeartbeats 4000000
def s19z : Sp := fun vs H Q => match vs with
  | [.int .u32 v, .int .i64 n] => ((0 ≤ v ∧ v < 4294967296) ∧ ¬ okS n) ∧ GLB H ∧ Q (.sl none 0 0) H false false
  | _ => False
theorem k19z : Snd Tryd.prog 2 19 s19z := by
  refine snd_of_ev (by kernel_rfl) (C := tab [(36, s36)]) (sndC_cons k36 (sndC_nil)) x19 n19 c19 30 ?_
  intro vs H Q hs
  unfold s19z at hs
  split at hs
  · skip
    obtain ⟨hp, hs⟩ := hs
    obtain ⟨hg, hs⟩ := hs
    have hq := hs; clear hs
    have hz := decide_eq_false hp.2
    repeat' (conv => whnf
             first | (refine Stop.mk ?_) | (refine fO_is hz ?_) | (refine fI_gen ?_; intro z hz) | (refine fO_gen ?_; intro z hz) | (refine And.intro hg ?_) | (refine dec_true (by assumption) ?_) | (refine dec_false (by assumption) ?_) | (refine dec_split (fun h => ?_) (fun h => ?_)) | (apply silE) | (refine Both.mk ?_ ?_) | (refine And.intro rfl ?_) | (exact And.intro rfl (And.intro rfl (And.intro rfl rfl))) | (refine And.intro (by first | omega | ((simp only [decide_eq_true_eq, decide_eq_false_iff_not, Bool.and_eq_true, beq_iff_eq, Bool.not_eq_true', Bool.not_eq_false'] at *); omega) | (subst_vars; simp only [Int.ofNat_eq_natCast, tq_not, fq_not, tq_and, fq_and, tq_or, fq_or, tq_beq, fq_beq, tq_bne, fq_bne, tq_dec, fq_dec, one1, V.tup.injEq, V.agg.injEq, List.cons.injEq, V.int.injEq, V.bool.injEq, true_and, and_true, decide_eq_true_eq, decide_eq_false_iff_not, Bool.and_eq_true, Bool.and_eq_false_iff, Bool.or_eq_true, Bool.or_eq_false_iff, Bool.not_eq_true', Bool.not_eq_false', beq_iff_eq, wrap_u32, wrap_i64, wrap_u8, beq_eq_false_iff_ne, ne_eq, bne_iff_ne, bne_eq_false_iff_eq, eq_self, and_self, splice, V.cells, List.take_succ_cons, List.take_zero, List.take_nil, List.drop_zero, List.drop_succ_cons, List.drop_nil, List.cons_append, List.nil_append, List.append_nil, List.length_cons, List.length_nil, Nat.zero_add, Nat.reduceAdd, if_true, if_false, Bool.false_eq_true, beq_self_eq_true, decide_eq_decide, Bool.true_eq_false, or_false, false_or, or_true, true_or, and_false, false_and, not_true_eq_false, not_false_eq_true, Bool.and_true, Bool.true_and, Bool.not_true, Bool.not_false] at *; omega)) ?_) | (refine Exists.intro _ (Exists.intro _ (And.intro rfl ?_))) | (refine Exists.intro _ (And.intro rfl ?_)) | (refine Exists.intro _ (Exists.intro _ (Exists.intro _ (Exists.intro _ (And.intro rfl ?_))))) | (refine ld_step rfl (by assumption) rfl ?_) | (refine lds_step rfl (by assumption) rfl ?_) | (refine fL_mk ?_) | (refine fH_mk ?_) | (refine fN_mk ?_) | (refine fLB_mk ?_) | (refine And.intro (by repeat (first | assumption | refine GLB_app ?_)) ?_) | (refine ld_step rfl ((rd_x0 _ _ _ _ _).trans rfl) rfl ?_) | (refine ld_step rfl ((rd_x1 _ _ _ _ _ _).trans rfl) rfl ?_) | (refine ld_step rfl ((rd_x2 _ _ _ _ _ _ _).trans rfl) rfl ?_) | (refine lds_step rfl ((rd_x0 _ _ _ _ _).trans rfl) rfl ?_) | (refine lds_step rfl ((rd_x1 _ _ _ _ _ _).trans rfl) rfl ?_) | (refine lds_step rfl ((rd_x2 _ _ _ _ _ _ _).trans rfl) rfl ?_) | (refine mem_step (st_eq rfl rfl rfl rfl (wr_last _ _ _ _ rfl)) ?_) | (refine drec_yes (by omega) ?_) | (refine drec_no (by omega) ?_) | (intro _) | fail)
    all_goals (conv => whnf)
    all_goals
      exact leafE hq rfl
  · exact hs.elim
def s19u : Sp := fun vs H Q => s19 vs H Q ∨ s19z vs H Q
theorem k19u : Snd Tryd.prog 2 19 s19u := snd_or k19 k19z
def s38z : Sp := fun vs H Q => match vs with
  | [.int .u32 v, .int .i64 n] => ((0 ≤ v ∧ v < 4294967296) ∧ ¬ okS n) ∧ Q (.sl none 0 0) H false false
  | _ => False
theorem k38z : Snd Tryd.prog 2 38 s38z := by
  refine snd_of_ev (by kernel_rfl) (C := tab [(37, s37)]) (sndC_cons k37 (sndC_nil)) x38 n38 c38 30 ?_
  intro vs H Q hs
  unfold s38z at hs
  split at hs
  · rename_i v n
    obtain ⟨hp, hs⟩ := hs
    have hq := hs; clear hs
    have hz := decide_eq_false hp.2; rcases (show (decide ((0 : Int) < n) = true) ∨ (decide ((0 : Int) < n) = false) by cases decide ((0 : Int) < n) <;> simp) with h0 | h0
    all_goals
      repeat' (conv => whnf
               first | (refine Stop.mk ?_) | (refine fO_is hz ?_) | (refine fO_is h0 ?_) | (refine fI_gen ?_; intro z hz) | (refine fO_gen ?_; intro z hz) | (refine dec_true (by assumption) ?_) | (refine dec_false (by assumption) ?_) | (refine dec_split (fun h => ?_) (fun h => ?_)) | (apply silE) | (refine Both.mk ?_ ?_) | (refine And.intro rfl ?_) | (exact And.intro rfl (And.intro rfl (And.intro rfl rfl))) | (refine And.intro (by first | omega | ((simp only [decide_eq_true_eq, decide_eq_false_iff_not, Bool.and_eq_true, beq_iff_eq, Bool.not_eq_true', Bool.not_eq_false'] at *); omega) | (subst_vars; simp only [Int.ofNat_eq_natCast, tq_not, fq_not, tq_and, fq_and, tq_or, fq_or, tq_beq, fq_beq, tq_bne, fq_bne, tq_dec, fq_dec, one1, V.tup.injEq, V.agg.injEq, List.cons.injEq, V.int.injEq, V.bool.injEq, true_and, and_true, decide_eq_true_eq, decide_eq_false_iff_not, Bool.and_eq_true, Bool.and_eq_false_iff, Bool.or_eq_true, Bool.or_eq_false_iff, Bool.not_eq_true', Bool.not_eq_false', beq_iff_eq, wrap_u32, wrap_i64, wrap_u8, beq_eq_false_iff_ne, ne_eq, bne_iff_ne, bne_eq_false_iff_eq, eq_self, and_self, splice, V.cells, List.take_succ_cons, List.take_zero, List.take_nil, List.drop_zero, List.drop_succ_cons, List.drop_nil, List.cons_append, List.nil_append, List.append_nil, List.length_cons, List.length_nil, Nat.zero_add, Nat.reduceAdd, if_true, if_false, Bool.false_eq_true, beq_self_eq_true, decide_eq_decide, Bool.true_eq_false, or_false, false_or, or_true, true_or, and_false, false_and, not_true_eq_false, not_false_eq_true, Bool.and_true, Bool.true_and, Bool.not_true, Bool.not_false] at *; omega)) ?_) | (refine Exists.intro _ (Exists.intro _ (And.intro rfl ?_))) | (refine Exists.intro _ (And.intro rfl ?_)) | (refine Exists.intro _ (Exists.intro _ (Exists.intro _ (Exists.intro _ (And.intro rfl ?_))))) | (refine ld_step rfl (by assumption) rfl ?_) | (refine lds_step rfl (by assumption) rfl ?_) | (refine fL_mk ?_) | (refine fH_mk ?_) | (refine fN_mk ?_) | (refine fLB_mk ?_) | (refine And.intro (by repeat (first | assumption | refine GLB_app ?_)) ?_) | (refine ld_step rfl ((rd_x0 _ _ _ _ _).trans rfl) rfl ?_) | (refine ld_step rfl ((rd_x1 _ _ _ _ _ _).trans rfl) rfl ?_) | (refine ld_step rfl ((rd_x2 _ _ _ _ _ _ _).trans rfl) rfl ?_) | (refine lds_step rfl ((rd_x0 _ _ _ _ _).trans rfl) rfl ?_) | (refine lds_step rfl ((rd_x1 _ _ _ _ _ _).trans rfl) rfl ?_) | (refine lds_step rfl ((rd_x2 _ _ _ _ _ _ _).trans rfl) rfl ?_) | (refine mem_step (st_eq rfl rfl rfl rfl (wr_last _ _ _ _ rfl)) ?_) | (refine drec_yes (by omega) ?_) | (refine drec_no (by omega) ?_) | (intro _) | fail)
      all_goals (conv => whnf)
      all_goals
        exact leafE hq rfl
  · exact hs.elim
def s38u : Sp := fun vs H Q => s38 vs H Q ∨ s38z vs H Q
theorem k38u : Snd Tryd.prog 2 38 s38u := snd_or k38 k38z
def s35z : Sp := fun vs H Q => match vs with
  | [.sl p n c] => (¬ okS (n : Int)) ∧ Q (.tup [.int .u32 0, .bool false]) H false false
  | _ => False
theorem k35z : Snd Tryd.prog 2 35 s35z := by
  refine snd_of_ev (by kernel_rfl) (C := tab [(37, s37)]) (sndC_cons k37 (sndC_nil)) x35 n35 c35 30 ?_
  intro vs H Q hs
  unfold s35z at hs
  split at hs
  · rename_i p n c
    obtain ⟨hp, hs⟩ := hs
    have hq := hs; clear hs
    have hz := decide_eq_false hp
    repeat' (conv => whnf
             first | (refine Stop.mk ?_) | (with_reducible refine fI_is (a := (n : Int)) rfl ?_) | (refine fO_is hz ?_) | (refine fI_gen ?_; intro z hz) | (refine fO_gen ?_; intro z hz) | (refine dec_true (by assumption) ?_) | (refine dec_false (by assumption) ?_) | (refine dec_split (fun h => ?_) (fun h => ?_)) | (apply silE) | (refine Both.mk ?_ ?_) | (refine And.intro rfl ?_) | (exact And.intro rfl (And.intro rfl (And.intro rfl rfl))) | (refine And.intro (by first | omega | ((simp only [decide_eq_true_eq, decide_eq_false_iff_not, Bool.and_eq_true, beq_iff_eq, Bool.not_eq_true', Bool.not_eq_false'] at *); omega) | (subst_vars; simp only [Int.ofNat_eq_natCast, tq_not, fq_not, tq_and, fq_and, tq_or, fq_or, tq_beq, fq_beq, tq_bne, fq_bne, tq_dec, fq_dec, one1, V.tup.injEq, V.agg.injEq, List.cons.injEq, V.int.injEq, V.bool.injEq, true_and, and_true, decide_eq_true_eq, decide_eq_false_iff_not, Bool.and_eq_true, Bool.and_eq_false_iff, Bool.or_eq_true, Bool.or_eq_false_iff, Bool.not_eq_true', Bool.not_eq_false', beq_iff_eq, wrap_u32, wrap_i64, wrap_u8, beq_eq_false_iff_ne, ne_eq, bne_iff_ne, bne_eq_false_iff_eq, eq_self, and_self, splice, V.cells, List.take_succ_cons, List.take_zero, List.take_nil, List.drop_zero, List.drop_succ_cons, List.drop_nil, List.cons_append, List.nil_append, List.append_nil, List.length_cons, List.length_nil, Nat.zero_add, Nat.reduceAdd, if_true, if_false, Bool.false_eq_true, beq_self_eq_true, decide_eq_decide, Bool.true_eq_false, or_false, false_or, or_true, true_or, and_false, false_and, not_true_eq_false, not_false_eq_true, Bool.and_true, Bool.true_and, Bool.not_true, Bool.not_false] at *; omega)) ?_) | (refine Exists.intro _ (Exists.intro _ (And.intro rfl ?_))) | (refine Exists.intro _ (And.intro rfl ?_)) | (refine Exists.intro _ (Exists.intro _ (Exists.intro _ (Exists.intro _ (And.intro rfl ?_))))) | (refine ld_step rfl (by assumption) rfl ?_) | (refine lds_step rfl (by assumption) rfl ?_) | (refine fL_mk ?_) | (refine fH_mk ?_) | (refine fN_mk ?_) | (refine fLB_mk ?_) | (refine And.intro (by repeat (first | assumption | refine GLB_app ?_)) ?_) | (refine ld_step rfl ((rd_x0 _ _ _ _ _).trans rfl) rfl ?_) | (refine ld_step rfl ((rd_x1 _ _ _ _ _ _).trans rfl) rfl ?_) | (refine ld_step rfl ((rd_x2 _ _ _ _ _ _ _).trans rfl) rfl ?_) | (refine lds_step rfl ((rd_x0 _ _ _ _ _).trans rfl) rfl ?_) | (refine lds_step rfl ((rd_x1 _ _ _ _ _ _).trans rfl) rfl ?_) | (refine lds_step rfl ((rd_x2 _ _ _ _ _ _ _).trans rfl) rfl ?_) | (refine mem_step (st_eq rfl rfl rfl rfl (wr_last _ _ _ _ rfl)) ?_) | (refine drec_yes (by omega) ?_) | (refine drec_no (by omega) ?_) | (intro _) | fail)
    all_goals (conv => whnf)
    all_goals
      exact leafE hq rfl
  · exact hs.elim
def s35u : Sp := fun vs H Q => s35 vs H Q ∨ s35z vs H Q
theorem k35u : Snd Tryd.prog 2 35 s35u := snd_or k35 k35z
def s35g : Sp := fun vs H Q => match vs with
  | [.sl p n cp] => ∃ (l : List Int), n = l.length ∧ (∀ x, x ∈ l → 0 ≤ x ∧ x < 256) ∧ RdB H p l ∧ Q (.tup [.int .u32 (if okS (n : Int) then ofB l else 0), .bool (decide (okS (n : Int)))]) H false false
  | _ => False
theorem k35g : Snd Tryd.prog 2 35 s35g := snd_imp k35u fun vs H Q h => by
  unfold s35g at h
  split at h
  · rename_i p n c
    obtain ⟨l, rfl, hb, hr, hq⟩ := h
    by_cases hok : okS (l.length : Int)
    · obtain ⟨b, o, rfl⟩ := hr.some (i := 0) (by unfold okS at hok; omega)
      rw [if_pos hok, decide_eq_true hok] at hq
      exact Or.inl ⟨l, rfl, hok, hb, hr, hq⟩
    · rw [if_neg hok, decide_eq_false hok] at hq
      exact Or.inr ⟨hok, hq⟩
  · exact h.elim
end Go.Ev
