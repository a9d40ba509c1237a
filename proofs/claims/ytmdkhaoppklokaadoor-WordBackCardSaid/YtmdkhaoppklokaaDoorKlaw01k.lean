/- dev: WordBack -/
import Derived.Test.YtmdkhaoppklokaaDoorKgd
import Derived.Test.YtmdkhaoppklokaaDoorKones3
import Derived.Test.YtmdkhaoppklokaaDoorEvSl
set_option linter.all false
namespace Go.Ev
open Go Go.Proofs
set_option maxRecDepth 40000
set_option maxHeartbeats 4000000
def s24 : Sp := fun vs H Q => match vs with
  | [.int .u32 a, .int .u32 b] => Q (.tup [.int .u32 (IntKind.u32.wrap (a - b)), .bool (decide (a < b))]) H false false
  | _ => False
theorem m24 : Mono s24 := by
  intro vs H Q Q' hQ h
  unfold s24 at h ⊢
  split at h
  all_goals first
    | exact h.elim
    | (repeat' (first | exact hQ _ _ _ _ h | refine And.imp_right (fun h => ?_) h | refine Exists.imp (fun _ h => ?_) h | (intro z; replace h := h z)))
theorem k24 : Snd Tryd.prog 2 24 s24 := by
  refine snd_of_ev (by kernel_rfl) (C := tab []) (sndC_nil) x24 n24 c24 30 ?_
  intro vs H Q hs
  unfold s24 at hs
  split at hs
  · rename_i a b
    have hq := hs; clear hs
    repeat' (conv => whnf
             first
             | (refine Stop.mk ?_)
             | (refine fI_gen ?_; intro z hz)
             | (refine fO_gen ?_; intro z hz)
             | (refine dec_true (by assumption) ?_)
             | (refine dec_false (by assumption) ?_)
             | (refine dec_split (fun h => ?_) (fun h => ?_))
             | (apply silE)
             | (refine Both.mk ?_ ?_)
             | (refine And.intro rfl ?_)
             | (exact And.intro rfl (And.intro rfl (And.intro rfl rfl)))
             | (refine And.intro (by first | omega | ((simp only [decide_eq_true_eq, decide_eq_false_iff_not, Bool.and_eq_true, beq_iff_eq, Bool.not_eq_true', Bool.not_eq_false'] at *); omega) | (subst_vars; simp only [Int.ofNat_eq_natCast, tq_not, fq_not, tq_and, fq_and, tq_or, fq_or, tq_beq, fq_beq, tq_bne, fq_bne, tq_dec, fq_dec, one1, V.tup.injEq, V.agg.injEq, List.cons.injEq, V.int.injEq, V.bool.injEq, true_and, and_true, decide_eq_true_eq, decide_eq_false_iff_not, Bool.and_eq_true, Bool.and_eq_false_iff, Bool.or_eq_true, Bool.or_eq_false_iff, Bool.not_eq_true', Bool.not_eq_false', beq_iff_eq, wrap_u32, wrap_i64, wrap_u8, beq_eq_false_iff_ne, ne_eq, bne_iff_ne, bne_eq_false_iff_eq, eq_self, and_self, splice, V.cells, List.take_succ_cons, List.take_zero, List.take_nil, List.drop_zero, List.drop_succ_cons, List.drop_nil, List.cons_append, List.nil_append, List.append_nil, List.length_cons, List.length_nil, Nat.zero_add, Nat.reduceAdd, if_true, if_false, Bool.false_eq_true, beq_self_eq_true, decide_eq_decide, Bool.true_eq_false, or_false, false_or, or_true, true_or, and_false, false_and, not_true_eq_false, not_false_eq_true, Bool.and_true, Bool.true_and, Bool.not_true, Bool.not_false] at *; omega)) ?_)
             | (refine Exists.intro _ (Exists.intro _ (And.intro rfl ?_)))
             | (refine Exists.intro _ (And.intro rfl ?_))
             | (refine Exists.intro _ (Exists.intro _ (Exists.intro _ (Exists.intro _ (And.intro rfl ?_)))))
             | (refine ld_step rfl (by assumption) rfl ?_)
             | (refine lds_step rfl (by assumption) rfl ?_)
             | (refine fL_mk ?_)
             | (refine fH_mk ?_)
             | (refine fN_mk ?_)
             | (refine fLB_mk ?_)
             | (refine And.intro (by repeat (first | assumption | refine GLB_app ?_)) ?_)
             | (refine ld_step rfl ((rd_x0 _ _ _ _ _).trans rfl) rfl ?_)
             | (refine ld_step rfl ((rd_x1 _ _ _ _ _ _).trans rfl) rfl ?_)
             | (refine ld_step rfl ((rd_x2 _ _ _ _ _ _ _).trans rfl) rfl ?_)
             | (refine lds_step rfl ((rd_x0 _ _ _ _ _).trans rfl) rfl ?_)
             | (refine lds_step rfl ((rd_x1 _ _ _ _ _ _).trans rfl) rfl ?_)
             | (refine lds_step rfl ((rd_x2 _ _ _ _ _ _ _).trans rfl) rfl ?_)
             | (refine mem_step (st_eq rfl rfl rfl rfl (wr_last _ _ _ _ rfl)) ?_)
             | (refine drec_yes (by omega) ?_)
             | (refine drec_no (by omega) ?_)
             | (intro _)
             | fail)
    all_goals (conv => whnf)
    all_goals
      refine leafE hq ?_
      subst_vars
      rfl
  · exact hs.elim
def encJ (x : Int) : List V := [.int .i64 x]
theorem encJ_len (x : Int) : (encJ x).length = 1 := rfl
theorem encJ_map (l : List Int) : l.map (V.int .i64) = l.flatMap encJ := by
  induction l with
  | nil => rfl
  | cons a l ih => rw [List.flatMap_cons, List.map_cons, ih]; rfl
def sumV (l : List Int) : Int := l.foldl (fun s x => s + 2 ^ x.toNat) 0
theorem sum_snoc (l : List Int) (x : Int) : sumV (l ++ [x]) = sumV l + 2 ^ x.toNat := by unfold sumV; rw [List.foldl_append]; rfl
theorem sum_ones (n : Nat) : ∀ k, sumV (onesL (n : Int) k) = ((n % 2 ^ k : Nat) : Int)
  | 0 => by rw [onesL, Nat.pow_zero, Nat.mod_one]; rfl
  | k + 1 => by
    have ih := sum_ones n k
    have e1 : ((n : Int)) / 2 ^ k % 2 = ((n / 2 ^ k % 2 : Nat) : Int) := by
      rw [Int.natCast_emod, Int.natCast_ediv, Int.natCast_pow]; rfl
    have e2 : n % 2 ^ (k + 1) = n % 2 ^ k + 2 ^ k * (n / 2 ^ k % 2) := by rw [Nat.pow_succ, Nat.mod_mul]
    have h2 : n / 2 ^ k % 2 = 0 ∨ n / 2 ^ k % 2 = 1 := by omega
    unfold onesL
    by_cases hb : (n : Int) / 2 ^ k % 2 = 1
    · have h3 : n / 2 ^ k % 2 = 1 := by rw [e1] at hb; omega
      rw [if_pos hb, sum_snoc, ih, e2, h3, Nat.mul_one, Int.natCast_add, Int.natCast_pow]; rfl
    · have h3 : n / 2 ^ k % 2 = 0 := by rw [e1] at hb; omega
      rw [if_neg hb, ih, e2, h3, Nat.mul_zero, Nat.add_zero]
theorem ones_bd (v : Int) : ∀ k x, x ∈ onesL v k → 0 ≤ x ∧ x < (k : Int)
  | 0, x, h => by simp [onesL] at h
  | k + 1, x, h => by
    unfold onesL at h
    split at h
    · rcases List.mem_append.1 h with h | h
      · have := ones_bd v k x h; omega
      · rw [List.mem_singleton] at h; omega
    · have := ones_bd v k x h; omega
theorem ones_sorted (v : Int) : ∀ k, (onesL v k).Pairwise (· < ·)
  | 0 => List.Pairwise.nil
  | k + 1 => by
    unfold onesL
    split
    · rw [List.pairwise_append]
      refine ⟨ones_sorted v k, List.pairwise_singleton _ _, fun a ha b hb => ?_⟩
      have := ones_bd v k a ha
      rw [List.mem_singleton] at hb; omega
    · exact ones_sorted v k
theorem sum_pos : ∀ l : List Int, 0 ≤ sumV l := by
  intro l
  unfold sumV
  suffices h : ∀ (l : List Int) (a : Int), 0 ≤ a → 0 ≤ l.foldl (fun s x => s + 2 ^ x.toNat) a from h l 0 (Int.le_refl _)
  intro l
  induction l with
  | nil => exact fun a h => h
  | cons x l ih =>
    intro a h
    have hp : (0 : Int) < 2 ^ x.toNat := Int.pow_pos (by decide)
    exact ih _ (by show 0 ≤ a + 2 ^ x.toNat; omega)
theorem sum_take (l : List Int) : ∀ (k i : Nat), i + k = l.length → sumV (l.take i) ≤ sumV l
  | 0, i, h => by rw [List.take_of_length_le (by omega)]; exact Int.le_refl _
  | k + 1, i, h => by
    have ih := sum_take l k (i + 1) (by omega)
    rw [take_snoc (show i < l.length by omega), sum_snoc] at ih
    have hp : (0 : Int) < (2 : Int) ^ (l[i]'(by omega)).toNat := Int.pow_pos (by decide)
    omega
def s7 : Sp := fun vs H Q => match vs with
  | [.int .u32 a, .int .u32 b] => ((0 ≤ a ∧ a < 4294967296) ∧ (0 ≤ b ∧ b < 4294967296)) ∧ GLB H ∧ Q (.bool true) H false false
  | _ => False
theorem k7 : Snd Tryd.prog 2 7 s7 := by
  refine snd_of_ev (by kernel_rfl) (C := tab [(9, s9), (22, s22), (24, s24), (28, s28), (26, s26)]) (sndC_cons k9 (sndC_cons k22 (sndC_cons k24 (sndC_cons k28 (sndC_cons k26 (sndC_nil)))))) x7 n7 c7 200 ?_
  have hC : MonoC (tab [(9, s9), (22, s22), (24, s24), (28, s28), (26, s26)]) := monoC_cons m9 (monoC_cons m22 (monoC_cons m24 (monoC_cons m28 (monoC_cons m26 (monoC_nil)))))
  intro vs Hx Q hs
  unfold s7 at hs
  split at hs
  · rename_i a b
    obtain ⟨⟨ha, hb⟩, hg, hq⟩ := hs
    have r1 : IntKind.u32.wrap (IntKind.u32.wrap (a + b) - b) = a := by rw [wrap_u32, wrap_u32]; omega
    have r2 : decide (IntKind.u32.wrap (a + b) < a) = decide (IntKind.u32.wrap (a + b) < b) := by rw [decide_eq_decide, wrap_u32]; omega
    obtain ⟨n, rfl⟩ := Int.eq_ofNat_of_zero_le ha.1
    have hsum : sumV (onesL (n : Int) 32) = (n : Int) := by rw [sum_ones, Nat.mod_eq_of_lt (by have := ha.2; omega)]
    have hbd := ones_bd (n : Int) 32
    have hsort := ones_sorted (n : Int) 32
    have hlen := onesL_len (n : Int) 32
    have hfb : firstB (n : Int) = !(onesL (n : Int) 32).isEmpty := rfl
    have hfi : firstI (n : Int) = (onesL (n : Int) 32).head?.getD 0 := rfl
    obtain ⟨l, hl⟩ : ∃ l, l = onesL (n : Int) 32 := ⟨_, rfl⟩
    rw [← hl] at hsum hbd hsort hlen hfb hfi
    by_cases hne : l = []
    · have hn0 : (n : Int) = 0 := by rw [← hsum, hne]; rfl
      have hfb' : firstB (n : Int) = false := by rw [hfb, hne]; rfl
      have hfi' : firstI (n : Int) = 0 := by rw [hfi, hne]; rfl
      have d1 : ((0 : Int) == (n : Int)) = true := by rw [hn0]; rfl
      have d2 : ((n : Int) != 0) = false := by rw [hn0]; rfl
      have hne' : onesL (n : Int) 32 = [] := by rw [← hl]; exact hne
      repeat' (conv => whnf
               first
               | (refine Stop.mk ?_)
               | (refine fI_is r1 ?_)
               | (refine fO_is r2 ?_)
               | (refine fO_is (bne_self_eq_false _) ?_)
               | (with_reducible refine fO_is (a := decide (IntKind.u32.wrap ((n : Int) + b) < b)) rfl ?_)
               | (with_reducible refine fI_is (a := IntKind.u32.wrap ((n : Int) + b)) rfl ?_)
               | (refine fI_is hfi' ?_)
               | (refine fO_is hfb' ?_)
               | (refine fO_is d1 ?_)
               | (refine fO_is d2 ?_)
               | (with_reducible refine fI_is (a := (n : Int)) rfl ?_)
               | (refine fI_gen ?_; intro z hz)
               | (refine fO_gen ?_; intro z hz)
               | (refine And.intro ha (And.intro (fun hn => ?_) (fun hn => absurd hne' hn)))
               | (refine And.intro ha ?_)
               | (refine And.intro hg ?_)
               | (refine dec_true (by assumption) ?_)
               | (refine dec_false (by assumption) ?_)
               | ((with_reducible refine dec_trueH ?tst ?_); (case tst => (first | rfl | ((try clear hC); (try clear kn); (try clear kx); (try clear kr); (try clear kn1); (try clear kx1); (try clear kr1); (try clear kn2); (try clear kx2); (try clear kr2); (try clear kn3); (try clear kx3); (try clear kr3); subst_vars; simp only [Int.ofNat_eq_natCast, tq_not, fq_not, tq_and, fq_and, tq_or, fq_or, tq_beq, fq_beq, tq_bne, fq_bne, tq_dec, fq_dec, one1, V.tup.injEq, V.agg.injEq, List.cons.injEq, V.int.injEq, V.bool.injEq, true_and, and_true, decide_eq_true_eq, decide_eq_false_iff_not, Bool.and_eq_true, Bool.and_eq_false_iff, Bool.or_eq_true, Bool.or_eq_false_iff, Bool.not_eq_true', Bool.not_eq_false', beq_iff_eq, wrap_u32, wrap_i64, wrap_u8, beq_eq_false_iff_ne, ne_eq, bne_iff_ne, bne_eq_false_iff_eq, eq_self, and_self, splice, V.cells, List.take_succ_cons, List.take_zero, List.take_nil, List.drop_zero, List.drop_succ_cons, List.drop_nil, List.cons_append, List.nil_append, List.append_nil, List.length_cons, List.length_nil, Nat.zero_add, Nat.reduceAdd, if_true, if_false, Bool.false_eq_true, beq_self_eq_true, decide_eq_decide, Bool.true_eq_false, or_false, false_or, or_true, true_or, and_false, false_and, not_true_eq_false, not_false_eq_true, Bool.and_true, Bool.true_and, Bool.not_true, Bool.not_false] at *; first | done | assumption | omega))); intro h)
               | ((with_reducible refine dec_falseH ?tst ?_); (case tst => (first | rfl | ((try clear hC); (try clear kn); (try clear kx); (try clear kr); (try clear kn1); (try clear kx1); (try clear kr1); (try clear kn2); (try clear kx2); (try clear kr2); (try clear kn3); (try clear kx3); (try clear kr3); subst_vars; simp only [Int.ofNat_eq_natCast, tq_not, fq_not, tq_and, fq_and, tq_or, fq_or, tq_beq, fq_beq, tq_bne, fq_bne, tq_dec, fq_dec, one1, V.tup.injEq, V.agg.injEq, List.cons.injEq, V.int.injEq, V.bool.injEq, true_and, and_true, decide_eq_true_eq, decide_eq_false_iff_not, Bool.and_eq_true, Bool.and_eq_false_iff, Bool.or_eq_true, Bool.or_eq_false_iff, Bool.not_eq_true', Bool.not_eq_false', beq_iff_eq, wrap_u32, wrap_i64, wrap_u8, beq_eq_false_iff_ne, ne_eq, bne_iff_ne, bne_eq_false_iff_eq, eq_self, and_self, splice, V.cells, List.take_succ_cons, List.take_zero, List.take_nil, List.drop_zero, List.drop_succ_cons, List.drop_nil, List.cons_append, List.nil_append, List.append_nil, List.length_cons, List.length_nil, Nat.zero_add, Nat.reduceAdd, if_true, if_false, Bool.false_eq_true, beq_self_eq_true, decide_eq_decide, Bool.true_eq_false, or_false, false_or, or_true, true_or, and_false, false_and, not_true_eq_false, not_false_eq_true, Bool.and_true, Bool.true_and, Bool.not_true, Bool.not_false] at *; first | done | assumption | omega))); intro h)
               | (refine dec_split (fun h => ?_) (fun h => ?_))
               | (apply silE)
               | (refine Both.mk ?_ ?_)
               | (refine And.intro rfl ?_)
               | (exact And.intro rfl (And.intro rfl (And.intro rfl rfl)))
               | (refine And.intro (by first | omega | ((simp only [decide_eq_true_eq, decide_eq_false_iff_not, Bool.and_eq_true, beq_iff_eq, Bool.not_eq_true', Bool.not_eq_false'] at *); omega) | (subst_vars; simp only [Int.ofNat_eq_natCast, tq_not, fq_not, tq_and, fq_and, tq_or, fq_or, tq_beq, fq_beq, tq_bne, fq_bne, tq_dec, fq_dec, one1, V.tup.injEq, V.agg.injEq, List.cons.injEq, V.int.injEq, V.bool.injEq, true_and, and_true, decide_eq_true_eq, decide_eq_false_iff_not, Bool.and_eq_true, Bool.and_eq_false_iff, Bool.or_eq_true, Bool.or_eq_false_iff, Bool.not_eq_true', Bool.not_eq_false', beq_iff_eq, wrap_u32, wrap_i64, wrap_u8, beq_eq_false_iff_ne, ne_eq, bne_iff_ne, bne_eq_false_iff_eq, eq_self, and_self, splice, V.cells, List.take_succ_cons, List.take_zero, List.take_nil, List.drop_zero, List.drop_succ_cons, List.drop_nil, List.cons_append, List.nil_append, List.append_nil, List.length_cons, List.length_nil, Nat.zero_add, Nat.reduceAdd, if_true, if_false, Bool.false_eq_true, beq_self_eq_true, decide_eq_decide, Bool.true_eq_false, or_false, false_or, or_true, true_or, and_false, false_and, not_true_eq_false, not_false_eq_true, Bool.and_true, Bool.true_and, Bool.not_true, Bool.not_false] at *; omega)) ?_)
               | (refine Exists.intro _ (Exists.intro _ (And.intro rfl ?_)))
               | (refine Exists.intro _ (And.intro rfl ?_))
               | (refine Exists.intro _ (Exists.intro _ (Exists.intro _ (Exists.intro _ (And.intro rfl ?_)))))
               | (refine ld_step rfl (by assumption) rfl ?_)
               | (refine lds_step rfl (by assumption) rfl ?_)
               | (refine fL_mk ?_)
               | (refine fH_mk ?_)
               | (refine fN_mk ?_)
               | (refine fLB_mk ?_)
               | (refine And.intro (by repeat (first | assumption | refine GLB_app ?_)) ?_)
               | (refine ld_step rfl ((rd_x0 _ _ _ _ _).trans rfl) rfl ?_)
               | (refine ld_step rfl ((rd_x1 _ _ _ _ _ _).trans rfl) rfl ?_)
               | (refine ld_step rfl ((rd_x2 _ _ _ _ _ _ _).trans rfl) rfl ?_)
               | (refine lds_step rfl ((rd_x0 _ _ _ _ _).trans rfl) rfl ?_)
               | (refine lds_step rfl ((rd_x1 _ _ _ _ _ _).trans rfl) rfl ?_)
               | (refine lds_step rfl ((rd_x2 _ _ _ _ _ _ _).trans rfl) rfl ?_)
               | (refine mem_step (st_eq rfl rfl rfl rfl (wr_last _ _ _ _ rfl)) ?_)
               | (refine drec_yes (by omega) ?_)
               | (refine drec_no (by omega) ?_)
               | (intro _)
               | fail)
      all_goals (conv => whnf)
      all_goals exact leafE hq rfl
    · have hne' : onesL (n : Int) 32 ≠ [] := by rw [← hl]; exact hne
      have hpos : 0 < l.length := List.length_pos_iff.2 hne
      have hh : l.head?.getD 0 = l[0] := by rw [List.head?_eq_getElem?, List.getElem?_eq_getElem hpos]; rfl
      have hfb' : firstB (n : Int) = true := by
        rw [hfb]
        cases l with
        | nil => exact absurd rfl hne
        | cons x r => rfl
      have hfi' : firstI (n : Int) = l[0] := by rw [hfi, hh]
      have hn0 : (n : Int) ≠ 0 := by
        intro h0
        have h1 := sum_take l (l.length - 1) 1 (by omega)
        rw [take_snoc hpos, sum_snoc, hsum, h0] at h1
        have hp : (0 : Int) < (2 : Int) ^ (l[0]).toNat := Int.pow_pos (by decide)
        have : sumV (l.take 0) = 0 := rfl
        omega
      have d2 : ((n : Int) != 0) = true := by simpa using hn0
      suffices hh : ∀ k, 100 < k → evFun (tab [(9, s9), (22, s22), (24, s24), (28, s28), (26, s26)]) k e7 [.int .u32 (n : Int), .int .u32 b] Hx Q from hh _ (by omega)
      intro k hk
      refine evFun_in (tm := SV.v (.int .u32 (n : Int)) :: SV.v (.int .u32 b) :: undefV :: undefV :: undefV :: undefV :: undefV :: undefV :: undefV :: undefV :: undefV :: undefV :: undefV :: undefV :: undefV :: undefV :: undefV :: undefV :: undefV :: undefV :: undefV :: undefV :: undefV :: undefV :: undefV :: undefV :: undefV :: undefV :: undefV :: undefV :: undefV :: undefV :: undefV :: undefV :: undefV :: undefV :: undefV :: undefV :: undefV :: undefV :: undefV :: undefV :: undefV :: undefV :: undefV :: undefV :: undefV :: undefV :: undefV :: undefV :: undefV :: undefV :: undefV :: undefV :: undefV :: undefV :: undefV :: undefV :: undefV :: undefV :: undefV :: undefV :: undefV :: undefV :: undefV :: undefV :: undefV :: undefV :: undefV :: undefV :: undefV :: undefV :: undefV :: undefV :: undefV :: undefV :: undefV :: undefV :: undefV :: undefV :: undefV :: undefV :: undefV :: undefV :: undefV :: undefV :: undefV :: undefV :: undefV :: undefV :: undefV :: undefV :: undefV :: undefV :: undefV :: undefV :: undefV :: undefV :: undefV :: undefV :: undefV :: undefV :: undefV :: undefV :: undefV :: undefV :: undefV :: undefV :: undefV :: undefV :: undefV :: []) rfl ?_
      show rC _ _ r7_0 _ _ _ _ _ _
      repeat' (conv => whnf
               first
               | (refine Stop.mk ?_)
               | (refine fI_is r1 ?_)
               | (refine fO_is r2 ?_)
               | (refine fO_is (bne_self_eq_false _) ?_)
               | (with_reducible refine fO_is (a := decide (IntKind.u32.wrap ((n : Int) + b) < b)) rfl ?_)
               | (with_reducible refine fI_is (a := IntKind.u32.wrap ((n : Int) + b)) rfl ?_)
               | (with_reducible refine fI_is (a := (n : Int)) rfl ?_)
               | (refine fI_gen ?_; intro z hz)
               | (refine fO_gen ?_; intro z hz)
               | (refine And.intro ha (And.intro (fun hn => absurd hn hne') (fun hn cap hcap => ?_)))
               | (refine And.intro hg ?_)
               | (refine dec_true (by assumption) ?_)
               | (refine dec_false (by assumption) ?_)
               | ((with_reducible refine dec_trueH ?tst ?_); (case tst => (first | rfl | ((try clear hC); (try clear kn); (try clear kx); (try clear kr); (try clear kn1); (try clear kx1); (try clear kr1); (try clear kn2); (try clear kx2); (try clear kr2); (try clear kn3); (try clear kx3); (try clear kr3); subst_vars; simp only [Int.ofNat_eq_natCast, tq_not, fq_not, tq_and, fq_and, tq_or, fq_or, tq_beq, fq_beq, tq_bne, fq_bne, tq_dec, fq_dec, one1, V.tup.injEq, V.agg.injEq, List.cons.injEq, V.int.injEq, V.bool.injEq, true_and, and_true, decide_eq_true_eq, decide_eq_false_iff_not, Bool.and_eq_true, Bool.and_eq_false_iff, Bool.or_eq_true, Bool.or_eq_false_iff, Bool.not_eq_true', Bool.not_eq_false', beq_iff_eq, wrap_u32, wrap_i64, wrap_u8, beq_eq_false_iff_ne, ne_eq, bne_iff_ne, bne_eq_false_iff_eq, eq_self, and_self, splice, V.cells, List.take_succ_cons, List.take_zero, List.take_nil, List.drop_zero, List.drop_succ_cons, List.drop_nil, List.cons_append, List.nil_append, List.append_nil, List.length_cons, List.length_nil, Nat.zero_add, Nat.reduceAdd, if_true, if_false, Bool.false_eq_true, beq_self_eq_true, decide_eq_decide, Bool.true_eq_false, or_false, false_or, or_true, true_or, and_false, false_and, not_true_eq_false, not_false_eq_true, Bool.and_true, Bool.true_and, Bool.not_true, Bool.not_false] at *; first | done | assumption | omega))); intro h)
               | ((with_reducible refine dec_falseH ?tst ?_); (case tst => (first | rfl | ((try clear hC); (try clear kn); (try clear kx); (try clear kr); (try clear kn1); (try clear kx1); (try clear kr1); (try clear kn2); (try clear kx2); (try clear kr2); (try clear kn3); (try clear kx3); (try clear kr3); subst_vars; simp only [Int.ofNat_eq_natCast, tq_not, fq_not, tq_and, fq_and, tq_or, fq_or, tq_beq, fq_beq, tq_bne, fq_bne, tq_dec, fq_dec, one1, V.tup.injEq, V.agg.injEq, List.cons.injEq, V.int.injEq, V.bool.injEq, true_and, and_true, decide_eq_true_eq, decide_eq_false_iff_not, Bool.and_eq_true, Bool.and_eq_false_iff, Bool.or_eq_true, Bool.or_eq_false_iff, Bool.not_eq_true', Bool.not_eq_false', beq_iff_eq, wrap_u32, wrap_i64, wrap_u8, beq_eq_false_iff_ne, ne_eq, bne_iff_ne, bne_eq_false_iff_eq, eq_self, and_self, splice, V.cells, List.take_succ_cons, List.take_zero, List.take_nil, List.drop_zero, List.drop_succ_cons, List.drop_nil, List.cons_append, List.nil_append, List.append_nil, List.length_cons, List.length_nil, Nat.zero_add, Nat.reduceAdd, if_true, if_false, Bool.false_eq_true, beq_self_eq_true, decide_eq_decide, Bool.true_eq_false, or_false, false_or, or_true, true_or, and_false, false_and, not_true_eq_false, not_false_eq_true, Bool.and_true, Bool.true_and, Bool.not_true, Bool.not_false] at *; first | done | assumption | omega))); intro h)
               | (refine dec_split (fun h => ?_) (fun h => ?_))
               | (apply silE)
               | (refine Both.mk ?_ ?_)
               | (refine And.intro rfl ?_)
               | (exact And.intro rfl (And.intro rfl (And.intro rfl rfl)))
               | (refine And.intro (by first | omega | ((simp only [decide_eq_true_eq, decide_eq_false_iff_not, Bool.and_eq_true, beq_iff_eq, Bool.not_eq_true', Bool.not_eq_false'] at *); omega) | (subst_vars; simp only [Int.ofNat_eq_natCast, tq_not, fq_not, tq_and, fq_and, tq_or, fq_or, tq_beq, fq_beq, tq_bne, fq_bne, tq_dec, fq_dec, one1, V.tup.injEq, V.agg.injEq, List.cons.injEq, V.int.injEq, V.bool.injEq, true_and, and_true, decide_eq_true_eq, decide_eq_false_iff_not, Bool.and_eq_true, Bool.and_eq_false_iff, Bool.or_eq_true, Bool.or_eq_false_iff, Bool.not_eq_true', Bool.not_eq_false', beq_iff_eq, wrap_u32, wrap_i64, wrap_u8, beq_eq_false_iff_ne, ne_eq, bne_iff_ne, bne_eq_false_iff_eq, eq_self, and_self, splice, V.cells, List.take_succ_cons, List.take_zero, List.take_nil, List.drop_zero, List.drop_succ_cons, List.drop_nil, List.cons_append, List.nil_append, List.append_nil, List.length_cons, List.length_nil, Nat.zero_add, Nat.reduceAdd, if_true, if_false, Bool.false_eq_true, beq_self_eq_true, decide_eq_decide, Bool.true_eq_false, or_false, false_or, or_true, true_or, and_false, false_and, not_true_eq_false, not_false_eq_true, Bool.and_true, Bool.true_and, Bool.not_true, Bool.not_false] at *; omega)) ?_)
               | (refine Exists.intro _ (Exists.intro _ (And.intro rfl ?_)))
               | (refine Exists.intro _ (And.intro rfl ?_))
               | (refine Exists.intro _ (Exists.intro _ (Exists.intro _ (Exists.intro _ (And.intro rfl ?_)))))
               | (refine ld_step rfl (by assumption) rfl ?_)
               | (refine lds_step rfl (by assumption) rfl ?_)
               | (refine fL_mk ?_)
               | (refine fH_mk ?_)
               | (refine fN_mk ?_)
               | (refine fLB_mk ?_)
               | (refine And.intro (by repeat (first | assumption | refine GLB_app ?_)) ?_)
               | (refine ld_step rfl ((rd_x0 _ _ _ _ _).trans rfl) rfl ?_)
               | (refine ld_step rfl ((rd_x1 _ _ _ _ _ _).trans rfl) rfl ?_)
               | (refine ld_step rfl ((rd_x2 _ _ _ _ _ _ _).trans rfl) rfl ?_)
               | (refine lds_step rfl ((rd_x0 _ _ _ _ _).trans rfl) rfl ?_)
               | (refine lds_step rfl ((rd_x1 _ _ _ _ _ _).trans rfl) rfl ?_)
               | (refine lds_step rfl ((rd_x2 _ _ _ _ _ _ _).trans rfl) rfl ?_)
               | (refine mem_step (st_eq rfl rfl rfl rfl (wr_last _ _ _ _ rfl)) ?_)
               | (refine drec_yes (by omega) ?_)
               | (refine drec_no (by omega) ?_)
               | (intro _)
               | fail)
      conv => whnf
      obtain ⟨H2, hH2⟩ : ∃ H2, H2 = Hx ++ [.ro (l.flatMap encJ)] := ⟨_, rfl⟩
      have hrd : rd (Hx ++ [.ro (l.flatMap encJ)]) Hx.length 0 (l.length * 1) = some (l.flatMap encJ) := rd_all List.getElem?_concat_length (flat_len encJ_len _)
      rw [← hl] at hcap
      rw [← hl]
      repeat' (conv => whnf
               first
               | (refine Stop.mk ?_)
               | (refine fI_mk ?_)
               | (refine fO_mk ?_)
               | (refine fN_mk ?_)
               | fail)
      conv => whnf
      refine rLoop_ctr (c := rC (tab [(9, s9), (22, s22), (24, s24), (28, s28), (26, s26)]) k l7_0) l.length 11 (false :: false :: false :: false :: true :: false :: false :: false :: false :: true :: false :: false :: false :: false :: false :: false :: false :: false :: false :: false :: false :: false :: false :: false :: false :: false :: false :: false :: false :: false :: false :: false :: false :: false :: false :: false :: false :: false :: true :: true :: true :: true :: true :: true :: true :: true :: true :: true :: true :: true :: true :: true :: true :: true :: true :: true :: true :: true :: true :: true :: true :: true :: true :: true :: true :: true :: true :: true :: true :: true :: true :: true :: true :: true :: true :: true :: true :: true :: true :: false :: false :: false :: false :: false :: false :: false :: false :: false :: false :: false :: false :: false :: false :: false :: false :: false :: false :: false :: false :: false :: false :: false :: false :: false :: false :: false :: false :: false :: false :: false :: false :: []) (fun i tm L H e g => svAt tm 9 = .v (.int .u32 (sumV (l.take i))) ∧ L = [] ∧ H = Hx ++ [.ro (l.map (V.int .i64))] ∧ e = false ∧ g = true) (by omega) rfl ⟨rfl, rfl, rfl, rfl, rfl⟩ ?_
      intro i0 hi0
      conv => whnf
      intro j
      conv => whnf
      intro j
      conv => whnf
      intro j
      conv => whnf
      intro j
      conv => whnf
      intro j
      conv => whnf
      intro j
      conv => whnf
      intro j
      conv => whnf
      intro j
      conv => whnf
      intro j
      conv => whnf
      intro j
      conv => whnf
      intro j
      conv => whnf
      intro j
      conv => whnf
      intro j
      conv => whnf
      intro j
      conv => whnf
      intro j
      conv => whnf
      intro j
      conv => whnf
      intro j
      conv => whnf
      intro j
      conv => whnf
      intro j
      conv => whnf
      intro j
      conv => whnf
      intro j
      conv => whnf
      intro j
      conv => whnf
      intro j
      conv => whnf
      intro j
      conv => whnf
      intro j
      conv => whnf
      intro j
      conv => whnf
      intro j
      conv => whnf
      intro j
      conv => whnf
      intro j
      conv => whnf
      intro j
      conv => whnf
      intro j
      conv => whnf
      intro j
      conv => whnf
      intro j
      conv => whnf
      intro j
      conv => whnf
      intro j
      conv => whnf
      intro j
      conv => whnf
      intro j
      conv => whnf
      intro j
      conv => whnf
      intro j
      conv => whnf
      intro j
      conv => whnf
      intro j
      conv => whnf
      intro j
      conv => whnf
      intro j
      conv => whnf
      refine Halt.mk ?_
      rintro L H' e g ⟨h9, rfl, rfl, rfl, rfl⟩ K kn kx kr
      conv at h9 => lhs; whnf
      subst h9
      have hr1 : rd (Hx ++ [.ro (l.map (V.int .i64))]) Hx.length 0 (l.length * 1) = some (l.flatMap encJ) := by rw [encJ_map]; exact hrd
      have hsp := sum_pos (l.take i0)
      have hi' : i0 ≤ l.length := by assumption
      have hst := sum_take l (l.length - i0) i0 (by omega)
      rw [hsum] at hst
      repeat' (conv => whnf
               first
               | (refine Stop.mk ?_)
               | (with_reducible refine fI_is (a := (l.length : Int)) rfl ?_)
               | (refine fI_mk ?_)
               | (refine fO_mk ?_)
               | (refine fN_mk ?_)
               | fail)
      conv => whnf
      refine dec_split (fun h => ?_) (fun h => ?_)
      · have hlt : i0 < l.length := by have h2 : (i0 : Int) < (l.length : Int) := of_decide_eq_true h; omega
        clear kx kr
        have ea : ∀ p, p = 0 + i0 * 1 → rd (Hx ++ [.ro (l.map (V.int .i64))]) Hx.length p 1 = some (encJ l[i0]) := fun p hp => rd_el encJ_len hr1 i0 hlt p hp
        have hb1 := hbd _ (List.getElem_mem hlt)
        obtain ⟨x, hx⟩ : ∃ x, x = l[i0] := ⟨_, rfl⟩
        have hst2 := sum_take l (l.length - (i0 + 1)) (i0 + 1) (by omega)
        rw [hsum, take_snoc hlt, sum_snoc, ← hx] at hst2
        have e1 : sumV (l.take (i0 + 1)) = sumV (l.take i0) + 2 ^ x.toNat := by rw [take_snoc hlt, sum_snoc, hx]
        have hpx : (0 : Int) < 2 ^ x.toNat := Int.pow_pos (by decide)
        rw [← hx] at ea hb1
        have w1 : IntKind.u32.wrap (1 * 2 ^ (min x.toNat IntKind.u32.bits)) = 2 ^ x.toNat := by
          rw [Nat.min_eq_left (show x.toNat ≤ IntKind.u32.bits by show x.toNat ≤ 32; omega), Int.one_mul, wrap_u32]; omega
        have w2 : IntKind.u32.wrap (sumV (l.take i0) + 2 ^ x.toNat) = sumV (l.take (i0 + 1)) := by rw [e1, wrap_u32]; omega
        have c1 : decide (x < 0) = false := decide_eq_false (by omega)
        have c2 : decide (x > 31) = false := decide_eq_false (by omega)
        by_cases hz0 : i0 = 0
        · have c3 : decide ((i0 : Int) > 0) = false := decide_eq_false (by omega)
          repeat' (conv => whnf
                   first
                   | (refine Stop.mk ?_)
                   | (refine fO_is c1 ?_)
                   | (refine fO_is c2 ?_)
                   | (refine fO_is c3 ?_)
                   | (refine fI_is w1 ?_)
                   | (refine fI_is w2 ?_)
                   | (with_reducible refine fI_is (a := x) rfl ?_)
                   | (with_reducible refine fI_is (a := sumV (l.take i0)) rfl ?_)
                   | (with_reducible refine fI_is (a := (2 : Int) ^ x.toNat) rfl ?_)
                   | (with_reducible refine fI_is (a := sumV (l.take (i0 + 1))) rfl ?_)
                   | (refine fI_i64 (by first | omega | (simp only [Int.ofNat_eq_natCast] at *; omega)) ?_; intro z hz)
                   | (refine fI_u32 (by first | omega | (simp only [Int.ofNat_eq_natCast] at *; omega)) ?_; intro z hz)
                   | (refine fI_u8 (by first | omega | (simp only [Int.ofNat_eq_natCast] at *; omega)) ?_; intro z hz)
                   | (refine fI_u64 (by first | omega | (simp only [Int.ofNat_eq_natCast] at *; omega)) ?_; intro z hz)
                   | (refine fI_tdiv (by first | omega | (simp only [Int.ofNat_eq_natCast] at *; omega)) ?_; intro z hz)
                   | (refine fI_tmod (by first | omega | (simp only [Int.ofNat_eq_natCast] at *; omega)) ?_; intro z hz)
                   | (refine fI_gen ?_; intro z hz)
                   | (refine fO_gen ?_; intro z hz)
                   | (refine pure_step (ixs_eq rfl rfl (by omega) (by omega)) ?_)
                   | (refine pure_step (shl_eq rfl rfl (by omega)) ?_)
                   | (refine ld_step rfl (ea _ (by first | omega | rfl)) rfl ?_)
                   | (refine lds_step rfl (ea _ (by first | omega | rfl)) rfl ?_)
                   | (refine dec_true (by assumption) ?_)
                   | (refine dec_false (by assumption) ?_)
                   | (refine dec_split (fun h => ?_) (fun h => ?_))
                   | (apply silE)
                   | (refine Both.mk ?_ ?_)
                   | (refine And.intro rfl ?_)
                   | (exact And.intro rfl (And.intro rfl (And.intro rfl rfl)))
                   | (refine And.intro (by first | omega | ((simp only [decide_eq_true_eq, decide_eq_false_iff_not, Bool.and_eq_true, beq_iff_eq, Bool.not_eq_true', Bool.not_eq_false'] at *); omega) | (subst_vars; simp only [Int.ofNat_eq_natCast, tq_not, fq_not, tq_and, fq_and, tq_or, fq_or, tq_beq, fq_beq, tq_bne, fq_bne, tq_dec, fq_dec, one1, V.tup.injEq, V.agg.injEq, List.cons.injEq, V.int.injEq, V.bool.injEq, true_and, and_true, decide_eq_true_eq, decide_eq_false_iff_not, Bool.and_eq_true, Bool.and_eq_false_iff, Bool.or_eq_true, Bool.or_eq_false_iff, Bool.not_eq_true', Bool.not_eq_false', beq_iff_eq, wrap_u32, wrap_i64, wrap_u8, beq_eq_false_iff_ne, ne_eq, bne_iff_ne, bne_eq_false_iff_eq, eq_self, and_self, splice, V.cells, List.take_succ_cons, List.take_zero, List.take_nil, List.drop_zero, List.drop_succ_cons, List.drop_nil, List.cons_append, List.nil_append, List.append_nil, List.length_cons, List.length_nil, Nat.zero_add, Nat.reduceAdd, if_true, if_false, Bool.false_eq_true, beq_self_eq_true, decide_eq_decide, Bool.true_eq_false, or_false, false_or, or_true, true_or, and_false, false_and, not_true_eq_false, not_false_eq_true, Bool.and_true, Bool.true_and, Bool.not_true, Bool.not_false] at *; omega)) ?_)
                   | (refine Exists.intro _ (Exists.intro _ (And.intro rfl ?_)))
                   | (refine Exists.intro _ (And.intro rfl ?_))
                   | (refine Exists.intro _ (Exists.intro _ (Exists.intro _ (Exists.intro _ (And.intro rfl ?_)))))
                   | (refine ld_step rfl (by assumption) rfl ?_)
                   | (refine lds_step rfl (by assumption) rfl ?_)
                   | (refine fL_mk ?_)
                   | (refine fH_mk ?_)
                   | (refine fN_mk ?_)
                   | (refine fLB_mk ?_)
                   | (refine And.intro (by repeat (first | assumption | refine GLB_app ?_)) ?_)
                   | (refine ld_step rfl ((rd_x0 _ _ _ _ _).trans rfl) rfl ?_)
                   | (refine ld_step rfl ((rd_x1 _ _ _ _ _ _).trans rfl) rfl ?_)
                   | (refine ld_step rfl ((rd_x2 _ _ _ _ _ _ _).trans rfl) rfl ?_)
                   | (refine lds_step rfl ((rd_x0 _ _ _ _ _).trans rfl) rfl ?_)
                   | (refine lds_step rfl ((rd_x1 _ _ _ _ _ _).trans rfl) rfl ?_)
                   | (refine lds_step rfl ((rd_x2 _ _ _ _ _ _ _).trans rfl) rfl ?_)
                   | (refine mem_step (st_eq rfl rfl rfl rfl (wr_last _ _ _ _ rfl)) ?_)
                   | (refine drec_yes (by omega) ?_)
                   | (refine drec_no (by omega) ?_)
                   | (intro _)
                   | fail)
          all_goals (conv => whnf)
          all_goals
            subst hz
            exact kn hlt _ _ _ _ _ rfl ⟨rfl, rfl, rfl, rfl, rfl⟩
        · have c3 : decide ((i0 : Int) > 0) = true := decide_eq_true (by omega)
          have hlt2 : i0 - 1 < l.length := by omega
          have eb : ∀ p, p = 0 + (i0 - 1) * 1 → rd (Hx ++ [.ro (l.map (V.int .i64))]) Hx.length p 1 = some (encJ l[i0 - 1]) := fun p hp => rd_el encJ_len hr1 (i0 - 1) hlt2 p hp
          have hlt3 : l[i0 - 1] < x := by rw [hx]; exact List.pairwise_iff_getElem.1 hsort (i0 - 1) i0 hlt2 hlt (by omega)
          obtain ⟨y, hy⟩ : ∃ y, y = l[i0 - 1] := ⟨_, rfl⟩
          rw [← hy] at eb hlt3
          have c4 : decide (x ≤ y) = false := decide_eq_false (by omega)
          have w3 : IntKind.i64.wrap ((i0 : Int) - 1) = ((i0 - 1 : Nat) : Int) := by rw [wrap_i64_id (by omega) (by omega)]; omega
          repeat' (conv => whnf
                   first
                   | (refine Stop.mk ?_)
                   | (refine fO_is c1 ?_)
                   | (refine fO_is c2 ?_)
                   | (refine fO_is c3 ?_)
                   | (refine fO_is c4 ?_)
                   | (refine fI_is w1 ?_)
                   | (refine fI_is w2 ?_)
                   | (refine fI_is w3 ?_)
                   | (with_reducible refine fI_is (a := x) rfl ?_)
                   | (with_reducible refine fI_is (a := y) rfl ?_)
                   | (with_reducible refine fI_is (a := sumV (l.take i0)) rfl ?_)
                   | (with_reducible refine fI_is (a := (2 : Int) ^ x.toNat) rfl ?_)
                   | (with_reducible refine fI_is (a := sumV (l.take (i0 + 1))) rfl ?_)
                   | (refine fI_i64 (by first | omega | (simp only [Int.ofNat_eq_natCast] at *; omega)) ?_; intro z hz)
                   | (refine fI_u32 (by first | omega | (simp only [Int.ofNat_eq_natCast] at *; omega)) ?_; intro z hz)
                   | (refine fI_u8 (by first | omega | (simp only [Int.ofNat_eq_natCast] at *; omega)) ?_; intro z hz)
                   | (refine fI_u64 (by first | omega | (simp only [Int.ofNat_eq_natCast] at *; omega)) ?_; intro z hz)
                   | (refine fI_tdiv (by first | omega | (simp only [Int.ofNat_eq_natCast] at *; omega)) ?_; intro z hz)
                   | (refine fI_tmod (by first | omega | (simp only [Int.ofNat_eq_natCast] at *; omega)) ?_; intro z hz)
                   | (refine fI_gen ?_; intro z hz)
                   | (refine fO_gen ?_; intro z hz)
                   | (refine pure_step (ixs_eq rfl rfl (by omega) (by omega)) ?_)
                   | (refine pure_step (shl_eq rfl rfl (by omega)) ?_)
                   | (refine ld_step rfl (ea _ (by first | omega | rfl)) rfl ?_)
                   | (refine lds_step rfl (ea _ (by first | omega | rfl)) rfl ?_)
                   | (refine lds_step rfl (eb _ (by first | omega | rfl)) rfl ?_)
                   | (refine dec_true (by assumption) ?_)
                   | (refine dec_false (by assumption) ?_)
                   | (refine dec_split (fun h => ?_) (fun h => ?_))
                   | (apply silE)
                   | (refine Both.mk ?_ ?_)
                   | (refine And.intro rfl ?_)
                   | (exact And.intro rfl (And.intro rfl (And.intro rfl rfl)))
                   | (refine And.intro (by first | omega | ((simp only [decide_eq_true_eq, decide_eq_false_iff_not, Bool.and_eq_true, beq_iff_eq, Bool.not_eq_true', Bool.not_eq_false'] at *); omega) | (subst_vars; simp only [Int.ofNat_eq_natCast, tq_not, fq_not, tq_and, fq_and, tq_or, fq_or, tq_beq, fq_beq, tq_bne, fq_bne, tq_dec, fq_dec, one1, V.tup.injEq, V.agg.injEq, List.cons.injEq, V.int.injEq, V.bool.injEq, true_and, and_true, decide_eq_true_eq, decide_eq_false_iff_not, Bool.and_eq_true, Bool.and_eq_false_iff, Bool.or_eq_true, Bool.or_eq_false_iff, Bool.not_eq_true', Bool.not_eq_false', beq_iff_eq, wrap_u32, wrap_i64, wrap_u8, beq_eq_false_iff_ne, ne_eq, bne_iff_ne, bne_eq_false_iff_eq, eq_self, and_self, splice, V.cells, List.take_succ_cons, List.take_zero, List.take_nil, List.drop_zero, List.drop_succ_cons, List.drop_nil, List.cons_append, List.nil_append, List.append_nil, List.length_cons, List.length_nil, Nat.zero_add, Nat.reduceAdd, if_true, if_false, Bool.false_eq_true, beq_self_eq_true, decide_eq_decide, Bool.true_eq_false, or_false, false_or, or_true, true_or, and_false, false_and, not_true_eq_false, not_false_eq_true, Bool.and_true, Bool.true_and, Bool.not_true, Bool.not_false] at *; omega)) ?_)
                   | (refine Exists.intro _ (Exists.intro _ (And.intro rfl ?_)))
                   | (refine Exists.intro _ (And.intro rfl ?_))
                   | (refine Exists.intro _ (Exists.intro _ (Exists.intro _ (Exists.intro _ (And.intro rfl ?_)))))
                   | (refine ld_step rfl (by assumption) rfl ?_)
                   | (refine lds_step rfl (by assumption) rfl ?_)
                   | (refine fL_mk ?_)
                   | (refine fH_mk ?_)
                   | (refine fN_mk ?_)
                   | (refine fLB_mk ?_)
                   | (refine And.intro (by repeat (first | assumption | refine GLB_app ?_)) ?_)
                   | (refine ld_step rfl ((rd_x0 _ _ _ _ _).trans rfl) rfl ?_)
                   | (refine ld_step rfl ((rd_x1 _ _ _ _ _ _).trans rfl) rfl ?_)
                   | (refine ld_step rfl ((rd_x2 _ _ _ _ _ _ _).trans rfl) rfl ?_)
                   | (refine lds_step rfl ((rd_x0 _ _ _ _ _).trans rfl) rfl ?_)
                   | (refine lds_step rfl ((rd_x1 _ _ _ _ _ _).trans rfl) rfl ?_)
                   | (refine lds_step rfl ((rd_x2 _ _ _ _ _ _ _).trans rfl) rfl ?_)
                   | (refine mem_step (st_eq rfl rfl rfl rfl (wr_last _ _ _ _ rfl)) ?_)
                   | (refine drec_yes (by omega) ?_)
                   | (refine drec_no (by omega) ?_)
                   | (intro _)
                   | fail)
          all_goals (conv => whnf)
          all_goals
            subst hz
            exact kn hlt _ _ _ _ _ rfl ⟨rfl, rfl, rfl, rfl, rfl⟩
      · clear kn kr
        have hie : i0 = l.length := by have h2 : ¬ (i0 : Int) < (l.length : Int) := of_decide_eq_false h; omega
        subst hie
        rw [List.take_length, hsum]
        have e0 : ∀ p, p = 0 + 0 * 1 → rd (Hx ++ [.ro (l.map (V.int .i64))]) Hx.length p 1 = some (encJ (l[0]'hpos)) := fun p hp => rd_el encJ_len hr1 0 hpos p hp
        repeat' (conv => whnf
                 first
                 | (refine Stop.mk ?_)
                 | (refine fI_is hfi' ?_)
                 | (refine fO_is hfb' ?_)
                 | (refine fO_is d2 ?_)
                 | (refine fO_is (beq_self_eq_true _) ?_)
                 | (with_reducible refine fI_is (a := l[0]) rfl ?_)
                 | (with_reducible refine fI_is (a := (n : Int)) rfl ?_)
                 | (with_reducible refine fI_is (a := (l.length : Int)) rfl ?_)
                 | (refine fI_gen ?_; intro z hz)
                 | (refine fO_gen ?_; intro z hz)
                 | (refine kx _ _ _ _ _ _ ?_; clear kx)
                 | (refine And.intro ha ?_)
                 | (refine pure_step (ixs_eq rfl rfl (by decide) (by omega)) ?_)
                 | (refine ld_step rfl (e0 _ (by first | omega | rfl)) rfl ?_)
                 | (refine lds_step rfl (e0 _ (by first | omega | rfl)) rfl ?_)
                 | (refine dec_true (by assumption) ?_)
                 | (refine dec_false (by assumption) ?_)
                 | ((with_reducible refine dec_trueH ?tst ?_); (case tst => (first | rfl | ((try clear hC); (try clear kn); (try clear kx); (try clear kr); (try clear kn1); (try clear kx1); (try clear kr1); (try clear kn2); (try clear kx2); (try clear kr2); (try clear kn3); (try clear kx3); (try clear kr3); subst_vars; simp only [Int.ofNat_eq_natCast, tq_not, fq_not, tq_and, fq_and, tq_or, fq_or, tq_beq, fq_beq, tq_bne, fq_bne, tq_dec, fq_dec, one1, V.tup.injEq, V.agg.injEq, List.cons.injEq, V.int.injEq, V.bool.injEq, true_and, and_true, decide_eq_true_eq, decide_eq_false_iff_not, Bool.and_eq_true, Bool.and_eq_false_iff, Bool.or_eq_true, Bool.or_eq_false_iff, Bool.not_eq_true', Bool.not_eq_false', beq_iff_eq, wrap_u32, wrap_i64, wrap_u8, beq_eq_false_iff_ne, ne_eq, bne_iff_ne, bne_eq_false_iff_eq, eq_self, and_self, splice, V.cells, List.take_succ_cons, List.take_zero, List.take_nil, List.drop_zero, List.drop_succ_cons, List.drop_nil, List.cons_append, List.nil_append, List.append_nil, List.length_cons, List.length_nil, Nat.zero_add, Nat.reduceAdd, if_true, if_false, Bool.false_eq_true, beq_self_eq_true, decide_eq_decide, Bool.true_eq_false, or_false, false_or, or_true, true_or, and_false, false_and, not_true_eq_false, not_false_eq_true, Bool.and_true, Bool.true_and, Bool.not_true, Bool.not_false] at *; first | done | assumption | omega))); intro h)
                 | ((with_reducible refine dec_falseH ?tst ?_); (case tst => (first | rfl | ((try clear hC); (try clear kn); (try clear kx); (try clear kr); (try clear kn1); (try clear kx1); (try clear kr1); (try clear kn2); (try clear kx2); (try clear kr2); (try clear kn3); (try clear kx3); (try clear kr3); subst_vars; simp only [Int.ofNat_eq_natCast, tq_not, fq_not, tq_and, fq_and, tq_or, fq_or, tq_beq, fq_beq, tq_bne, fq_bne, tq_dec, fq_dec, one1, V.tup.injEq, V.agg.injEq, List.cons.injEq, V.int.injEq, V.bool.injEq, true_and, and_true, decide_eq_true_eq, decide_eq_false_iff_not, Bool.and_eq_true, Bool.and_eq_false_iff, Bool.or_eq_true, Bool.or_eq_false_iff, Bool.not_eq_true', Bool.not_eq_false', beq_iff_eq, wrap_u32, wrap_i64, wrap_u8, beq_eq_false_iff_ne, ne_eq, bne_iff_ne, bne_eq_false_iff_eq, eq_self, and_self, splice, V.cells, List.take_succ_cons, List.take_zero, List.take_nil, List.drop_zero, List.drop_succ_cons, List.drop_nil, List.cons_append, List.nil_append, List.append_nil, List.length_cons, List.length_nil, Nat.zero_add, Nat.reduceAdd, if_true, if_false, Bool.false_eq_true, beq_self_eq_true, decide_eq_decide, Bool.true_eq_false, or_false, false_or, or_true, true_or, and_false, false_and, not_true_eq_false, not_false_eq_true, Bool.and_true, Bool.true_and, Bool.not_true, Bool.not_false] at *; first | done | assumption | omega))); intro h)
                 | (refine dec_split (fun h => ?_) (fun h => ?_))
                 | (apply silE)
                 | (refine Both.mk ?_ ?_)
                 | (refine And.intro rfl ?_)
                 | (exact And.intro rfl (And.intro rfl (And.intro rfl rfl)))
                 | (refine And.intro (by first | omega | ((simp only [decide_eq_true_eq, decide_eq_false_iff_not, Bool.and_eq_true, beq_iff_eq, Bool.not_eq_true', Bool.not_eq_false'] at *); omega) | (subst_vars; simp only [Int.ofNat_eq_natCast, tq_not, fq_not, tq_and, fq_and, tq_or, fq_or, tq_beq, fq_beq, tq_bne, fq_bne, tq_dec, fq_dec, one1, V.tup.injEq, V.agg.injEq, List.cons.injEq, V.int.injEq, V.bool.injEq, true_and, and_true, decide_eq_true_eq, decide_eq_false_iff_not, Bool.and_eq_true, Bool.and_eq_false_iff, Bool.or_eq_true, Bool.or_eq_false_iff, Bool.not_eq_true', Bool.not_eq_false', beq_iff_eq, wrap_u32, wrap_i64, wrap_u8, beq_eq_false_iff_ne, ne_eq, bne_iff_ne, bne_eq_false_iff_eq, eq_self, and_self, splice, V.cells, List.take_succ_cons, List.take_zero, List.take_nil, List.drop_zero, List.drop_succ_cons, List.drop_nil, List.cons_append, List.nil_append, List.append_nil, List.length_cons, List.length_nil, Nat.zero_add, Nat.reduceAdd, if_true, if_false, Bool.false_eq_true, beq_self_eq_true, decide_eq_decide, Bool.true_eq_false, or_false, false_or, or_true, true_or, and_false, false_and, not_true_eq_false, not_false_eq_true, Bool.and_true, Bool.true_and, Bool.not_true, Bool.not_false] at *; omega)) ?_)
                 | (refine Exists.intro _ (Exists.intro _ (And.intro rfl ?_)))
                 | (refine Exists.intro _ (And.intro rfl ?_))
                 | (refine Exists.intro _ (Exists.intro _ (Exists.intro _ (Exists.intro _ (And.intro rfl ?_)))))
                 | (refine ld_step rfl (by assumption) rfl ?_)
                 | (refine lds_step rfl (by assumption) rfl ?_)
                 | (refine fL_mk ?_)
                 | (refine fH_mk ?_)
                 | (refine fN_mk ?_)
                 | (refine fLB_mk ?_)
                 | (refine And.intro (by repeat (first | assumption | refine GLB_app ?_)) ?_)
                 | (refine ld_step rfl ((rd_x0 _ _ _ _ _).trans rfl) rfl ?_)
                 | (refine ld_step rfl ((rd_x1 _ _ _ _ _ _).trans rfl) rfl ?_)
                 | (refine ld_step rfl ((rd_x2 _ _ _ _ _ _ _).trans rfl) rfl ?_)
                 | (refine lds_step rfl ((rd_x0 _ _ _ _ _).trans rfl) rfl ?_)
                 | (refine lds_step rfl ((rd_x1 _ _ _ _ _ _).trans rfl) rfl ?_)
                 | (refine lds_step rfl ((rd_x2 _ _ _ _ _ _ _).trans rfl) rfl ?_)
                 | (refine mem_step (st_eq rfl rfl rfl rfl (wr_last _ _ _ _ rfl)) ?_)
                 | (refine drec_yes (by omega) ?_)
                 | (refine drec_no (by omega) ?_)
                 | (intro _)
                 | fail)
        all_goals (conv => whnf)
        all_goals exact leafH hq rfl (take_app1 Hx _)
  · exact hs.elim
end Go.Ev
