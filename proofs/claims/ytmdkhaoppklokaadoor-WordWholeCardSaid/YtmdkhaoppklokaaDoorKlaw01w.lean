/- dev: WordWhole -/
import Derived.Test.YtmdkhaoppklokaaDoorKgd
import Derived.Test.YtmdkhaoppklokaaDoorKstr5
import Derived.Test.YtmdkhaoppklokaaDoorKof2
set_option linter.all false
namespace Go.Ev
open Go Go.Proofs
set_option maxRecDepth 10000
set_option maxHeartbeats 4000000
theorem bytesV_bdd : ∀ (n : Nat) (v : Int) (x : Int), x ∈ bytesV n v → 0 ≤ x ∧ x < 256
  | 0, _, x, h => by simp [bytesV] at h
  | n + 1, v, x, h => by
    rw [bytesV, List.mem_cons] at h
    rcases h with rfl | h
    · omega
    · exact bytesV_bdd n _ x h
theorem of_bytes {n v : Int} (hn : okS n) (hv : (0 ≤ v ∧ v < 4294967296)) : (if okS (((bytesV n.toNat v).length : Nat) : Int) then ofB (bytesV n.toNat v) else 0) = lowV n v := by
  have h : (((bytesV n.toNat v).length : Nat) : Int) = n := by rw [bytesV_len]; unfold okS at hn; omega
  rw [h, if_pos hn, ofB_bytes hn hv.1 hv.2]
theorem of_bytesd {n v : Int} (hn : okS n) : decide (okS (((bytesV n.toNat v).length : Nat) : Int)) = true := by
  have h : (((bytesV n.toNat v).length : Nat) : Int) = n := by rw [bytesV_len]; unfold okS at hn; omega
  rw [h]; exact decide_eq_true hn
theorem bytes_of {l : List Int} (hok : okS (l.length : Int)) (hb : ∀ x, x ∈ l → 0 ≤ x ∧ x < 256) : bytesV l.length (ofB l) = l ∧ (0 ≤ ofB l ∧ ofB l < 4294967296) := by
  have hl : l.length = 1 ∨ l.length = 2 ∨ l.length = 4 := by unfold okS at hok; omega
  rcases hl with h1 | h1 | h1
  · obtain ⟨a, rfl⟩ := List.length_eq_one_iff.1 h1
    have ha := hb a (by simp)
    simp only [List.length_cons, List.length_nil, Nat.zero_add, bytesV, ofB]
    refine ⟨?_, by omega⟩
    congr 1; omega
  · obtain ⟨a, c, rfl⟩ := len2 h1
    have ha := hb a (by simp)
    have hc := hb c (by simp)
    simp only [List.length_cons, List.length_nil, Nat.zero_add, Nat.reduceAdd, bytesV, ofB]
    refine ⟨?_, by omega⟩
    have e1 : (a + 256 * (c + 256 * 0)) % 256 = a := by omega
    have e2 : (a + 256 * (c + 256 * 0)) / 256 % 256 = c := by omega
    rw [e1, e2]
  · obtain ⟨a, c, d, e, rfl⟩ := len4 h1
    have ha := hb a (by simp)
    have hc := hb c (by simp)
    have hd := hb d (by simp)
    have he := hb e (by simp)
    simp only [List.length_cons, List.length_nil, Nat.zero_add, Nat.reduceAdd, bytesV, ofB]
    refine ⟨?_, by omega⟩
    have e1 : (a + 256 * (c + 256 * (d + 256 * (e + 256 * 0)))) % 256 = a := by omega
    have e2 : (a + 256 * (c + 256 * (d + 256 * (e + 256 * 0)))) / 256 % 256 = c := by omega
    have e3 : (a + 256 * (c + 256 * (d + 256 * (e + 256 * 0)))) / 256 / 256 % 256 = d := by omega
    have e4 : (a + 256 * (c + 256 * (d + 256 * (e + 256 * 0)))) / 256 / 256 / 256 % 256 = e := by omega
    rw [e1, e2, e3, e4]
theorem dig_hx (v : Int) (i : Nat) : digV (hxD v i) = v / 16 ^ i % 16 := by
  obtain ⟨m, hm⟩ : ∃ m : Nat, v / 16 ^ i % 16 = (m : Int) := ⟨(v / 16 ^ i % 16).toNat, by have := Int.emod_nonneg (v / 16 ^ i) (show (16 : Int) ≠ 0 by decide); omega⟩
  have hlt : m < 16 := by have h2 := Int.emod_lt_of_pos (v / 16 ^ i) (show (0 : Int) < 16 by decide); omega
  unfold hxD
  rw [hm, show ((m : Nat) : Int).toNat = m from rfl]
  have : m = 0 ∨ m = 1 ∨ m = 2 ∨ m = 3 ∨ m = 4 ∨ m = 5 ∨ m = 6 ∨ m = 7 ∨ m = 8 ∨ m = 9 ∨ m = 10 ∨ m = 11 ∨ m = 12 ∨ m = 13 ∨ m = 14 ∨ m = 15 := by omega
  rcases this with rfl | rfl | rfl | rfl | rfl | rfl | rfl | rfl | rfl | rfl | rfl | rfl | rfl | rfl | rfl | rfl <;> decide
theorem ok_hx (v : Int) : ∀ i, okDig 16 (hxL v i) = true
  | 0 => rfl
  | i + 1 => by
    have ih := ok_hx v i
    unfold okDig at ih ⊢
    rw [hxL, List.all_cons, ih, Bool.and_true, decide_eq_true_eq, dig_hx]
    have h1 := Int.emod_nonneg (v / 16 ^ i) (show (16 : Int) ≠ 0 by decide)
    have h2 := Int.emod_lt_of_pos (v / 16 ^ i) (show (0 : Int) < 16 by decide)
    exact ⟨h1, h2⟩
theorem acc_hx (n : Nat) : ∀ (i : Nat) (a : Int), (hxL (n : Int) i).foldl (fun v c => v * 16 + digV c) a = a * 16 ^ i + ((n % 16 ^ i : Nat) : Int)
  | 0, a => by
    rw [hxL, List.foldl_nil, Int.pow_zero, Nat.pow_zero, Nat.mod_one]; omega
  | i + 1, a => by
    have ih := acc_hx n i (a * 16 + digV (hxD (n : Int) i))
    rw [hxL, List.foldl_cons, ih, dig_hx]
    have e1 : ((n : Int)) / 16 ^ i % 16 = ((n / 16 ^ i % 16 : Nat) : Int) := by
      rw [Int.natCast_emod, Int.natCast_ediv, Int.natCast_pow]; rfl
    have e2 : n % 16 ^ (i + 1) = n % 16 ^ i + 16 ^ i * (n / 16 ^ i % 16) := by rw [Nat.pow_succ, Nat.mod_mul]
    rw [e1, e2, Int.pow_succ, Int.natCast_add, Int.natCast_mul, Int.natCast_pow]
    have e3 : ∀ (a d P : Int), (a * 16 + d) * P = a * (P * 16) + P * d := fun a d P => by rw [Int.add_mul, Int.mul_assoc, Int.mul_comm 16 P, Int.mul_comm d P]
    rw [e3, Int.add_assoc]
    congr 1
    exact Int.add_comm _ _
theorem show_parse {v : Int} (hv : (0 ≤ v ∧ v < 4294967296)) : parB (shL v) = true ∧ parI (shL v) = v := by
  obtain ⟨n, rfl⟩ := Int.eq_ofNat_of_zero_le hv.1
  have hx : hexB (shL (n : Int)) = true := rfl
  have hd : (shL (n : Int)).drop 2 = hxL (n : Int) 8 := rfl
  have ha : accV 16 (hxL (n : Int) 8) = (n : Int) := by
    unfold accV
    rw [acc_hx n 8 0, Nat.mod_eq_of_lt (show n < 16 ^ 8 by have := hv.2; omega)]; omega
  have hn : numB 16 (hxL (n : Int) 8) = true := by
    unfold numB
    rw [ok_hx, ha, decide_eq_true hv.2, decide_eq_true (show hxL (n : Int) 8 ≠ [] from fun h => by cases h)]; rfl
  have hp : parB (shL (n : Int)) = true := by
    rw [par_hex hx, hd, hn]; rfl
  exact ⟨hp, by rw [parI_hex hx hp, hd, ha]⟩
def s5 : Sp := fun vs H Q => match vs with
  | [.int .u32 v, .sl p n c] => (0 ≤ v ∧ v < 4294967296) ∧ GLB H ∧ ∃ l : List Int, n = l.length ∧ (∀ x, x ∈ l → 0 ≤ x ∧ x < 256) ∧ RdB H p l ∧ Q (.bool true) H false false
  | _ => False
theorem k5 : Snd Tryd.prog 2 5 s5 := by
  refine snd_of_ev (by kernel_rfl) (C := tab [(9, s9), (17, s17), (19, s19), (18, s18), (20, s20), (11, s11), (21, s21)]) (sndC_cons k9 (sndC_cons k17 (sndC_cons k19 (sndC_cons k18 (sndC_cons k20 (sndC_cons k11 (sndC_cons k21 (sndC_nil)))))))) x5 n5 c5 30 ?_
  intro vs H Q hs
  unfold s5 at hs
  split at hs
  · rename_i v p n c
    obtain ⟨hv, hg, l, rfl, hb, hr, hq⟩ := hs
    have hgA : ∀ X, GLB (H ++ X) := fun X => GLB_app hg
    by_cases hl : l.length ≤ 1000
    · have t1 : decide ((l.length : Int) > 1000) = false := decide_eq_false (by omega)
      have ok1 : okS 1 := by decide
      have ok2 : okS 2 := by decide
      have ok4 : okS 4 := by decide
      have v1 : lowV 1 v < 256 := by rw [lowV1]; omega
      have v2 : lowV 2 v < 65536 := by rw [lowV2]; omega
      have b1 := fun x => bytesV_bdd (1 : Int).toNat v x
      have b2 := fun x => bytesV_bdd (2 : Int).toNat v x
      have b4 := fun x => bytesV_bdd (4 : Int).toNat v x
      obtain ⟨sp, si⟩ := show_parse hv
      by_cases hok : okS (l.length : Int)
      · obtain ⟨e1, e2⟩ := bytes_of hok hb
        have hlt : ((l.length : Int)).toNat = l.length := rfl
        repeat' (conv => whnf
                 first
                 | (refine Stop.mk ?_)
                 | (refine fO_is t1 ?_)
                 | (refine fI_is (of_bytes ok1 hv) ?_)
                 | (refine fI_is (of_bytes ok2 hv) ?_)
                 | (refine fI_is (of_bytes ok4 hv) ?_)
                 | (refine fO_is (of_bytesd ok1) ?_)
                 | (refine fO_is (of_bytesd ok2) ?_)
                 | (refine fO_is (of_bytesd ok4) ?_)
                 | (refine fO_is (decide_eq_true ok1) ?_)
                 | (refine fO_is (decide_eq_true ok2) ?_)
                 | (refine fO_is (decide_eq_true ok4) ?_)
                 | (refine fI_is (lowV4 v) ?_)
                 | (refine fI_is (if_pos hok) ?_)
                 | (refine fO_is (decide_eq_true hok) ?_)
                 | (refine fO_is (bne_self_eq_false _) ?_)
                 | (with_reducible refine fI_is (a := lowV 1 v) rfl ?_)
                 | (refine fI_is (show lowV 2 v = lowV 2 v from rfl) ?_)
                 | (with_reducible refine fI_is (a := v) rfl ?_)
                 | (with_reducible refine fI_is (a := ofB l) rfl ?_)
                 | (with_reducible refine fI_is (a := (l.length : Int)) rfl ?_)
                 | (refine fI_is (show parI (bL S1) = v by rw [hS1]; exact si) ?_)
                 | (refine fO_is (show parB (bL S1) = true by rw [hS1]; exact sp) ?_)
                 | (refine fI_is (show ((S1.size : Nat) : Int) = 10 by rw [← bL_len, hS1]; rfl) ?_)
                 | (refine fO_is (beq_self_eq_true _) ?_)
                 | (refine fO_is (decide_eq_true (show bytesV ((l.length : Int)).toNat (ofB l) = l from e1)) ?_)
                 | (refine fI_gen ?_; intro z hz)
                 | (refine fO_gen ?_; intro z hz)
                 | (refine And.intro ⟨e2, hok⟩ (And.intro (by repeat (first | assumption | refine GLB_app ?_)) ?_); intro bb cc X ws q1 q2 q3 q4)
                 | (refine Exists.intro (bytesV ((l.length : Int)).toNat (ofB l)) (Exists.intro l (And.intro rfl (And.intro rfl (And.intro (by rw [bytesV_len]; show l.length ≤ 4096; omega) (And.intro (by omega) (And.intro (rd_block q3 (flat_len encB_len _)) (And.intro (by repeat (first | exact hr | refine RdB.app ?_ _)) ?_))))))))
                 | (refine And.intro ⟨hv, ok1⟩ (And.intro (by repeat (first | assumption | refine GLB_app ?_)) ?_); intro bb cc X ws q1 q2 q3 q4)
                 | (refine And.intro ⟨hv, ok2⟩ (And.intro (by repeat (first | assumption | refine GLB_app ?_)) ?_); intro bb cc X ws q1 q2 q3 q4)
                 | (refine And.intro ⟨hv, ok4⟩ (And.intro (by repeat (first | assumption | refine GLB_app ?_)) ?_); intro bb cc X ws q1 q2 q3 q4)
                 | (refine And.intro (by repeat (first | assumption | refine GLB_app ?_)) (Exists.intro (bytesV (1 : Int).toNat v) (And.intro rfl (And.intro b1 (And.intro (rd_block q3 (flat_len encB_len _)) ?_)))))
                 | (refine And.intro (by repeat (first | assumption | refine GLB_app ?_)) (Exists.intro (bytesV (2 : Int).toNat v) (And.intro rfl (And.intro b2 (And.intro (rd_block q3 (flat_len encB_len _)) ?_)))))
                 | (refine And.intro (by repeat (first | assumption | refine GLB_app ?_)) (Exists.intro (bytesV (4 : Int).toNat v) (And.intro rfl (And.intro b4 (And.intro (rd_block q3 (flat_len encB_len _)) ?_)))))
                 | (refine And.intro (by repeat (first | assumption | refine GLB_app ?_)) (Exists.intro l (And.intro rfl (And.intro hb (And.intro (by repeat (first | exact hr | refine RdB.app ?_ _)) ?_)))))
                 | (refine And.intro hv (And.intro (by repeat (first | assumption | refine GLB_app ?_)) ?_); intro S1 hS1)
                 | (refine And.intro (by repeat (first | assumption | refine GLB_app ?_)) (And.intro (by rw [hS1]; show 10 ≤ 4096; decide) ?_))
                 | (refine dec_true (by assumption) ?_)
                 | (refine dec_false (by assumption) ?_)
                 | ((with_reducible refine dec_trueH ?tst ?_); (case tst => (first | rfl | ((try clear hC); (try clear kn); (try clear kx); (try clear kr); (try clear kn1); (try clear kx1); (try clear kr1); (try clear kn2); (try clear kx2); (try clear kr2); (try clear kn3); (try clear kx3); (try clear kr3); subst_vars; simp only [Int.ofNat_eq_natCast, tq_not, fq_not, tq_and, fq_and, tq_or, fq_or, tq_beq, fq_beq, tq_bne, fq_bne, tq_dec, fq_dec, one1, V.tup.injEq, V.agg.injEq, List.cons.injEq, V.int.injEq, V.bool.injEq, true_and, and_true, decide_eq_true_eq, decide_eq_false_iff_not, Bool.and_eq_true, Bool.and_eq_false_iff, Bool.or_eq_true, Bool.or_eq_false_iff, Bool.not_eq_true', Bool.not_eq_false', beq_iff_eq, wrap_u32, wrap_i64, wrap_u8, beq_eq_false_iff_ne, ne_eq, bne_iff_ne, bne_eq_false_iff_eq, eq_self, and_self, splice, V.cells, List.take_succ_cons, List.take_zero, List.take_nil, List.drop_zero, List.drop_succ_cons, List.drop_nil, List.cons_append, List.nil_append, List.append_nil, List.length_cons, List.length_nil, Nat.zero_add, Nat.reduceAdd, if_true, if_false, Bool.false_eq_true, beq_self_eq_true, decide_eq_decide, Bool.true_eq_false, or_false, false_or, or_true, true_or, and_false, false_and, not_true_eq_false, not_false_eq_true, Bool.and_true, Bool.true_and, Bool.not_true, Bool.not_false] at *; first | done | assumption | omega))); intro h)
                 | ((with_reducible refine dec_falseH ?tst ?_); (case tst => (first | rfl | ((try clear hC); (try clear kn); (try clear kx); (try clear kr); (try clear kn1); (try clear kx1); (try clear kr1); (try clear kn2); (try clear kx2); (try clear kr2); (try clear kn3); (try clear kx3); (try clear kr3); subst_vars; simp only [Int.ofNat_eq_natCast, tq_not, fq_not, tq_and, fq_and, tq_or, fq_or, tq_beq, fq_beq, tq_bne, fq_bne, tq_dec, fq_dec, one1, V.tup.injEq, V.agg.injEq, List.cons.injEq, V.int.injEq, V.bool.injEq, true_and, and_true, decide_eq_true_eq, decide_eq_false_iff_not, Bool.and_eq_true, Bool.and_eq_false_iff, Bool.or_eq_true, Bool.or_eq_false_iff, Bool.not_eq_true', Bool.not_eq_false', beq_iff_eq, wrap_u32, wrap_i64, wrap_u8, beq_eq_false_iff_ne, ne_eq, bne_iff_ne, bne_eq_false_iff_eq, eq_self, and_self, splice, V.cells, List.take_succ_cons, List.take_zero, List.take_nil, List.drop_zero, List.drop_succ_cons, List.drop_nil, List.cons_append, List.nil_append, List.append_nil, List.length_cons, List.length_nil, Nat.zero_add, Nat.reduceAdd, if_true, if_false, Bool.false_eq_true, beq_self_eq_true, decide_eq_decide, Bool.true_eq_false, or_false, false_or, or_true, true_or, and_false, false_and, not_true_eq_false, not_false_eq_true, Bool.and_true, Bool.true_and, Bool.not_true, Bool.not_false] at *; first | done | assumption | omega))); intro h)
                 | (refine dec_split (fun h => ?_) (fun h => ?_))
                 | (apply silE)
                 | (refine Both.mk ?_ ?_)
                 | (refine And.intro rfl ?_)
                 | (exact And.intro rfl (And.intro rfl (And.intro rfl rfl)))
                 | (refine And.intro (by first | omega | ((simp only [decide_eq_true_eq, decide_eq_false_iff_not, Bool.and_eq_true, beq_iff_eq, Bool.not_eq_true', Bool.not_eq_false'] at *); omega) | (subst_vars; simp only [Int.ofNat_eq_natCast, tq_not, fq_not, tq_and, fq_and, tq_or, fq_or, tq_beq, fq_beq, tq_bne, fq_bne, tq_dec, fq_dec, one1, V.tup.injEq, V.agg.injEq, List.cons.injEq, V.int.injEq, V.bool.injEq, true_and, and_true, decide_eq_true_eq, decide_eq_false_iff_not, Bool.and_eq_true, Bool.and_eq_false_iff, Bool.or_eq_true, Bool.or_eq_false_iff, Bool.not_eq_true', Bool.not_eq_false', beq_iff_eq, wrap_u32, wrap_i64, wrap_u8, beq_eq_false_iff_ne, ne_eq, bne_iff_ne, bne_eq_false_iff_eq, eq_self, and_self, splice, V.cells, List.take_succ_cons, List.take_zero, List.take_nil, List.drop_zero, List.drop_succ_cons, List.drop_nil, List.cons_append, List.nil_append, List.append_nil, List.length_cons, List.length_nil, Nat.zero_add, Nat.reduceAdd, if_true, if_false, Bool.false_eq_true, beq_self_eq_true, decide_eq_decide, Bool.true_eq_false, or_false, false_or, or_true, true_or, and_false, false_and, not_true_eq_false, not_false_eq_true, Bool.and_true, Bool.true_and, Bool.not_true, Bool.not_false] at *; omega)) ?_)
                 | (refine Exists.intro _ (Exists.intro _ (And.intro rfl ?_)))
                 | (refine Exists.intro _ (And.intro rfl ?_))
                 | (refine Exists.intro _ (Exists.intro _ (Exists.intro _ (Exists.intro _ (And.intro rfl ?_)))))
                 | (refine ld_step rfl (by assumption) rfl ?_)
                 | (refine lds_step rfl (by assumption) rfl ?_)
                 | (refine fL_mk ?_)
                 | (refine fH_mk ?_)
                 | (refine fN_mk ?_)
                 | (refine fLB_mk ?_)
                 | (refine And.intro (by repeat (first | assumption | refine GLB_app ?_)) ?_)
                 | (refine ld_step rfl ((rd_x0 _ _ _ _ _).trans rfl) rfl ?_)
                 | (refine ld_step rfl ((rd_x1 _ _ _ _ _ _).trans rfl) rfl ?_)
                 | (refine ld_step rfl ((rd_x2 _ _ _ _ _ _ _).trans rfl) rfl ?_)
                 | (refine lds_step rfl ((rd_x0 _ _ _ _ _).trans rfl) rfl ?_)
                 | (refine lds_step rfl ((rd_x1 _ _ _ _ _ _).trans rfl) rfl ?_)
                 | (refine lds_step rfl ((rd_x2 _ _ _ _ _ _ _).trans rfl) rfl ?_)
                 | (refine mem_step (st_eq rfl rfl rfl rfl (wr_last _ _ _ _ rfl)) ?_)
                 | (refine drec_yes (by omega) ?_)
                 | (refine drec_no (by omega) ?_)
                 | (intro _)
                 | fail)
        all_goals (conv => whnf)
        all_goals exact leafH hq rfl (by simp only [List.append_assoc]; exact take_app1 H _)
      · repeat' (conv => whnf
                 first
                 | (refine Stop.mk ?_)
                 | (refine fO_is t1 ?_)
                 | (refine fI_is (of_bytes ok1 hv) ?_)
                 | (refine fI_is (of_bytes ok2 hv) ?_)
                 | (refine fI_is (of_bytes ok4 hv) ?_)
                 | (refine fO_is (of_bytesd ok1) ?_)
                 | (refine fO_is (of_bytesd ok2) ?_)
                 | (refine fO_is (of_bytesd ok4) ?_)
                 | (refine fO_is (decide_eq_true ok1) ?_)
                 | (refine fO_is (decide_eq_true ok2) ?_)
                 | (refine fO_is (decide_eq_true ok4) ?_)
                 | (refine fI_is (lowV4 v) ?_)
                 | (refine fI_is (if_neg hok) ?_)
                 | (refine fO_is (decide_eq_false hok) ?_)
                 | (refine fO_is (bne_self_eq_false _) ?_)
                 | (with_reducible refine fI_is (a := lowV 1 v) rfl ?_)
                 | (refine fI_is (show lowV 2 v = lowV 2 v from rfl) ?_)
                 | (with_reducible refine fI_is (a := v) rfl ?_)
                 | (with_reducible refine fI_is (a := ofB l) rfl ?_)
                 | (with_reducible refine fI_is (a := (l.length : Int)) rfl ?_)
                 | (refine fI_is (show parI (bL S1) = v by rw [hS1]; exact si) ?_)
                 | (refine fO_is (show parB (bL S1) = true by rw [hS1]; exact sp) ?_)
                 | (refine fI_is (show ((S1.size : Nat) : Int) = 10 by rw [← bL_len, hS1]; rfl) ?_)
                 | (refine fO_is (beq_self_eq_true _) ?_)
                 | (refine fI_gen ?_; intro z hz)
                 | (refine fO_gen ?_; intro z hz)
                 | (refine And.intro ⟨hv, ok1⟩ (And.intro (by repeat (first | assumption | refine GLB_app ?_)) ?_); intro bb cc X ws q1 q2 q3 q4)
                 | (refine And.intro ⟨hv, ok2⟩ (And.intro (by repeat (first | assumption | refine GLB_app ?_)) ?_); intro bb cc X ws q1 q2 q3 q4)
                 | (refine And.intro ⟨hv, ok4⟩ (And.intro (by repeat (first | assumption | refine GLB_app ?_)) ?_); intro bb cc X ws q1 q2 q3 q4)
                 | (refine And.intro (by repeat (first | assumption | refine GLB_app ?_)) (Exists.intro (bytesV (1 : Int).toNat v) (And.intro rfl (And.intro b1 (And.intro (rd_block q3 (flat_len encB_len _)) ?_)))))
                 | (refine And.intro (by repeat (first | assumption | refine GLB_app ?_)) (Exists.intro (bytesV (2 : Int).toNat v) (And.intro rfl (And.intro b2 (And.intro (rd_block q3 (flat_len encB_len _)) ?_)))))
                 | (refine And.intro (by repeat (first | assumption | refine GLB_app ?_)) (Exists.intro (bytesV (4 : Int).toNat v) (And.intro rfl (And.intro b4 (And.intro (rd_block q3 (flat_len encB_len _)) ?_)))))
                 | (refine And.intro (by repeat (first | assumption | refine GLB_app ?_)) (Exists.intro l (And.intro rfl (And.intro hb (And.intro (by repeat (first | exact hr | refine RdB.app ?_ _)) ?_)))))
                 | (refine And.intro hv (And.intro (by repeat (first | assumption | refine GLB_app ?_)) ?_); intro S1 hS1)
                 | (refine And.intro (by repeat (first | assumption | refine GLB_app ?_)) (And.intro (by rw [hS1]; show 10 ≤ 4096; decide) ?_))
                 | (refine dec_true (by assumption) ?_)
                 | (refine dec_false (by assumption) ?_)
                 | ((with_reducible refine dec_trueH ?tst ?_); (case tst => (first | rfl | ((try clear hC); (try clear kn); (try clear kx); (try clear kr); (try clear kn1); (try clear kx1); (try clear kr1); (try clear kn2); (try clear kx2); (try clear kr2); (try clear kn3); (try clear kx3); (try clear kr3); subst_vars; simp only [Int.ofNat_eq_natCast, tq_not, fq_not, tq_and, fq_and, tq_or, fq_or, tq_beq, fq_beq, tq_bne, fq_bne, tq_dec, fq_dec, one1, V.tup.injEq, V.agg.injEq, List.cons.injEq, V.int.injEq, V.bool.injEq, true_and, and_true, decide_eq_true_eq, decide_eq_false_iff_not, Bool.and_eq_true, Bool.and_eq_false_iff, Bool.or_eq_true, Bool.or_eq_false_iff, Bool.not_eq_true', Bool.not_eq_false', beq_iff_eq, wrap_u32, wrap_i64, wrap_u8, beq_eq_false_iff_ne, ne_eq, bne_iff_ne, bne_eq_false_iff_eq, eq_self, and_self, splice, V.cells, List.take_succ_cons, List.take_zero, List.take_nil, List.drop_zero, List.drop_succ_cons, List.drop_nil, List.cons_append, List.nil_append, List.append_nil, List.length_cons, List.length_nil, Nat.zero_add, Nat.reduceAdd, if_true, if_false, Bool.false_eq_true, beq_self_eq_true, decide_eq_decide, Bool.true_eq_false, or_false, false_or, or_true, true_or, and_false, false_and, not_true_eq_false, not_false_eq_true, Bool.and_true, Bool.true_and, Bool.not_true, Bool.not_false] at *; first | done | assumption | omega))); intro h)
                 | ((with_reducible refine dec_falseH ?tst ?_); (case tst => (first | rfl | ((try clear hC); (try clear kn); (try clear kx); (try clear kr); (try clear kn1); (try clear kx1); (try clear kr1); (try clear kn2); (try clear kx2); (try clear kr2); (try clear kn3); (try clear kx3); (try clear kr3); subst_vars; simp only [Int.ofNat_eq_natCast, tq_not, fq_not, tq_and, fq_and, tq_or, fq_or, tq_beq, fq_beq, tq_bne, fq_bne, tq_dec, fq_dec, one1, V.tup.injEq, V.agg.injEq, List.cons.injEq, V.int.injEq, V.bool.injEq, true_and, and_true, decide_eq_true_eq, decide_eq_false_iff_not, Bool.and_eq_true, Bool.and_eq_false_iff, Bool.or_eq_true, Bool.or_eq_false_iff, Bool.not_eq_true', Bool.not_eq_false', beq_iff_eq, wrap_u32, wrap_i64, wrap_u8, beq_eq_false_iff_ne, ne_eq, bne_iff_ne, bne_eq_false_iff_eq, eq_self, and_self, splice, V.cells, List.take_succ_cons, List.take_zero, List.take_nil, List.drop_zero, List.drop_succ_cons, List.drop_nil, List.cons_append, List.nil_append, List.append_nil, List.length_cons, List.length_nil, Nat.zero_add, Nat.reduceAdd, if_true, if_false, Bool.false_eq_true, beq_self_eq_true, decide_eq_decide, Bool.true_eq_false, or_false, false_or, or_true, true_or, and_false, false_and, not_true_eq_false, not_false_eq_true, Bool.and_true, Bool.true_and, Bool.not_true, Bool.not_false] at *; first | done | assumption | omega))); intro h)
                 | (refine dec_split (fun h => ?_) (fun h => ?_))
                 | (apply silE)
                 | (refine Both.mk ?_ ?_)
                 | (refine And.intro rfl ?_)
                 | (exact And.intro rfl (And.intro rfl (And.intro rfl rfl)))
                 | (refine And.intro (by first | omega | ((simp only [decide_eq_true_eq, decide_eq_false_iff_not, Bool.and_eq_true, beq_iff_eq, Bool.not_eq_true', Bool.not_eq_false'] at *); omega) | (subst_vars; simp only [Int.ofNat_eq_natCast, tq_not, fq_not, tq_and, fq_and, tq_or, fq_or, tq_beq, fq_beq, tq_bne, fq_bne, tq_dec, fq_dec, one1, V.tup.injEq, V.agg.injEq, List.cons.injEq, V.int.injEq, V.bool.injEq, true_and, and_true, decide_eq_true_eq, decide_eq_false_iff_not, Bool.and_eq_true, Bool.and_eq_false_iff, Bool.or_eq_true, Bool.or_eq_false_iff, Bool.not_eq_true', Bool.not_eq_false', beq_iff_eq, wrap_u32, wrap_i64, wrap_u8, beq_eq_false_iff_ne, ne_eq, bne_iff_ne, bne_eq_false_iff_eq, eq_self, and_self, splice, V.cells, List.take_succ_cons, List.take_zero, List.take_nil, List.drop_zero, List.drop_succ_cons, List.drop_nil, List.cons_append, List.nil_append, List.append_nil, List.length_cons, List.length_nil, Nat.zero_add, Nat.reduceAdd, if_true, if_false, Bool.false_eq_true, beq_self_eq_true, decide_eq_decide, Bool.true_eq_false, or_false, false_or, or_true, true_or, and_false, false_and, not_true_eq_false, not_false_eq_true, Bool.and_true, Bool.true_and, Bool.not_true, Bool.not_false] at *; omega)) ?_)
                 | (refine Exists.intro _ (Exists.intro _ (And.intro rfl ?_)))
                 | (refine Exists.intro _ (And.intro rfl ?_))
                 | (refine Exists.intro _ (Exists.intro _ (Exists.intro _ (Exists.intro _ (And.intro rfl ?_)))))
                 | (refine ld_step rfl (by assumption) rfl ?_)
                 | (refine lds_step rfl (by assumption) rfl ?_)
                 | (refine fL_mk ?_)
                 | (refine fH_mk ?_)
                 | (refine fN_mk ?_)
                 | (refine fLB_mk ?_)
                 | (refine And.intro (by repeat (first | assumption | refine GLB_app ?_)) ?_)
                 | (refine ld_step rfl ((rd_x0 _ _ _ _ _).trans rfl) rfl ?_)
                 | (refine ld_step rfl ((rd_x1 _ _ _ _ _ _).trans rfl) rfl ?_)
                 | (refine ld_step rfl ((rd_x2 _ _ _ _ _ _ _).trans rfl) rfl ?_)
                 | (refine lds_step rfl ((rd_x0 _ _ _ _ _).trans rfl) rfl ?_)
                 | (refine lds_step rfl ((rd_x1 _ _ _ _ _ _).trans rfl) rfl ?_)
                 | (refine lds_step rfl ((rd_x2 _ _ _ _ _ _ _).trans rfl) rfl ?_)
                 | (refine mem_step (st_eq rfl rfl rfl rfl (wr_last _ _ _ _ rfl)) ?_)
                 | (refine drec_yes (by omega) ?_)
                 | (refine drec_no (by omega) ?_)
                 | (intro _)
                 | fail)
        all_goals (conv => whnf)
        all_goals exact leafH hq rfl (by simp only [List.append_assoc]; exact take_app1 H _)
    · have t1 : decide ((l.length : Int) > 1000) = true := decide_eq_true (by omega)
      repeat' (conv => whnf
               first
               | (refine Stop.mk ?_)
               | (refine fO_is t1 ?_)
               | (with_reducible refine fI_is (a := (l.length : Int)) rfl ?_)
               | (refine fI_gen ?_; intro z hz)
               | (refine fO_gen ?_; intro z hz)
               | (refine And.intro hg ?_)
               | (refine dec_true (by assumption) ?_)
               | (refine dec_false (by assumption) ?_)
               | (refine dec_split (fun h => ?_) (fun h => ?_))
               | (apply silE)
               | (refine Both.mk ?_ ?_)
               | (refine And.intro rfl ?_)
               | (exact And.intro rfl (And.intro rfl (And.intro rfl rfl)))
               | (refine And.intro (by first | omega | ((simp only [decide_eq_true_eq, decide_eq_false_iff_not, Bool.and_eq_true, beq_iff_eq, Bool.not_eq_true', Bool.not_eq_false'] at *); omega) | (subst_vars; simp only [Int.ofNat_eq_natCast, tq_not, fq_not, tq_and, fq_and, tq_or, fq_or, tq_beq, fq_beq, tq_bne, fq_bne, tq_dec, fq_dec, one1, V.tup.injEq, V.agg.injEq, List.cons.injEq, V.int.injEq, V.bool.injEq, true_and, and_true, decide_eq_true_eq, decide_eq_false_iff_not, Bool.and_eq_true, Bool.and_eq_false_iff, Bool.or_eq_true, Bool.or_eq_false_iff, Bool.not_eq_true', Bool.not_eq_false', beq_iff_eq, wrap_u32, wrap_i64, wrap_u8, beq_eq_false_iff_ne, ne_eq, bne_iff_ne, bne_eq_false_iff_eq, eq_self, and_self, splice, V.cells, List.take_succ_cons, List.take_zero, List.take_nil, List.drop_zero, List.drop_succ_cons, List.drop_nil, List.cons_append, List.nil_append, List.append_nil, List.length_cons, List.length_nil, Nat.zero_add, Nat.reduceAdd, if_true, if_false, Bool.false_eq_true, beq_self_eq_true, decide_eq_decide, Bool.true_eq_false, or_false, false_or, or_true, true_or, and_false, false_and, not_true_eq_false, not_false_eq_true, Bool.and_true, Bool.true_and, Bool.not_true, Bool.not_false] at *; omega)) ?_)
               | (refine Exists.intro _ (Exists.intro _ (And.intro rfl ?_)))
               | (refine Exists.intro _ (And.intro rfl ?_))
               | (refine Exists.intro _ (Exists.intro _ (Exists.intro _ (Exists.intro _ (And.intro rfl ?_)))))
               | (refine ld_step rfl (by assumption) rfl ?_)
               | (refine lds_step rfl (by assumption) rfl ?_)
               | (refine fL_mk ?_)
               | (refine fH_mk ?_)
               | (refine fN_mk ?_)
               | (refine fLB_mk ?_)
               | (refine And.intro (by repeat (first | assumption | refine GLB_app ?_)) ?_)
               | (refine ld_step rfl ((rd_x0 _ _ _ _ _).trans rfl) rfl ?_)
               | (refine ld_step rfl ((rd_x1 _ _ _ _ _ _).trans rfl) rfl ?_)
               | (refine ld_step rfl ((rd_x2 _ _ _ _ _ _ _).trans rfl) rfl ?_)
               | (refine lds_step rfl ((rd_x0 _ _ _ _ _).trans rfl) rfl ?_)
               | (refine lds_step rfl ((rd_x1 _ _ _ _ _ _).trans rfl) rfl ?_)
               | (refine lds_step rfl ((rd_x2 _ _ _ _ _ _ _).trans rfl) rfl ?_)
               | (refine mem_step (st_eq rfl rfl rfl rfl (wr_last _ _ _ _ rfl)) ?_)
               | (refine drec_yes (by omega) ?_)
               | (refine drec_no (by omega) ?_)
               | (intro _)
               | fail)
      all_goals (conv => whnf)
      all_goals exact leafE hq rfl
  · exact hs.elim
end Go.Ev
