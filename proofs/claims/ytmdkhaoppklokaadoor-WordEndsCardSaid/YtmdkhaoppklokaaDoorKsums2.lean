/- dev: sums, bits by the document -/
import Derived.Test.YtmdkhaoppklokaaDoorEvU
import Derived.Test.YtmdkhaoppklokaaDoorKsums1
set_option linter.all false
namespace Go.Ev
open Go Go.Proofs
set_option maxRecDepth 10000
set_option maxHeartbeats 4000000
def s23 : Sp := fun vs H Q => match vs with
  | [.int .u32 a, .int .u32 b] => ((0 ≤ a ∧ a < 4294967296) ∧ (0 ≤ b ∧ b < 4294967296)) ∧ Q (.tup [.int .u32 ((a + b) % 4294967296), .bool (decide (4294967296 ≤ a + b))]) H false false
  | _ => False
theorem k23 : Snd Tryd.prog 2 23 s23 := by
  refine snd_of_ev (by kernel_rfl) (C := tab []) (sndC_nil) x23 n23 c23 30 ?_
  intro vs H Q hs
  unfold s23 at hs
  split at hs
  · rename_i a b
    obtain ⟨hp, hs⟩ := hs
    have hq := hs; clear hs
    repeat' (conv => whnf
             first | (refine Stop.mk ?_) | (refine fI_u32 (by first | omega | (simp only [Int.ofNat_eq_natCast] at *; omega)) ?_; intro z hz) | (refine fI_u64 (by first | omega | (simp only [Int.ofNat_eq_natCast] at *; omega)) ?_; intro z hz) | (refine fI_tmod (by first | omega | (simp only [Int.ofNat_eq_natCast] at *; omega)) ?_; intro z hz) | (refine fO_gen ?_; intro z hz) | fail)
    all_goals
      conv => whnf
      refine leafE hq ?_
      clear hq
      first
      | rfl
      | (subst_vars
         simp only [Int.ofNat_eq_natCast, tq_not, fq_not, tq_and, fq_and, tq_or, fq_or, tq_beq, fq_beq, tq_bne, fq_bne, tq_dec, fq_dec, one1, V.tup.injEq, V.agg.injEq, List.cons.injEq, V.int.injEq, V.bool.injEq, true_and, and_true, decide_eq_true_eq, decide_eq_false_iff_not, Bool.and_eq_true, Bool.and_eq_false_iff, Bool.or_eq_true, Bool.or_eq_false_iff, Bool.not_eq_true', Bool.not_eq_false', beq_iff_eq, wrap_u32, wrap_i64, wrap_u8, beq_eq_false_iff_ne, ne_eq, bne_iff_ne, bne_eq_false_iff_eq, eq_self, and_self, splice, V.cells, List.take_succ_cons, List.take_zero, List.take_nil, List.drop_zero, List.drop_succ_cons, List.drop_nil, List.cons_append, List.nil_append, List.append_nil, List.length_cons, List.length_nil, Nat.zero_add, Nat.reduceAdd, if_true, if_false, Bool.false_eq_true, beq_self_eq_true, decide_eq_decide, Bool.true_eq_false, or_false, false_or, or_true, true_or, and_false, false_and, not_true_eq_false, not_false_eq_true, Bool.and_true, Bool.true_and, Bool.not_true, Bool.not_false] at *
         skip
         repeat' (first | refine And.intro ?_ ?_ | (split <;> skip))
         all_goals (first | omega | (rw [Bool.eq_iff_iff]; simp only [decide_eq_true_eq, true_iff, iff_true, false_iff, iff_false, Bool.false_eq_true, Bool.and_eq_true, Bool.or_eq_true, beq_iff_eq, and_true, bne_iff_ne, ne_eq, Bool.not_eq_true']; omega)))
  · exact hs.elim
def s24 : Sp := fun vs H Q => match vs with
  | [.int .u32 a, .int .u32 b] => ((0 ≤ a ∧ a < 4294967296) ∧ (0 ≤ b ∧ b < 4294967296)) ∧ Q (.tup [.int .u32 ((a - b) % 4294967296), .bool (decide (a < b))]) H false false
  | _ => False
theorem k24 : Snd Tryd.prog 2 24 s24 := by
  refine snd_of_ev (by kernel_rfl) (C := tab []) (sndC_nil) x24 n24 c24 30 ?_
  intro vs H Q hs
  unfold s24 at hs
  split at hs
  · rename_i a b
    obtain ⟨hp, hs⟩ := hs
    have hq := hs; clear hs
    repeat' (conv => whnf
             first | (refine Stop.mk ?_) | (refine fI_gen ?_; intro z hz) | (refine fO_gen ?_; intro z hz) | fail)
    all_goals
      conv => whnf
      refine leafE hq ?_
      clear hq
      first
      | rfl
      | (subst_vars
         simp only [Int.ofNat_eq_natCast, tq_not, fq_not, tq_and, fq_and, tq_or, fq_or, tq_beq, fq_beq, tq_bne, fq_bne, tq_dec, fq_dec, one1, V.tup.injEq, V.agg.injEq, List.cons.injEq, V.int.injEq, V.bool.injEq, true_and, and_true, decide_eq_true_eq, decide_eq_false_iff_not, Bool.and_eq_true, Bool.and_eq_false_iff, Bool.or_eq_true, Bool.or_eq_false_iff, Bool.not_eq_true', Bool.not_eq_false', beq_iff_eq, wrap_u32, wrap_i64, wrap_u8, beq_eq_false_iff_ne, ne_eq, bne_iff_ne, bne_eq_false_iff_eq, eq_self, and_self, splice, V.cells, List.take_succ_cons, List.take_zero, List.take_nil, List.drop_zero, List.drop_succ_cons, List.drop_nil, List.cons_append, List.nil_append, List.append_nil, List.length_cons, List.length_nil, Nat.zero_add, Nat.reduceAdd, if_true, if_false, Bool.false_eq_true, beq_self_eq_true, decide_eq_decide, Bool.true_eq_false, or_false, false_or, or_true, true_or, and_false, false_and, not_true_eq_false, not_false_eq_true, Bool.and_true, Bool.true_and, Bool.not_true, Bool.not_false] at *
         skip
         repeat' (first | refine And.intro ?_ ?_ | (split <;> skip))
         all_goals (first | omega | (rw [Bool.eq_iff_iff]; simp only [decide_eq_true_eq, true_iff, iff_true, false_iff, iff_false, Bool.false_eq_true, Bool.and_eq_true, Bool.or_eq_true, beq_iff_eq, and_true, bne_iff_ne, ne_eq, Bool.not_eq_true']; omega)))
  · exact hs.elim
def s25 : Sp := fun vs H Q => match vs with
  | [.int .u32 a, .int .u32 b] => ((0 ≤ a ∧ a < 4294967296) ∧ (0 ≤ b ∧ b < 4294967296)) ∧ Q (.tup [.int .u32 ((a - b) % 4294967296), .bool (decide (a < b))]) H false false
  | _ => False
theorem k25 : Snd Tryd.prog 2 25 s25 := by
  refine snd_of_ev (by kernel_rfl) (C := tab []) (sndC_nil) x25 n25 c25 30 ?_
  intro vs H Q hs
  unfold s25 at hs
  split at hs
  · rename_i a b
    obtain ⟨hp, hs⟩ := hs
    have hq := hs; clear hs
    repeat' (conv => whnf
             first | (refine Stop.mk ?_) | (refine fI_u32 (by first | omega | (simp only [Int.ofNat_eq_natCast] at *; omega)) ?_; intro z hz) | (refine fI_u64 (by first | omega | (simp only [Int.ofNat_eq_natCast] at *; omega)) ?_; intro z hz) | (refine fI_tmod (by first | omega | (simp only [Int.ofNat_eq_natCast] at *; omega)) ?_; intro z hz) | (refine fO_gen ?_; intro z hz) | fail)
    all_goals
      conv => whnf
      refine leafE hq ?_
      clear hq
      first
      | rfl
      | (subst_vars
         simp only [Int.ofNat_eq_natCast, tq_not, fq_not, tq_and, fq_and, tq_or, fq_or, tq_beq, fq_beq, tq_bne, fq_bne, tq_dec, fq_dec, one1, V.tup.injEq, V.agg.injEq, List.cons.injEq, V.int.injEq, V.bool.injEq, true_and, and_true, decide_eq_true_eq, decide_eq_false_iff_not, Bool.and_eq_true, Bool.and_eq_false_iff, Bool.or_eq_true, Bool.or_eq_false_iff, Bool.not_eq_true', Bool.not_eq_false', beq_iff_eq, wrap_u32, wrap_i64, wrap_u8, beq_eq_false_iff_ne, ne_eq, bne_iff_ne, bne_eq_false_iff_eq, eq_self, and_self, splice, V.cells, List.take_succ_cons, List.take_zero, List.take_nil, List.drop_zero, List.drop_succ_cons, List.drop_nil, List.cons_append, List.nil_append, List.append_nil, List.length_cons, List.length_nil, Nat.zero_add, Nat.reduceAdd, if_true, if_false, Bool.false_eq_true, beq_self_eq_true, decide_eq_decide, Bool.true_eq_false, or_false, false_or, or_true, true_or, and_false, false_and, not_true_eq_false, not_false_eq_true, Bool.and_true, Bool.true_and, Bool.not_true, Bool.not_false] at *
         skip
         repeat' (first | refine And.intro ?_ ?_ | (split <;> skip))
         all_goals (first | omega | (rw [Bool.eq_iff_iff]; simp only [decide_eq_true_eq, true_iff, iff_true, false_iff, iff_false, Bool.false_eq_true, Bool.and_eq_true, Bool.or_eq_true, beq_iff_eq, and_true, bne_iff_ne, ne_eq, Bool.not_eq_true']; omega)))
  · exact hs.elim
theorem half_pow (v : Int) (i : Nat) : v / 2 ^ i / 2 = v / 2 ^ (i + 1) := by
  rw [Int.pow_succ, Int.ediv_ediv_of_nonneg (Int.pow_nonneg (by decide))]
def s30 : Sp := fun vs H Q => match vs with
  | [.int .u32 v] => (0 ≤ v ∧ v < 4294967296) ∧ RowJ H (onesL v 32) Q
  | _ => False
theorem k30 : Snd Tryd.prog 2 30 s30 := by
  refine snd_of_ev (by kernel_rfl) (C := tab []) (sndC_nil) x30 n30 c30 60 ?_
  have hC : MonoC (tab []) := monoC_nil
  intro vs Hx Q hs
  unfold s30 at hs
  split at hs
  · rename_i v
    obtain ⟨hv, hq⟩ := hs
    suffices hh : ∀ k, 40 < k → evFun (tab []) k e30 [.int .u32 v] Hx Q from hh _ (by omega)
    intro k hk
    refine evFun_in (tm := SV.v (.int .u32 v) :: undefV :: undefV :: undefV :: undefV :: undefV :: undefV :: undefV :: undefV :: undefV :: undefV :: undefV :: undefV :: undefV :: undefV :: undefV :: undefV :: undefV :: undefV :: []) rfl ?_
    show rC _ _ r30_0 _ _ _ _ _ _
    refine rC_seqH ?_
    repeat' (conv => whnf
             first | fail)
    any_goals refine Halt.mk ?_
    any_goals show rC _ _ r30_1 _ _ _ _ _ _
    refine rC_seqH ?_
    repeat' (conv => whnf
             first | fail)
    any_goals refine Halt.mk ?_
    any_goals show rC _ _ r30_2 _ _ _ _ _ _
    refine rC_seqH ?_
    repeat' (conv => whnf
             first | fail)
    conv => whnf
    refine rLoop_ctr (c := rC (tab []) k l30_0) 32 4 (true :: false :: false :: true :: false :: true :: true :: true :: true :: true :: true :: true :: true :: true :: true :: true :: true :: true :: false :: []) (fun i tm L H e g => (∃ X w, svAtJ tm 3 = .v w ∧ svAtJ tm 0 = .v (.int .u32 (v / 2 ^ i)) ∧ H = Hx ++ X ∧ Own Hx.length H 3 1 w ((onesL v i).flatMap encJ) ∧ (onesL v i = [] → X = [] ∧ g = false ∧ w = .sl none 0 0) ∧ (onesL v i ≠ [] → g = true)) ∧ L = [] ∧ e = false) (by omega) rfl ⟨⟨[], _, rfl, by show SV.v (V.int .u32 v) = _; simp, (List.append_nil _).symm, Own.nil _ _ _ _, fun _ => ⟨rfl, rfl, rfl⟩, fun h => absurd rfl h⟩, rfl, rfl⟩ ?_
    intro i0 hi0
    conv => whnf
    iterate 15 (intro j; conv => whnf)
    refine Halt.mk ?_
    rintro L H' e g ⟨⟨X, w, h3, h0, rfl, hown, hn1, hn2⟩, rfl, rfl⟩ K kn kx kr
    conv at h3 => lhs; whnf
    conv at h0 => lhs; whnf
    subst h3
    subst h0
    repeat' (conv => whnf
             first | (refine Stop.mk ?_) | (refine fO_mk ?_) | fail)
    conv => whnf
    refine dec_split (fun h => ?_) (fun h => ?_)
    · have hlt : i0 < 32 := by have h2 : (i0 : Int) < 32 := of_decide_eq_true h; omega
      clear kx kr
      have hll : (onesL v i0).length ≤ i0 := onesL_len v i0
      have hpos : 0 ≤ v / 2 ^ i0 := Int.ediv_nonneg hv.1 (Int.pow_nonneg (by decide))
      have hle : v / 2 ^ i0 ≤ v := Int.ediv_le_self _ hv.1
      have hq2 : IntKind.u32.wrap (Int.tdiv (v / 2 ^ i0) 2) = v / 2 ^ (i0 + 1) := by
        rw [Int.tdiv_eq_ediv_of_nonneg hpos, half_pow, wrap_u32, ← half_pow]; omega
      have hm2 : Int.tmod (v / 2 ^ i0) 2 = v / 2 ^ i0 % 2 := Int.tmod_eq_emod_of_nonneg hpos
      by_cases hb : v / 2 ^ i0 % 2 = 1
      · have t1 : (v / 2 ^ i0 % 2 == 1) = true := by rw [hb]; rfl
        repeat' (conv => whnf
                 first | (refine Stop.mk ?_) | (refine fI_is hq2 ?_) | (refine fI_is hm2 ?_) | (refine fO_is t1 ?_) | (refine fI_i64 (by first | omega | (simp only [Int.ofNat_eq_natCast] at *; omega)) ?_; intro z hz) | (refine app_own1 (List.append_assoc _ _ _) rfl rfl (hown.app _) (news_eq (rd_last _ _ _ _ rfl) rfl) rfl rfl rfl (by omega) (by omega) (by rw [flat_len encJ_len]; show (_ * 1 + 1) * 8 ≤ _; omega) (by rw [flat_len encJ_len]; show _ * 1 + 1 < _; omega) rfl ?_; intro w' X' g' hown' hg1 hX) | (refine fH_mk ?_) | (refine fN_mk ?_) | fail)
        conv => whnf
        subst hz
        have e1 : onesL v (i0 + 1) = onesL v i0 ++ [(i0 : Int)] := by rw [onesL, if_pos hb]
        refine kn hlt _ _ _ _ _ rfl ⟨⟨X', w', rfl, rfl, rfl, ?_, fun h => ?_, fun _ => hg1 (by simp)⟩, rfl, rfl⟩
        · rw [e1, List.flatMap_append]; exact hown'
        · rw [e1] at h; simp at h
      · have t1 : (v / 2 ^ i0 % 2 == 1) = false := by simpa using hb
        have e1 : onesL v (i0 + 1) = onesL v i0 := by rw [onesL, if_neg hb]
        repeat' (conv => whnf
                 first | (refine Stop.mk ?_) | (refine fI_is hq2 ?_) | (refine fI_is hm2 ?_) | (refine fO_is t1 ?_) | (refine fI_i64 (by first | omega | (simp only [Int.ofNat_eq_natCast] at *; omega)) ?_; intro z hz) | fail)
        conv => whnf
        subst hz
        refine kn hlt _ _ _ _ _ rfl ⟨⟨X, w, rfl, rfl, rfl, by rw [e1]; exact hown, by rw [e1]; exact hn1, by rw [e1]; exact hn2⟩, rfl, rfl⟩
    · clear kn kr
      have hie : i0 = 32 := by have h2 : ¬ (i0 : Int) < 32 := of_decide_eq_false h; omega
      subst hie
      by_cases hnil : onesL v 32 = []
      · obtain ⟨rfl, rfl, rfl⟩ := hn1 hnil
        rw [List.append_nil] at *
        refine kx _ _ _ _ _ _ ?_
        conv => whnf
        refine Halt.mk ?_
        repeat' (conv => whnf
                 first | fail)
        conv => whnf
        exact hq.1 hnil
      · obtain rfl := hn2 hnil
        obtain ⟨b, cap, ws, rfl, q1, q2, q3, q4⟩ := own_outJ hown hnil
        refine kx _ _ _ _ _ _ ?_
        conv => whnf
        refine Halt.mk ?_
        repeat' (conv => whnf
                 first | fail)
        conv => whnf
        refine drec_no (by simp [one1, V.lt, V.ltL]; omega) ?_
        exact hq.2 hnil b cap X ws q1 q2 q3 q4
  · exact hs.elim
def s27 : Sp := fun vs H Q => match vs with
  | [.int .u32 v] => (0 ≤ v ∧ v < 4294967296) ∧ Q (.tup [.int .i64 (firstI v), .bool (firstB v)]) H false false
  | _ => False
theorem k27 : Snd Tryd.prog 2 27 s27 := by
  refine snd_of_ev (by kernel_rfl) (C := tab [(30, s30)]) (sndC_cons k30 (sndC_nil)) x27 n27 c27 30 ?_
  intro vs Hx Q hs
  unfold s27 at hs
  split at hs
  · rename_i v
    obtain ⟨hv, hq⟩ := hs
    by_cases hn : onesL v 32 = []
    · have e1 : firstI v = 0 := by unfold firstI; rw [hn]; rfl
      have e2 : firstB v = false := by unfold firstB; rw [hn]; rfl
      rw [e1, e2] at hq
      repeat' (conv => whnf
               first | (refine Stop.mk ?_) | (refine And.intro hv ⟨fun _ => ?_, fun h => absurd hn h⟩) | fail)
      all_goals (conv => whnf)
      all_goals exact leafE hq rfl
    · have hpos : 0 < (onesL v 32).length := List.length_pos_iff.2 hn
      have e1 : firstI v = (onesL v 32)[0] := by unfold firstI; rw [List.head?_eq_getElem?, List.getElem?_eq_getElem hpos]; rfl
      have e2 : firstB v = true := by unfold firstB; cases h : onesL v 32 with | nil => exact absurd h hn | cons a l => rfl
      rw [e1, e2] at hq
      have t1 : (((onesL v 32).length : Int) == 0) = false := by simp; omega
      repeat' (conv => whnf
               first | (refine Stop.mk ?_) | (with_reducible refine fI_is (a := ((onesL v 32).length : Int)) rfl ?_) | (refine fO_is t1 ?_) | (refine And.intro hv ⟨fun h => absurd h hn, fun _ => ?_⟩; intro b cap X ws q1 q2 q3 q4; have q5 : rd (Hx ++ X) b 0 ((onesL v 32).length * 1) = some ((onesL v 32).flatMap encJ) := rd_block q3 (flat_len encJ_len _)) | (refine pure_step (ixs_eq rfl rfl (by omega) (show (0 : Int) < ((onesL v 32).length : Int) by omega)) ?_) | (refine ld_step rfl (rd_el encJ_len q5 0 hpos _ rfl) rfl ?_) | (refine fH_mk ?_) | (refine fN_mk ?_) | fail)
      all_goals (conv => whnf)
      all_goals exact leafH hq rfl (take_app1 Hx X)
  · exact hs.elim
theorem rows_twoI {H : List B} {b1 b2 c1 c2 : Nat} {l ys1 ys2 : List Int} (hne : b1 ≠ b2) (hn : l.length ≤ 4096) (h1 : H[b1]? = some (.rw 3 ((l ++ ys1).map (V.int .i64)))) (hn1 : l.length ≤ c1) (hw1 : ys1.length = c1 - l.length) (h2 : H[b2]? = some (.rw 3 ((l ++ ys2).map (V.int .i64)))) (hn2 : l.length ≤ c2) (hw2 : ys2.length = c2 - l.length) :
    rowsI H (fun k => if k = 0 then .sl (some (b1, 0)) l.length c1 else .sl (some (b2, 0)) l.length c2) (fun k => if k = 0 then b1 else b2) (fun k => if k = 0 then c1 else c2) l.length := by
  refine ⟨hn, hne, fun k hk => ?_, fun k hk => ?_⟩
  all_goals
    have : k = 0 ∨ k = 1 := by omega
    rcases this with rfl | rfl
  · rfl
  · rfl
  · exact ⟨hn1, _, h1, by rw [List.length_map, List.length_append, hw1]; show l.length + (c1 - l.length) = c1; omega, trivial, trivial⟩
  · exact ⟨hn2, _, h2, by rw [List.length_map, List.length_append, hw2]; show l.length + (c2 - l.length) = c2; omega, trivial, trivial⟩
theorem rdJ_map {H : List B} {b : Nat} {l ys : List Int} (h : H[b]? = some (.rw 3 ((l ++ ys).map (V.int .i64)))) : RdJ H (some (b, 0)) l := by
  rw [encJ_map, List.flatMap_append] at h
  exact rdJ_blk h
end Go.Ev
