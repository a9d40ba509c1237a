/- dev: SlotWait, SlotFair -/
import Derived.Test.YtjabpdepaldkfaaKlaw17p
set_option linter.all false
namespace Go.Ev
open Go Go.Proofs
set_option maxRecDepth 40000
set_option maxHeartbeats 4000000
def s3 : Sp := fun vs H Q => match vs with
  | [.sl p n c, .int .i64 w, .int .i64 t] => ∃ l : List Int, n = l.length ∧ n ≤ c ∧ RdI H p l ∧ Q (.bool true) H false false
  | _ => False
theorem k3 : Snd Try.prog 0 3 s3 := by
  refine snd_of_ev (by kernel_rfl) (C := tab [(5, s5), (6, s6), (7, s7), (9, s9), (8, s8), (10, s10)]) (sndC_cons k5 (sndC_cons k6 (sndC_cons k7 (sndC_cons k9 (sndC_cons k8 (sndC_cons k10 (sndC_nil))))))) x3 n3 c3 200 ?_
  have hC : MonoC (tab [(5, s5), (6, s6), (7, s7), (9, s9), (8, s8), (10, s10)]) := monoC_cons m5 (monoC_cons m6 (monoC_cons m7 (monoC_cons m9 (monoC_cons m8 (monoC_cons m10 (monoC_nil))))))
  intro vs Hx Q hs
  unfold s3 at hs
  split at hs
  · rename_i p n c w t
    obtain ⟨l, rfl, hc, hr, hq⟩ := hs
    by_cases hR : rightI l
    · by_cases hw : 0 ≤ w ∧ w < 8
      · by_cases ht : 0 ≤ t ∧ t ≤ 1099511627576
        · obtain ⟨T, rfl⟩ := Int.eq_ofNat_of_zero_le ht.1
          have hl : 1 ≤ l.length ∧ l.length ≤ 32 := ⟨hR.1, hR.2.1⟩
          have hm := may_nil hR hw
          have hT : T ≤ 1099511627576 := by omega
          have hcv : cntV l w = ((manyF (fun i => atL l (T + i) == w) l.length : Nat) : Int) := by rw [many_rot (by omega)]; exact if_pos hm
          obtain ⟨F, hF⟩ : ∃ F : Nat → Nat, F = manyF (fun i => atL l (T + i) == w) := ⟨_, rfl⟩
          rw [← hF] at hcv
          have hFs : ∀ i, F (i + 1) = if (atL l (T + i) == w) = true then F i + 1 else F i := fun i => by rw [hF]; rfl
          have hF0 : F 0 = 0 := by rw [hF]; rfl
          have hFle : ∀ i, F i ≤ i := fun i => by rw [hF]; exact many_le _ i
          have hFp : 0 < F l.length ↔ w ∈ l := by rw [hF, many_rot (by omega)]; exact which_pos w
          have ho : ∀ k : Nat, T + k ≤ 1099511627776 → ownV l ((T + k : Nat) : Int) = atL l (T + k) := fun k hk => own_at hR hk
          clear hF
          suffices hh : ∀ k, 150 < k → evFun (tab [(5, s5), (6, s6), (7, s7), (9, s9), (8, s8), (10, s10)]) k e3 [.sl p l.length c, .int .i64 w, .int .i64 (T : Int)] Hx Q from hh _ (by omega)
          intro k hk
          refine evFun_in (tm := SV.v (.sl p l.length c) :: SV.v (.int .i64 w) :: SV.v (.int .i64 (T : Int)) :: undefV :: undefV :: undefV :: undefV :: undefV :: undefV :: undefV :: undefV :: undefV :: undefV :: undefV :: undefV :: undefV :: undefV :: undefV :: undefV :: undefV :: undefV :: undefV :: undefV :: undefV :: undefV :: undefV :: undefV :: undefV :: undefV :: undefV :: undefV :: undefV :: undefV :: undefV :: undefV :: undefV :: undefV :: undefV :: undefV :: undefV :: undefV :: undefV :: undefV :: undefV :: undefV :: undefV :: undefV :: undefV :: undefV :: undefV :: undefV :: undefV :: undefV :: undefV :: undefV :: undefV :: undefV :: undefV :: undefV :: undefV :: undefV :: undefV :: undefV :: undefV :: undefV :: undefV :: undefV :: undefV :: undefV :: undefV :: undefV :: undefV :: undefV :: undefV :: undefV :: undefV :: undefV :: undefV :: undefV :: undefV :: undefV :: undefV :: undefV :: undefV :: undefV :: undefV :: undefV :: undefV :: undefV :: undefV :: undefV :: undefV :: undefV :: undefV :: undefV :: undefV :: undefV :: undefV :: undefV :: undefV :: undefV :: undefV :: undefV :: undefV :: undefV :: undefV :: undefV :: undefV :: undefV :: undefV :: undefV :: undefV :: undefV :: undefV :: undefV :: undefV :: undefV :: undefV :: undefV :: undefV :: undefV :: undefV :: undefV :: undefV :: undefV :: undefV :: undefV :: undefV :: undefV :: undefV :: undefV :: undefV :: undefV :: undefV :: undefV :: undefV :: undefV :: undefV :: undefV :: undefV :: undefV :: undefV :: undefV :: undefV :: undefV :: undefV :: undefV :: undefV :: undefV :: undefV :: undefV :: undefV :: undefV :: []) rfl ?_
          show rC _ _ r3_0 _ _ _ _ _ _
          repeat' (conv => whnf
                   first
                   | (refine Stop.mk ?_)
                   | (refine fO_is (decide_eq_true hR) ?_)
                   | (with_reducible refine fI_is (a := (l.length : Int)) rfl ?_)
                   | (with_reducible refine fI_is (a := w) rfl ?_)
                   | (with_reducible refine fI_is (a := (T : Int)) rfl ?_)
                   | (refine fI_gen ?_; intro z hz)
                   | (refine fO_gen ?_; intro z hz)
                   | (refine Exists.intro l (And.intro rfl (And.intro hr ?_)))
                   | (refine dec_true (by assumption) ?_)
                   | (refine dec_false (by assumption) ?_)
                   | ((with_reducible refine dec_trueH ?tst ?_); (case tst => (first | rfl | ((try clear hC); (try clear kn); (try clear kx); (try clear kr); (try clear kn1); (try clear kx1); (try clear kr1); (try clear kn2); (try clear kx2); (try clear kr2); (try clear kn3); (try clear kx3); (try clear kr3); subst_vars; simp only [Int.ofNat_eq_natCast, tq_not, fq_not, tq_and, fq_and, tq_or, fq_or, tq_beq, fq_beq, tq_bne, fq_bne, tq_dec, fq_dec, one1, V.tup.injEq, V.agg.injEq, List.cons.injEq, V.int.injEq, V.bool.injEq, true_and, and_true, decide_eq_true_eq, decide_eq_false_iff_not, Bool.and_eq_true, Bool.and_eq_false_iff, Bool.or_eq_true, Bool.or_eq_false_iff, Bool.not_eq_true', Bool.not_eq_false', beq_iff_eq, wrap_u32, wrap_i64, wrap_u8, beq_eq_false_iff_ne, ne_eq, bne_iff_ne, bne_eq_false_iff_eq, eq_self, and_self, splice, V.cells, List.take_succ_cons, List.take_zero, List.take_nil, List.drop_zero, List.drop_succ_cons, List.drop_nil, List.cons_append, List.nil_append, List.append_nil, List.length_cons, List.length_nil, Nat.zero_add, Nat.reduceAdd, if_true, if_false, Bool.false_eq_true, beq_self_eq_true, decide_eq_decide, Bool.true_eq_false, or_false, false_or, or_true, true_or, and_false, false_and, not_true_eq_false, not_false_eq_true, Bool.and_true, Bool.true_and, Bool.not_true, Bool.not_false] at *; first | done | assumption | omega))); intro h)
                   | ((with_reducible refine dec_falseH ?tst ?_); (case tst => (first | rfl | ((try clear hC); (try clear kn); (try clear kx); (try clear kr); (try clear kn1); (try clear kx1); (try clear kr1); (try clear kn2); (try clear kx2); (try clear kr2); (try clear kn3); (try clear kx3); (try clear kr3); subst_vars; simp only [Int.ofNat_eq_natCast, tq_not, fq_not, tq_and, fq_and, tq_or, fq_or, tq_beq, fq_beq, tq_bne, fq_bne, tq_dec, fq_dec, one1, V.tup.injEq, V.agg.injEq, List.cons.injEq, V.int.injEq, V.bool.injEq, true_and, and_true, decide_eq_true_eq, decide_eq_false_iff_not, Bool.and_eq_true, Bool.and_eq_false_iff, Bool.or_eq_true, Bool.or_eq_false_iff, Bool.not_eq_true', Bool.not_eq_false', beq_iff_eq, wrap_u32, wrap_i64, wrap_u8, beq_eq_false_iff_ne, ne_eq, bne_iff_ne, bne_eq_false_iff_eq, eq_self, and_self, splice, V.cells, List.take_succ_cons, List.take_zero, List.take_nil, List.drop_zero, List.drop_succ_cons, List.drop_nil, List.cons_append, List.nil_append, List.append_nil, List.length_cons, List.length_nil, Nat.zero_add, Nat.reduceAdd, if_true, if_false, Bool.false_eq_true, beq_self_eq_true, decide_eq_decide, Bool.true_eq_false, or_false, false_or, or_true, true_or, and_false, false_and, not_true_eq_false, not_false_eq_true, Bool.and_true, Bool.true_and, Bool.not_true, Bool.not_false] at *; first | done | assumption | omega))); intro h)
                   | (refine dec_split (fun h => ?_) (fun h => ?_))
                   | (apply silE)
                   | (refine Both.mk ?_ ?_)
                   | (refine And.intro rfl ?_)
                   | (exact And.intro rfl (And.intro rfl (And.intro rfl rfl)))
                   | (refine And.intro (by first | omega | ((simp only [decide_eq_true_eq, decide_eq_false_iff_not, Bool.and_eq_true, beq_iff_eq, Bool.not_eq_true', Bool.not_eq_false'] at *); omega) | (subst_vars; simp only [Int.ofNat_eq_natCast, tq_not, fq_not, tq_and, fq_and, tq_or, fq_or, tq_beq, fq_beq, tq_bne, fq_bne, tq_dec, fq_dec, one1, V.tup.injEq, V.agg.injEq, List.cons.injEq, V.int.injEq, V.bool.injEq, true_and, and_true, decide_eq_true_eq, decide_eq_false_iff_not, Bool.and_eq_true, Bool.and_eq_false_iff, Bool.or_eq_true, Bool.or_eq_false_iff, Bool.not_eq_true', Bool.not_eq_false', beq_iff_eq, wrap_u32, wrap_i64, wrap_u8, beq_eq_false_iff_ne, ne_eq, bne_iff_ne, bne_eq_false_iff_eq, eq_self, and_self, splice, V.cells, List.take_succ_cons, List.take_zero, List.take_nil, List.drop_zero, List.drop_succ_cons, List.drop_nil, List.cons_append, List.nil_append, List.append_nil, List.length_cons, List.length_nil, Nat.zero_add, Nat.reduceAdd, if_true, if_false, Bool.false_eq_true, beq_self_eq_true, decide_eq_decide, Bool.true_eq_false, or_false, false_or, or_true, true_or, and_false, false_and, not_true_eq_false, not_false_eq_true, Bool.and_true, Bool.true_and, Bool.not_true, Bool.not_false] at *; omega)) ?_)
                   | (refine Exists.intro _ (Exists.intro _ (And.intro rfl ?_)))
                   | (refine Exists.intro _ (And.intro rfl ?_))
                   | (refine Exists.intro _ (Exists.intro _ (Exists.intro _ (Exists.intro _ (And.intro rfl ?_)))))
                   | (refine ld_step rfl (by assumption) rfl ?_)
                   | (refine lds_step rfl (by assumption) rfl ?_)
                   | (refine fL_mk ?_)
                   | (refine fH_mk ?_)
                   | (refine fN_mk ?_)
                   | (refine fLB_mk ?_)
                   | (refine And.intro (by repeat (first | assumption | refine GLB_app ?_)) ?_)
                   | (refine ld_step rfl ((rd_x0 _ _ _ _ _).trans rfl) rfl ?_)
                   | (refine ld_step rfl ((rd_x1 _ _ _ _ _ _).trans rfl) rfl ?_)
                   | (refine ld_step rfl ((rd_x2 _ _ _ _ _ _ _).trans rfl) rfl ?_)
                   | (refine lds_step rfl ((rd_x0 _ _ _ _ _).trans rfl) rfl ?_)
                   | (refine lds_step rfl ((rd_x1 _ _ _ _ _ _).trans rfl) rfl ?_)
                   | (refine lds_step rfl ((rd_x2 _ _ _ _ _ _ _).trans rfl) rfl ?_)
                   | (refine mem_step (st_eq rfl rfl rfl rfl (wr_last _ _ _ _ rfl)) ?_)
                   | (refine drec_yes (by omega) ?_)
                   | (refine drec_no (by omega) ?_)
                   | (intro _)
                   | fail)
          conv => whnf
          repeat' (conv => whnf
                   first
                   | (refine Stop.mk ?_)
                   | (refine fI_mk ?_)
                   | (refine fO_mk ?_)
                   | (refine fN_mk ?_)
                   | fail)
          conv => whnf
          refine rLoop_ctr (c := rC (tab [(5, s5), (6, s6), (7, s7), (9, s9), (8, s8), (10, s10)]) k l3_0) l.length 8 (false :: false :: false :: false :: false :: false :: false :: true :: false :: false :: false :: false :: false :: false :: false :: false :: false :: false :: false :: false :: false :: false :: false :: false :: false :: false :: false :: false :: false :: false :: false :: false :: false :: false :: false :: true :: true :: true :: true :: true :: true :: true :: true :: true :: true :: true :: true :: true :: true :: true :: false :: false :: false :: false :: false :: false :: false :: false :: false :: false :: false :: false :: false :: false :: false :: false :: false :: false :: false :: false :: false :: false :: false :: false :: false :: false :: false :: false :: false :: false :: false :: false :: false :: false :: false :: false :: false :: false :: false :: false :: false :: false :: false :: false :: false :: false :: false :: false :: false :: false :: false :: false :: false :: false :: false :: false :: false :: false :: false :: false :: false :: false :: false :: false :: false :: false :: false :: false :: false :: false :: false :: false :: false :: false :: false :: false :: false :: false :: false :: false :: false :: false :: false :: false :: false :: false :: false :: false :: false :: false :: false :: false :: false :: false :: false :: false :: false :: false :: false :: false :: false :: false :: false :: []) (fun i tm L H e g => svAt tm 7 = .v (.int .i64 ((F i : Nat) : Int)) ∧ L = [] ∧ H = Hx ∧ e = false ∧ g = false) (by omega) rfl ⟨by rw [hF0]; rfl, rfl, rfl, rfl, rfl⟩ ?_
          intro i0 hi0
          conv => whnf
          intro j
          conv => whnf
          intro j
          conv => whnf
          intro j
          conv => whnf
          intro j
          conv => whnf
          intro j
          conv => whnf
          intro j
          conv => whnf
          intro j
          conv => whnf
          intro j
          conv => whnf
          intro j
          conv => whnf
          intro j
          conv => whnf
          intro j
          conv => whnf
          intro j
          conv => whnf
          intro j
          conv => whnf
          intro j
          conv => whnf
          intro j
          conv => whnf
          intro j
          conv => whnf
          refine Halt.mk ?_
          rintro L H' e g ⟨h7, rfl, rfl, rfl, rfl⟩ K kn kx kr
          conv at h7 => lhs; whnf
          subst h7
          repeat' (conv => whnf
                   first
                   | (refine Stop.mk ?_)
                   | (refine fI_mk ?_)
                   | (refine fO_mk ?_)
                   | (refine fN_mk ?_)
                   | fail)
          conv => whnf
          refine dec_split (fun h => ?_) (fun h => ?_)
          · have hlt : i0 < l.length := by have := of_decide_eq_true h; omega
            clear kx kr
            have w1 : IntKind.i64.wrap ((T : Int) + (i0 : Int)) = ((T + i0 : Nat) : Int) := by rw [wrap_i64_id (by omega) (by omega)]; omega
            have ho1 := ho i0 (by omega)
            have hfl := hFle i0
            have w2 : IntKind.i64.wrap (((F i0 : Nat) : Int) + 1) = ((F i0 + 1 : Nat) : Int) := by rw [wrap_i64_id (by omega) (by omega)]; omega
            have hf1 := hFs i0
            cases hb : (atL l (T + i0) == w) with
            | true =>
              rw [if_pos hb] at hf1
              repeat' (conv => whnf
                       first
                       | (refine Stop.mk ?_)
                       | (refine fI_is w1 ?_)
                       | (refine fI_is ho1 ?_)
                       | (refine fI_is w2 ?_)
                       | (refine fO_is hb ?_)
                       | (with_reducible refine fI_is (a := atL l (T + i0)) rfl ?_)
                       | (with_reducible refine fI_is (a := ((T + i0 : Nat) : Int)) rfl ?_)
                       | (with_reducible refine fI_is (a := ((F i0 : Nat) : Int)) rfl ?_)
                       | (with_reducible refine fI_is (a := ((F i0 + 1 : Nat) : Int)) rfl ?_)
                       | (refine fI_i64 (by first | omega | (simp only [Int.ofNat_eq_natCast] at *; omega)) ?_; intro z hz)
                       | (refine fI_u32 (by first | omega | (simp only [Int.ofNat_eq_natCast] at *; omega)) ?_; intro z hz)
                       | (refine fI_u8 (by first | omega | (simp only [Int.ofNat_eq_natCast] at *; omega)) ?_; intro z hz)
                       | (refine fI_u64 (by first | omega | (simp only [Int.ofNat_eq_natCast] at *; omega)) ?_; intro z hz)
                       | (refine fI_tdiv (by first | omega | (simp only [Int.ofNat_eq_natCast] at *; omega)) ?_; intro z hz)
                       | (refine fI_tmod (by first | omega | (simp only [Int.ofNat_eq_natCast] at *; omega)) ?_; intro z hz)
                       | (refine fI_gen ?_; intro z hz)
                       | (refine fO_gen ?_; intro z hz)
                       | (refine Exists.intro l (And.intro rfl (And.intro hr ?_)))
                       | (refine dec_true (by assumption) ?_)
                       | (refine dec_false (by assumption) ?_)
                       | (refine dec_split (fun h => ?_) (fun h => ?_))
                       | (apply silE)
                       | (refine Both.mk ?_ ?_)
                       | (refine And.intro rfl ?_)
                       | (exact And.intro rfl (And.intro rfl (And.intro rfl rfl)))
                       | (refine And.intro (by first | omega | ((simp only [decide_eq_true_eq, decide_eq_false_iff_not, Bool.and_eq_true, beq_iff_eq, Bool.not_eq_true', Bool.not_eq_false'] at *); omega) | (subst_vars; simp only [Int.ofNat_eq_natCast, tq_not, fq_not, tq_and, fq_and, tq_or, fq_or, tq_beq, fq_beq, tq_bne, fq_bne, tq_dec, fq_dec, one1, V.tup.injEq, V.agg.injEq, List.cons.injEq, V.int.injEq, V.bool.injEq, true_and, and_true, decide_eq_true_eq, decide_eq_false_iff_not, Bool.and_eq_true, Bool.and_eq_false_iff, Bool.or_eq_true, Bool.or_eq_false_iff, Bool.not_eq_true', Bool.not_eq_false', beq_iff_eq, wrap_u32, wrap_i64, wrap_u8, beq_eq_false_iff_ne, ne_eq, bne_iff_ne, bne_eq_false_iff_eq, eq_self, and_self, splice, V.cells, List.take_succ_cons, List.take_zero, List.take_nil, List.drop_zero, List.drop_succ_cons, List.drop_nil, List.cons_append, List.nil_append, List.append_nil, List.length_cons, List.length_nil, Nat.zero_add, Nat.reduceAdd, if_true, if_false, Bool.false_eq_true, beq_self_eq_true, decide_eq_decide, Bool.true_eq_false, or_false, false_or, or_true, true_or, and_false, false_and, not_true_eq_false, not_false_eq_true, Bool.and_true, Bool.true_and, Bool.not_true, Bool.not_false] at *; omega)) ?_)
                       | (refine Exists.intro _ (Exists.intro _ (And.intro rfl ?_)))
                       | (refine Exists.intro _ (And.intro rfl ?_))
                       | (refine Exists.intro _ (Exists.intro _ (Exists.intro _ (Exists.intro _ (And.intro rfl ?_)))))
                       | (refine ld_step rfl (by assumption) rfl ?_)
                       | (refine lds_step rfl (by assumption) rfl ?_)
                       | (refine fL_mk ?_)
                       | (refine fH_mk ?_)
                       | (refine fN_mk ?_)
                       | (refine fLB_mk ?_)
                       | (refine And.intro (by repeat (first | assumption | refine GLB_app ?_)) ?_)
                       | (refine ld_step rfl ((rd_x0 _ _ _ _ _).trans rfl) rfl ?_)
                       | (refine ld_step rfl ((rd_x1 _ _ _ _ _ _).trans rfl) rfl ?_)
                       | (refine ld_step rfl ((rd_x2 _ _ _ _ _ _ _).trans rfl) rfl ?_)
                       | (refine lds_step rfl ((rd_x0 _ _ _ _ _).trans rfl) rfl ?_)
                       | (refine lds_step rfl ((rd_x1 _ _ _ _ _ _).trans rfl) rfl ?_)
                       | (refine lds_step rfl ((rd_x2 _ _ _ _ _ _ _).trans rfl) rfl ?_)
                       | (refine mem_step (st_eq rfl rfl rfl rfl (wr_last _ _ _ _ rfl)) ?_)
                       | (refine drec_yes (by omega) ?_)
                       | (refine drec_no (by omega) ?_)
                       | (intro _)
                       | fail)
              all_goals (conv => whnf)
              all_goals
                subst hz
                exact kn hlt _ _ _ _ _ rfl ⟨by rw [hf1]; rfl, rfl, rfl, rfl, rfl⟩
            | false =>
              rw [if_neg (by rw [hb]; decide)] at hf1
              repeat' (conv => whnf
                       first
                       | (refine Stop.mk ?_)
                       | (refine fI_is w1 ?_)
                       | (refine fI_is ho1 ?_)
                       | (refine fO_is hb ?_)
                       | (with_reducible refine fI_is (a := atL l (T + i0)) rfl ?_)
                       | (with_reducible refine fI_is (a := ((T + i0 : Nat) : Int)) rfl ?_)
                       | (with_reducible refine fI_is (a := ((F i0 : Nat) : Int)) rfl ?_)
                       | (refine fI_i64 (by first | omega | (simp only [Int.ofNat_eq_natCast] at *; omega)) ?_; intro z hz)
                       | (refine fI_u32 (by first | omega | (simp only [Int.ofNat_eq_natCast] at *; omega)) ?_; intro z hz)
                       | (refine fI_u8 (by first | omega | (simp only [Int.ofNat_eq_natCast] at *; omega)) ?_; intro z hz)
                       | (refine fI_u64 (by first | omega | (simp only [Int.ofNat_eq_natCast] at *; omega)) ?_; intro z hz)
                       | (refine fI_tdiv (by first | omega | (simp only [Int.ofNat_eq_natCast] at *; omega)) ?_; intro z hz)
                       | (refine fI_tmod (by first | omega | (simp only [Int.ofNat_eq_natCast] at *; omega)) ?_; intro z hz)
                       | (refine fI_gen ?_; intro z hz)
                       | (refine fO_gen ?_; intro z hz)
                       | (refine Exists.intro l (And.intro rfl (And.intro hr ?_)))
                       | (refine dec_true (by assumption) ?_)
                       | (refine dec_false (by assumption) ?_)
                       | (refine dec_split (fun h => ?_) (fun h => ?_))
                       | (apply silE)
                       | (refine Both.mk ?_ ?_)
                       | (refine And.intro rfl ?_)
                       | (exact And.intro rfl (And.intro rfl (And.intro rfl rfl)))
                       | (refine And.intro (by first | omega | ((simp only [decide_eq_true_eq, decide_eq_false_iff_not, Bool.and_eq_true, beq_iff_eq, Bool.not_eq_true', Bool.not_eq_false'] at *); omega) | (subst_vars; simp only [Int.ofNat_eq_natCast, tq_not, fq_not, tq_and, fq_and, tq_or, fq_or, tq_beq, fq_beq, tq_bne, fq_bne, tq_dec, fq_dec, one1, V.tup.injEq, V.agg.injEq, List.cons.injEq, V.int.injEq, V.bool.injEq, true_and, and_true, decide_eq_true_eq, decide_eq_false_iff_not, Bool.and_eq_true, Bool.and_eq_false_iff, Bool.or_eq_true, Bool.or_eq_false_iff, Bool.not_eq_true', Bool.not_eq_false', beq_iff_eq, wrap_u32, wrap_i64, wrap_u8, beq_eq_false_iff_ne, ne_eq, bne_iff_ne, bne_eq_false_iff_eq, eq_self, and_self, splice, V.cells, List.take_succ_cons, List.take_zero, List.take_nil, List.drop_zero, List.drop_succ_cons, List.drop_nil, List.cons_append, List.nil_append, List.append_nil, List.length_cons, List.length_nil, Nat.zero_add, Nat.reduceAdd, if_true, if_false, Bool.false_eq_true, beq_self_eq_true, decide_eq_decide, Bool.true_eq_false, or_false, false_or, or_true, true_or, and_false, false_and, not_true_eq_false, not_false_eq_true, Bool.and_true, Bool.true_and, Bool.not_true, Bool.not_false] at *; omega)) ?_)
                       | (refine Exists.intro _ (Exists.intro _ (And.intro rfl ?_)))
                       | (refine Exists.intro _ (And.intro rfl ?_))
                       | (refine Exists.intro _ (Exists.intro _ (Exists.intro _ (Exists.intro _ (And.intro rfl ?_)))))
                       | (refine ld_step rfl (by assumption) rfl ?_)
                       | (refine lds_step rfl (by assumption) rfl ?_)
                       | (refine fL_mk ?_)
                       | (refine fH_mk ?_)
                       | (refine fN_mk ?_)
                       | (refine fLB_mk ?_)
                       | (refine And.intro (by repeat (first | assumption | refine GLB_app ?_)) ?_)
                       | (refine ld_step rfl ((rd_x0 _ _ _ _ _).trans rfl) rfl ?_)
                       | (refine ld_step rfl ((rd_x1 _ _ _ _ _ _).trans rfl) rfl ?_)
                       | (refine ld_step rfl ((rd_x2 _ _ _ _ _ _ _).trans rfl) rfl ?_)
                       | (refine lds_step rfl ((rd_x0 _ _ _ _ _).trans rfl) rfl ?_)
                       | (refine lds_step rfl ((rd_x1 _ _ _ _ _ _).trans rfl) rfl ?_)
                       | (refine lds_step rfl ((rd_x2 _ _ _ _ _ _ _).trans rfl) rfl ?_)
                       | (refine mem_step (st_eq rfl rfl rfl rfl (wr_last _ _ _ _ rfl)) ?_)
                       | (refine drec_yes (by omega) ?_)
                       | (refine drec_no (by omega) ?_)
                       | (intro _)
                       | fail)
              all_goals (conv => whnf)
              all_goals
                subst hz
                exact kn hlt _ _ _ _ _ rfl ⟨by rw [hf1]; rfl, rfl, rfl, rfl, rfl⟩
          · clear kn kr
            have hie : i0 = l.length := by have := of_decide_eq_false h; omega
            subst hie
            have hfl := hFle l.length
            obtain ⟨N, hN⟩ : ∃ N, N = F l.length := ⟨_, rfl⟩
            rw [← hN] at hcv hFp hfl
            rw [← hN]
            clear hFs hF0 hFle hN h
            by_cases hpos : w ∈ l
            · have hNp : 0 < N := hFp.2 hpos
              have hah : ∀ t, 0 ≤ ahV l w t := fun t => ah_mem.2 hpos
              obtain ⟨a, ha, hav, haw, han⟩ := ah_pos (by omega) (hah T)
              obtain ⟨a2, ha2, hav2, _, _⟩ := ah_pos (by omega) (hah (T + a + 1))
              have hn1 : nxP l w (T : Int) := ⟨may_of hR hw (by omega), hah _⟩
              have hn2 : nxP l w ((T + a + 1 : Nat) : Int) := ⟨may_of hR hw (by omega), hah _⟩
              have hv1 : (if nxP l w (T : Int) then (T : Int) + ahV l w ((T : Nat) : Int).toNat else 0) = ((T + a : Nat) : Int) := by
                rw [if_pos hn1, show ((T : Nat) : Int).toNat = T from rfl, hav]; omega
              have hv2 : (if nxP l w ((T + a + 1 : Nat) : Int) then ((T + a + 1 : Nat) : Int) + ahV l w (((T + a + 1 : Nat) : Int)).toNat else 0) = ((T + a + 1 + a2 : Nat) : Int) := by
                rw [if_pos hn2, show (((T + a + 1 : Nat) : Int)).toNat = T + a + 1 from rfl, hav2]; omega
              obtain ⟨W, hW⟩ : ∃ W, W = wtV l w l.length := ⟨_, rfl⟩
              have hwv : (if mayP l w [] then wtV l w l.length else -1) = W := by rw [if_pos hm, hW]
              have hWb := wtV_bd l w (by omega) l.length
              have hWg : (a : Int) ≤ W := by
                rw [hW, ← hav, ← ah_mod l w T]
                exact wt_ge l w l.length _ (Nat.mod_lt _ (by omega))
              rw [← hW] at hWb
              have hoa : ownV l ((T + a : Nat) : Int) = w := by rw [ho a (by omega), haw]
              have hol : ownV l ((T + a + l.length : Nat) : Int) = w := by rw [own_at hR (by omega), atL_len, haw]
              have w3 : IntKind.i64.wrap (((T + a : Nat) : Int) + 1) = ((T + a + 1 : Nat) : Int) := by rw [wrap_i64_id (by omega) (by omega)]; omega
              have w4 : IntKind.i64.wrap (((T + a : Nat) : Int) + (l.length : Int)) = ((T + a + l.length : Nat) : Int) := by rw [wrap_i64_id (by omega) (by omega)]; omega
              have w5 : IntKind.i64.wrap (((T + a : Nat) : Int) - (T : Int)) = (a : Int) := by rw [wrap_i64_id (by omega) (by omega)]; omega
              have w6 : IntKind.i64.wrap (((T + a + 1 + a2 : Nat) : Int) - ((T + a : Nat) : Int)) = ((a2 + 1 : Nat) : Int) := by rw [wrap_i64_id (by omega) (by omega)]; omega
              repeat' (conv => whnf
                       first
                       | (refine Stop.mk ?_)
                       | (refine fI_is hv1 ?_)
                       | (refine fO_is (decide_eq_true hn1) ?_)
                       | (refine fI_is hcv ?_)
                       | (refine fI_is hwv ?_)
                       | (refine fI_is hoa ?_)
                       | (refine fI_is w5 ?_)
                       | (with_reducible refine fI_is (a := ((T + a : Nat) : Int)) rfl ?_)
                       | (with_reducible refine fI_is (a := (a : Int)) rfl ?_)
                       | (with_reducible refine fI_is (a := (N : Int)) rfl ?_)
                       | (with_reducible refine fI_is (a := W) rfl ?_)
                       | (with_reducible refine fI_is (a := w) rfl ?_)
                       | (with_reducible refine fI_is (a := (l.length : Int)) rfl ?_)
                       | (with_reducible refine fI_is (a := (T : Int)) rfl ?_)
                       | (refine fO_is (bne_self_eq_false _) ?_)
                       | (refine fI_gen ?_; intro z hz)
                       | (refine fO_gen ?_; intro z hz)
                       | (refine kx _ _ _ _ _ _ ?_; clear kx)
                       | (refine Exists.intro l (And.intro rfl (And.intro hc (And.intro hr ?_))))
                       | (refine Exists.intro l (And.intro rfl (And.intro hr ?_)))
                       | (refine dec_true (by assumption) ?_)
                       | (refine dec_false (by assumption) ?_)
                       | ((with_reducible refine dec_trueH ?tst ?_); (case tst => (first | rfl | ((try clear hC); (try clear kn); (try clear kx); (try clear kr); (try clear kn1); (try clear kx1); (try clear kr1); (try clear kn2); (try clear kx2); (try clear kr2); (try clear kn3); (try clear kx3); (try clear kr3); subst_vars; simp only [Int.ofNat_eq_natCast, tq_not, fq_not, tq_and, fq_and, tq_or, fq_or, tq_beq, fq_beq, tq_bne, fq_bne, tq_dec, fq_dec, one1, V.tup.injEq, V.agg.injEq, List.cons.injEq, V.int.injEq, V.bool.injEq, true_and, and_true, decide_eq_true_eq, decide_eq_false_iff_not, Bool.and_eq_true, Bool.and_eq_false_iff, Bool.or_eq_true, Bool.or_eq_false_iff, Bool.not_eq_true', Bool.not_eq_false', beq_iff_eq, wrap_u32, wrap_i64, wrap_u8, beq_eq_false_iff_ne, ne_eq, bne_iff_ne, bne_eq_false_iff_eq, eq_self, and_self, splice, V.cells, List.take_succ_cons, List.take_zero, List.take_nil, List.drop_zero, List.drop_succ_cons, List.drop_nil, List.cons_append, List.nil_append, List.append_nil, List.length_cons, List.length_nil, Nat.zero_add, Nat.reduceAdd, if_true, if_false, Bool.false_eq_true, beq_self_eq_true, decide_eq_decide, Bool.true_eq_false, or_false, false_or, or_true, true_or, and_false, false_and, not_true_eq_false, not_false_eq_true, Bool.and_true, Bool.true_and, Bool.not_true, Bool.not_false] at *; first | done | assumption | omega))); intro h)
                       | ((with_reducible refine dec_falseH ?tst ?_); (case tst => (first | rfl | ((try clear hC); (try clear kn); (try clear kx); (try clear kr); (try clear kn1); (try clear kx1); (try clear kr1); (try clear kn2); (try clear kx2); (try clear kr2); (try clear kn3); (try clear kx3); (try clear kr3); subst_vars; simp only [Int.ofNat_eq_natCast, tq_not, fq_not, tq_and, fq_and, tq_or, fq_or, tq_beq, fq_beq, tq_bne, fq_bne, tq_dec, fq_dec, one1, V.tup.injEq, V.agg.injEq, List.cons.injEq, V.int.injEq, V.bool.injEq, true_and, and_true, decide_eq_true_eq, decide_eq_false_iff_not, Bool.and_eq_true, Bool.and_eq_false_iff, Bool.or_eq_true, Bool.or_eq_false_iff, Bool.not_eq_true', Bool.not_eq_false', beq_iff_eq, wrap_u32, wrap_i64, wrap_u8, beq_eq_false_iff_ne, ne_eq, bne_iff_ne, bne_eq_false_iff_eq, eq_self, and_self, splice, V.cells, List.take_succ_cons, List.take_zero, List.take_nil, List.drop_zero, List.drop_succ_cons, List.drop_nil, List.cons_append, List.nil_append, List.append_nil, List.length_cons, List.length_nil, Nat.zero_add, Nat.reduceAdd, if_true, if_false, Bool.false_eq_true, beq_self_eq_true, decide_eq_decide, Bool.true_eq_false, or_false, false_or, or_true, true_or, and_false, false_and, not_true_eq_false, not_false_eq_true, Bool.and_true, Bool.true_and, Bool.not_true, Bool.not_false] at *; first | done | assumption | omega))); intro h)
                       | (refine dec_split (fun h => ?_) (fun h => ?_))
                       | (apply silE)
                       | (refine Both.mk ?_ ?_)
                       | (refine And.intro rfl ?_)
                       | (exact And.intro rfl (And.intro rfl (And.intro rfl rfl)))
                       | (refine And.intro (by first | omega | ((simp only [decide_eq_true_eq, decide_eq_false_iff_not, Bool.and_eq_true, beq_iff_eq, Bool.not_eq_true', Bool.not_eq_false'] at *); omega) | (subst_vars; simp only [Int.ofNat_eq_natCast, tq_not, fq_not, tq_and, fq_and, tq_or, fq_or, tq_beq, fq_beq, tq_bne, fq_bne, tq_dec, fq_dec, one1, V.tup.injEq, V.agg.injEq, List.cons.injEq, V.int.injEq, V.bool.injEq, true_and, and_true, decide_eq_true_eq, decide_eq_false_iff_not, Bool.and_eq_true, Bool.and_eq_false_iff, Bool.or_eq_true, Bool.or_eq_false_iff, Bool.not_eq_true', Bool.not_eq_false', beq_iff_eq, wrap_u32, wrap_i64, wrap_u8, beq_eq_false_iff_ne, ne_eq, bne_iff_ne, bne_eq_false_iff_eq, eq_self, and_self, splice, V.cells, List.take_succ_cons, List.take_zero, List.take_nil, List.drop_zero, List.drop_succ_cons, List.drop_nil, List.cons_append, List.nil_append, List.append_nil, List.length_cons, List.length_nil, Nat.zero_add, Nat.reduceAdd, if_true, if_false, Bool.false_eq_true, beq_self_eq_true, decide_eq_decide, Bool.true_eq_false, or_false, false_or, or_true, true_or, and_false, false_and, not_true_eq_false, not_false_eq_true, Bool.and_true, Bool.true_and, Bool.not_true, Bool.not_false] at *; omega)) ?_)
                       | (refine Exists.intro _ (Exists.intro _ (And.intro rfl ?_)))
                       | (refine Exists.intro _ (And.intro rfl ?_))
                       | (refine Exists.intro _ (Exists.intro _ (Exists.intro _ (Exists.intro _ (And.intro rfl ?_)))))
                       | (refine ld_step rfl (by assumption) rfl ?_)
                       | (refine lds_step rfl (by assumption) rfl ?_)
                       | (refine fL_mk ?_)
                       | (refine fH_mk ?_)
                       | (refine fN_mk ?_)
                       | (refine fLB_mk ?_)
                       | (refine And.intro (by repeat (first | assumption | refine GLB_app ?_)) ?_)
                       | (refine ld_step rfl ((rd_x0 _ _ _ _ _).trans rfl) rfl ?_)
                       | (refine ld_step rfl ((rd_x1 _ _ _ _ _ _).trans rfl) rfl ?_)
                       | (refine ld_step rfl ((rd_x2 _ _ _ _ _ _ _).trans rfl) rfl ?_)
                       | (refine lds_step rfl ((rd_x0 _ _ _ _ _).trans rfl) rfl ?_)
                       | (refine lds_step rfl ((rd_x1 _ _ _ _ _ _).trans rfl) rfl ?_)
                       | (refine lds_step rfl ((rd_x2 _ _ _ _ _ _ _).trans rfl) rfl ?_)
                       | (refine mem_step (st_eq rfl rfl rfl rfl (wr_last _ _ _ _ rfl)) ?_)
                       | (refine drec_yes (by omega) ?_)
                       | (refine drec_no (by omega) ?_)
                       | (intro _)
                       | fail)
              conv => whnf
              repeat' (conv => whnf
                       first
                       | (refine Stop.mk ?_)
                       | (refine fI_mk ?_)
                       | (refine fO_mk ?_)
                       | (refine fN_mk ?_)
                       | fail)
              conv => whnf
              refine rLoop_ctrF (T := T) (c := rC (tab [(5, s5), (6, s6), (7, s7), (9, s9), (8, s8), (10, s10)]) k l3_1) a 11 (false :: false :: false :: false :: false :: false :: true :: false :: false :: false :: false :: false :: false :: false :: false :: false :: false :: false :: false :: false :: false :: false :: false :: false :: false :: false :: false :: false :: false :: false :: false :: false :: false :: false :: false :: false :: false :: false :: false :: false :: false :: false :: false :: false :: false :: false :: false :: false :: false :: false :: false :: false :: false :: false :: false :: false :: false :: false :: false :: false :: false :: false :: false :: false :: false :: false :: false :: false :: false :: false :: false :: false :: false :: false :: false :: false :: false :: false :: false :: false :: false :: false :: false :: false :: false :: false :: false :: false :: false :: false :: false :: false :: false :: false :: false :: false :: false :: false :: false :: false :: false :: false :: false :: false :: false :: false :: false :: false :: false :: false :: false :: false :: false :: false :: true :: true :: true :: true :: true :: true :: true :: true :: true :: true :: false :: false :: false :: false :: false :: false :: false :: false :: false :: false :: false :: false :: false :: false :: false :: false :: false :: false :: false :: false :: false :: false :: false :: false :: false :: false :: false :: false :: false :: []) (fun i tm L H e g => L = [] ∧ H = H' ∧ e = false ∧ g = false) (by omega) rfl ⟨rfl, rfl, rfl, rfl⟩ ?_
              intro i1 hi1
              conv => whnf
              intro j
              conv => whnf
              intro j
              conv => whnf
              intro j
              conv => whnf
              intro j
              conv => whnf
              intro j
              conv => whnf
              intro j
              conv => whnf
              intro j
              conv => whnf
              intro j
              conv => whnf
              intro j
              conv => whnf
              intro j
              conv => whnf
              intro j
              conv => whnf
              refine Halt.mk ?_
              rintro L H2 e g ⟨rfl, rfl, rfl, rfl⟩ K kn kx kr
              repeat' (conv => whnf
                       first
                       | (refine Stop.mk ?_)
                       | (refine fI_mk ?_)
                       | (refine fO_mk ?_)
                       | (refine fN_mk ?_)
                       | fail)
              conv => whnf
              refine dec_split (fun h => ?_) (fun h => ?_)
              · have hlt : i1 < a := by have := of_decide_eq_true h; omega
                clear kx kr
                have ho1 := ho i1 (by omega)
                have hne : (atL l (T + i1) == w) = false := by simpa using han i1 hlt
                have w7 : IntKind.i64.wrap (((T + i1 : Nat) : Int) + 1) = ((T + (i1 + 1) : Nat) : Int) := by rw [wrap_i64_id (by omega) (by omega)]; omega
                repeat' (conv => whnf
                         first
                         | (refine Stop.mk ?_)
                         | (refine fI_is ho1 ?_)
                         | (refine fO_is hne ?_)
                         | (refine fI_is w7 ?_)
                         | (with_reducible refine fI_is (a := atL l (T + i1)) rfl ?_)
                         | (with_reducible refine fI_is (a := ((T + i1 : Nat) : Int)) rfl ?_)
                         | (with_reducible refine fI_is (a := ((T + (i1 + 1) : Nat) : Int)) rfl ?_)
                         | (with_reducible refine fI_is (a := w) rfl ?_)
                         | (refine fI_gen ?_; intro z hz)
                         | (refine fO_gen ?_; intro z hz)
                         | (refine Exists.intro l (And.intro rfl (And.intro hr ?_)))
                         | (refine dec_true (by assumption) ?_)
                         | (refine dec_false (by assumption) ?_)
                         | (refine dec_split (fun h => ?_) (fun h => ?_))
                         | (apply silE)
                         | (refine Both.mk ?_ ?_)
                         | (refine And.intro rfl ?_)
                         | (exact And.intro rfl (And.intro rfl (And.intro rfl rfl)))
                         | (refine And.intro (by first | omega | ((simp only [decide_eq_true_eq, decide_eq_false_iff_not, Bool.and_eq_true, beq_iff_eq, Bool.not_eq_true', Bool.not_eq_false'] at *); omega) | (subst_vars; simp only [Int.ofNat_eq_natCast, tq_not, fq_not, tq_and, fq_and, tq_or, fq_or, tq_beq, fq_beq, tq_bne, fq_bne, tq_dec, fq_dec, one1, V.tup.injEq, V.agg.injEq, List.cons.injEq, V.int.injEq, V.bool.injEq, true_and, and_true, decide_eq_true_eq, decide_eq_false_iff_not, Bool.and_eq_true, Bool.and_eq_false_iff, Bool.or_eq_true, Bool.or_eq_false_iff, Bool.not_eq_true', Bool.not_eq_false', beq_iff_eq, wrap_u32, wrap_i64, wrap_u8, beq_eq_false_iff_ne, ne_eq, bne_iff_ne, bne_eq_false_iff_eq, eq_self, and_self, splice, V.cells, List.take_succ_cons, List.take_zero, List.take_nil, List.drop_zero, List.drop_succ_cons, List.drop_nil, List.cons_append, List.nil_append, List.append_nil, List.length_cons, List.length_nil, Nat.zero_add, Nat.reduceAdd, if_true, if_false, Bool.false_eq_true, beq_self_eq_true, decide_eq_decide, Bool.true_eq_false, or_false, false_or, or_true, true_or, and_false, false_and, not_true_eq_false, not_false_eq_true, Bool.and_true, Bool.true_and, Bool.not_true, Bool.not_false] at *; omega)) ?_)
                         | (refine Exists.intro _ (Exists.intro _ (And.intro rfl ?_)))
                         | (refine Exists.intro _ (And.intro rfl ?_))
                         | (refine Exists.intro _ (Exists.intro _ (Exists.intro _ (Exists.intro _ (And.intro rfl ?_)))))
                         | (refine ld_step rfl (by assumption) rfl ?_)
                         | (refine lds_step rfl (by assumption) rfl ?_)
                         | (refine fL_mk ?_)
                         | (refine fH_mk ?_)
                         | (refine fN_mk ?_)
                         | (refine fLB_mk ?_)
                         | (refine And.intro (by repeat (first | assumption | refine GLB_app ?_)) ?_)
                         | (refine ld_step rfl ((rd_x0 _ _ _ _ _).trans rfl) rfl ?_)
                         | (refine ld_step rfl ((rd_x1 _ _ _ _ _ _).trans rfl) rfl ?_)
                         | (refine ld_step rfl ((rd_x2 _ _ _ _ _ _ _).trans rfl) rfl ?_)
                         | (refine lds_step rfl ((rd_x0 _ _ _ _ _).trans rfl) rfl ?_)
                         | (refine lds_step rfl ((rd_x1 _ _ _ _ _ _).trans rfl) rfl ?_)
                         | (refine lds_step rfl ((rd_x2 _ _ _ _ _ _ _).trans rfl) rfl ?_)
                         | (refine mem_step (st_eq rfl rfl rfl rfl (wr_last _ _ _ _ rfl)) ?_)
                         | (refine drec_yes (by omega) ?_)
                         | (refine drec_no (by omega) ?_)
                         | (intro _)
                         | fail)
                all_goals (conv => whnf)
                all_goals exact kn hlt _ _ _ _ _ rfl ⟨rfl, rfl, rfl, rfl⟩
              · clear kn kr
                have hie : i1 = a := by have := of_decide_eq_false h; omega
                subst hie
                repeat' (conv => whnf
                         first
                         | (refine Stop.mk ?_)
                         | (refine fI_is hv2 ?_)
                         | (refine fO_is (decide_eq_true hn2) ?_)
                         | (refine fI_is hol ?_)
                         | (refine fI_is w3 ?_)
                         | (refine fI_is w4 ?_)
                         | (refine fI_is w6 ?_)
                         | (with_reducible refine fI_is (a := ((T + i1 : Nat) : Int)) rfl ?_)
                         | (with_reducible refine fI_is (a := ((T + i1 + 1 : Nat) : Int)) rfl ?_)
                         | (with_reducible refine fI_is (a := ((T + i1 + l.length : Nat) : Int)) rfl ?_)
                         | (with_reducible refine fI_is (a := ((T + i1 + 1 + a2 : Nat) : Int)) rfl ?_)
                         | (with_reducible refine fI_is (a := ((a2 + 1 : Nat) : Int)) rfl ?_)
                         | (with_reducible refine fI_is (a := w) rfl ?_)
                         | (with_reducible refine fI_is (a := (l.length : Int)) rfl ?_)
                         | (refine fO_is (beq_self_eq_true _) ?_)
                         | (refine fI_gen ?_; intro z hz)
                         | (refine fO_gen ?_; intro z hz)
                         | (refine kx _ _ _ _ _ _ ?_; clear kx)
                         | (refine Exists.intro l (And.intro rfl (And.intro hc (And.intro hr ?_))))
                         | (refine Exists.intro l (And.intro rfl (And.intro hr ?_)))
                         | (refine dec_true (by assumption) ?_)
                         | (refine dec_false (by assumption) ?_)
                         | ((with_reducible refine dec_trueH ?tst ?_); (case tst => (first | rfl | ((try clear hC); (try clear kn); (try clear kx); (try clear kr); (try clear kn1); (try clear kx1); (try clear kr1); (try clear kn2); (try clear kx2); (try clear kr2); (try clear kn3); (try clear kx3); (try clear kr3); subst_vars; simp only [Int.ofNat_eq_natCast, tq_not, fq_not, tq_and, fq_and, tq_or, fq_or, tq_beq, fq_beq, tq_bne, fq_bne, tq_dec, fq_dec, one1, V.tup.injEq, V.agg.injEq, List.cons.injEq, V.int.injEq, V.bool.injEq, true_and, and_true, decide_eq_true_eq, decide_eq_false_iff_not, Bool.and_eq_true, Bool.and_eq_false_iff, Bool.or_eq_true, Bool.or_eq_false_iff, Bool.not_eq_true', Bool.not_eq_false', beq_iff_eq, wrap_u32, wrap_i64, wrap_u8, beq_eq_false_iff_ne, ne_eq, bne_iff_ne, bne_eq_false_iff_eq, eq_self, and_self, splice, V.cells, List.take_succ_cons, List.take_zero, List.take_nil, List.drop_zero, List.drop_succ_cons, List.drop_nil, List.cons_append, List.nil_append, List.append_nil, List.length_cons, List.length_nil, Nat.zero_add, Nat.reduceAdd, if_true, if_false, Bool.false_eq_true, beq_self_eq_true, decide_eq_decide, Bool.true_eq_false, or_false, false_or, or_true, true_or, and_false, false_and, not_true_eq_false, not_false_eq_true, Bool.and_true, Bool.true_and, Bool.not_true, Bool.not_false] at *; first | done | assumption | omega))); intro h)
                         | ((with_reducible refine dec_falseH ?tst ?_); (case tst => (first | rfl | ((try clear hC); (try clear kn); (try clear kx); (try clear kr); (try clear kn1); (try clear kx1); (try clear kr1); (try clear kn2); (try clear kx2); (try clear kr2); (try clear kn3); (try clear kx3); (try clear kr3); subst_vars; simp only [Int.ofNat_eq_natCast, tq_not, fq_not, tq_and, fq_and, tq_or, fq_or, tq_beq, fq_beq, tq_bne, fq_bne, tq_dec, fq_dec, one1, V.tup.injEq, V.agg.injEq, List.cons.injEq, V.int.injEq, V.bool.injEq, true_and, and_true, decide_eq_true_eq, decide_eq_false_iff_not, Bool.and_eq_true, Bool.and_eq_false_iff, Bool.or_eq_true, Bool.or_eq_false_iff, Bool.not_eq_true', Bool.not_eq_false', beq_iff_eq, wrap_u32, wrap_i64, wrap_u8, beq_eq_false_iff_ne, ne_eq, bne_iff_ne, bne_eq_false_iff_eq, eq_self, and_self, splice, V.cells, List.take_succ_cons, List.take_zero, List.take_nil, List.drop_zero, List.drop_succ_cons, List.drop_nil, List.cons_append, List.nil_append, List.append_nil, List.length_cons, List.length_nil, Nat.zero_add, Nat.reduceAdd, if_true, if_false, Bool.false_eq_true, beq_self_eq_true, decide_eq_decide, Bool.true_eq_false, or_false, false_or, or_true, true_or, and_false, false_and, not_true_eq_false, not_false_eq_true, Bool.and_true, Bool.true_and, Bool.not_true, Bool.not_false] at *; first | done | assumption | omega))); intro h)
                         | (refine dec_split (fun h => ?_) (fun h => ?_))
                         | (apply silE)
                         | (refine Both.mk ?_ ?_)
                         | (refine And.intro rfl ?_)
                         | (exact And.intro rfl (And.intro rfl (And.intro rfl rfl)))
                         | (refine And.intro (by first | omega | ((simp only [decide_eq_true_eq, decide_eq_false_iff_not, Bool.and_eq_true, beq_iff_eq, Bool.not_eq_true', Bool.not_eq_false'] at *); omega) | (subst_vars; simp only [Int.ofNat_eq_natCast, tq_not, fq_not, tq_and, fq_and, tq_or, fq_or, tq_beq, fq_beq, tq_bne, fq_bne, tq_dec, fq_dec, one1, V.tup.injEq, V.agg.injEq, List.cons.injEq, V.int.injEq, V.bool.injEq, true_and, and_true, decide_eq_true_eq, decide_eq_false_iff_not, Bool.and_eq_true, Bool.and_eq_false_iff, Bool.or_eq_true, Bool.or_eq_false_iff, Bool.not_eq_true', Bool.not_eq_false', beq_iff_eq, wrap_u32, wrap_i64, wrap_u8, beq_eq_false_iff_ne, ne_eq, bne_iff_ne, bne_eq_false_iff_eq, eq_self, and_self, splice, V.cells, List.take_succ_cons, List.take_zero, List.take_nil, List.drop_zero, List.drop_succ_cons, List.drop_nil, List.cons_append, List.nil_append, List.append_nil, List.length_cons, List.length_nil, Nat.zero_add, Nat.reduceAdd, if_true, if_false, Bool.false_eq_true, beq_self_eq_true, decide_eq_decide, Bool.true_eq_false, or_false, false_or, or_true, true_or, and_false, false_and, not_true_eq_false, not_false_eq_true, Bool.and_true, Bool.true_and, Bool.not_true, Bool.not_false] at *; omega)) ?_)
                         | (refine Exists.intro _ (Exists.intro _ (And.intro rfl ?_)))
                         | (refine Exists.intro _ (And.intro rfl ?_))
                         | (refine Exists.intro _ (Exists.intro _ (Exists.intro _ (Exists.intro _ (And.intro rfl ?_)))))
                         | (refine ld_step rfl (by assumption) rfl ?_)
                         | (refine lds_step rfl (by assumption) rfl ?_)
                         | (refine fL_mk ?_)
                         | (refine fH_mk ?_)
                         | (refine fN_mk ?_)
                         | (refine fLB_mk ?_)
                         | (refine And.intro (by repeat (first | assumption | refine GLB_app ?_)) ?_)
                         | (refine ld_step rfl ((rd_x0 _ _ _ _ _).trans rfl) rfl ?_)
                         | (refine ld_step rfl ((rd_x1 _ _ _ _ _ _).trans rfl) rfl ?_)
                         | (refine ld_step rfl ((rd_x2 _ _ _ _ _ _ _).trans rfl) rfl ?_)
                         | (refine lds_step rfl ((rd_x0 _ _ _ _ _).trans rfl) rfl ?_)
                         | (refine lds_step rfl ((rd_x1 _ _ _ _ _ _).trans rfl) rfl ?_)
                         | (refine lds_step rfl ((rd_x2 _ _ _ _ _ _ _).trans rfl) rfl ?_)
                         | (refine mem_step (st_eq rfl rfl rfl rfl (wr_last _ _ _ _ rfl)) ?_)
                         | (refine drec_yes (by omega) ?_)
                         | (refine drec_no (by omega) ?_)
                         | (intro _)
                         | fail)
                all_goals (conv => whnf)
                all_goals exact leafE hq rfl
            · have hNp : N = 0 := by
                have h2 : ¬ 0 < N := fun h => hpos (hFp.1 h)
                omega
              subst hNp
              have hnah : ∀ t, ¬ 0 ≤ ahV l w t := fun t h => hpos (ah_mem.1 h)
              have hah : ∀ t, ahV l w t = -1 := fun t => by have := hnah t; have := ahV_bd l w t; omega
              have hn1 : ¬ nxP l w (T : Int) := fun h => hnah _ h.2
              have hwv : (if mayP l w [] then wtV l w l.length else -1) = -1 := by rw [if_pos hm]; exact wt_neg l w hah _
              repeat' (conv => whnf
                       first
                       | (refine Stop.mk ?_)
                       | (refine fI_is (if_neg hn1) ?_)
                       | (refine fO_is (decide_eq_false hn1) ?_)
                       | (refine fI_is hcv ?_)
                       | (refine fI_is hwv ?_)
                       | (with_reducible refine fI_is (a := w) rfl ?_)
                       | (with_reducible refine fI_is (a := (l.length : Int)) rfl ?_)
                       | (with_reducible refine fI_is (a := (T : Int)) rfl ?_)
                       | (refine fI_gen ?_; intro z hz)
                       | (refine fO_gen ?_; intro z hz)
                       | (refine kx _ _ _ _ _ _ ?_; clear kx)
                       | (refine Exists.intro l (And.intro rfl (And.intro hc (And.intro hr ?_))))
                       | (refine Exists.intro l (And.intro rfl (And.intro hr ?_)))
                       | (refine dec_true (by assumption) ?_)
                       | (refine dec_false (by assumption) ?_)
                       | ((with_reducible refine dec_trueH ?tst ?_); (case tst => (first | rfl | ((try clear hC); (try clear kn); (try clear kx); (try clear kr); (try clear kn1); (try clear kx1); (try clear kr1); (try clear kn2); (try clear kx2); (try clear kr2); (try clear kn3); (try clear kx3); (try clear kr3); subst_vars; simp only [Int.ofNat_eq_natCast, tq_not, fq_not, tq_and, fq_and, tq_or, fq_or, tq_beq, fq_beq, tq_bne, fq_bne, tq_dec, fq_dec, one1, V.tup.injEq, V.agg.injEq, List.cons.injEq, V.int.injEq, V.bool.injEq, true_and, and_true, decide_eq_true_eq, decide_eq_false_iff_not, Bool.and_eq_true, Bool.and_eq_false_iff, Bool.or_eq_true, Bool.or_eq_false_iff, Bool.not_eq_true', Bool.not_eq_false', beq_iff_eq, wrap_u32, wrap_i64, wrap_u8, beq_eq_false_iff_ne, ne_eq, bne_iff_ne, bne_eq_false_iff_eq, eq_self, and_self, splice, V.cells, List.take_succ_cons, List.take_zero, List.take_nil, List.drop_zero, List.drop_succ_cons, List.drop_nil, List.cons_append, List.nil_append, List.append_nil, List.length_cons, List.length_nil, Nat.zero_add, Nat.reduceAdd, if_true, if_false, Bool.false_eq_true, beq_self_eq_true, decide_eq_decide, Bool.true_eq_false, or_false, false_or, or_true, true_or, and_false, false_and, not_true_eq_false, not_false_eq_true, Bool.and_true, Bool.true_and, Bool.not_true, Bool.not_false] at *; first | done | assumption | omega))); intro h)
                       | ((with_reducible refine dec_falseH ?tst ?_); (case tst => (first | rfl | ((try clear hC); (try clear kn); (try clear kx); (try clear kr); (try clear kn1); (try clear kx1); (try clear kr1); (try clear kn2); (try clear kx2); (try clear kr2); (try clear kn3); (try clear kx3); (try clear kr3); subst_vars; simp only [Int.ofNat_eq_natCast, tq_not, fq_not, tq_and, fq_and, tq_or, fq_or, tq_beq, fq_beq, tq_bne, fq_bne, tq_dec, fq_dec, one1, V.tup.injEq, V.agg.injEq, List.cons.injEq, V.int.injEq, V.bool.injEq, true_and, and_true, decide_eq_true_eq, decide_eq_false_iff_not, Bool.and_eq_true, Bool.and_eq_false_iff, Bool.or_eq_true, Bool.or_eq_false_iff, Bool.not_eq_true', Bool.not_eq_false', beq_iff_eq, wrap_u32, wrap_i64, wrap_u8, beq_eq_false_iff_ne, ne_eq, bne_iff_ne, bne_eq_false_iff_eq, eq_self, and_self, splice, V.cells, List.take_succ_cons, List.take_zero, List.take_nil, List.drop_zero, List.drop_succ_cons, List.drop_nil, List.cons_append, List.nil_append, List.append_nil, List.length_cons, List.length_nil, Nat.zero_add, Nat.reduceAdd, if_true, if_false, Bool.false_eq_true, beq_self_eq_true, decide_eq_decide, Bool.true_eq_false, or_false, false_or, or_true, true_or, and_false, false_and, not_true_eq_false, not_false_eq_true, Bool.and_true, Bool.true_and, Bool.not_true, Bool.not_false] at *; first | done | assumption | omega))); intro h)
                       | (refine dec_split (fun h => ?_) (fun h => ?_))
                       | (apply silE)
                       | (refine Both.mk ?_ ?_)
                       | (refine And.intro rfl ?_)
                       | (exact And.intro rfl (And.intro rfl (And.intro rfl rfl)))
                       | (refine And.intro (by first | omega | ((simp only [decide_eq_true_eq, decide_eq_false_iff_not, Bool.and_eq_true, beq_iff_eq, Bool.not_eq_true', Bool.not_eq_false'] at *); omega) | (subst_vars; simp only [Int.ofNat_eq_natCast, tq_not, fq_not, tq_and, fq_and, tq_or, fq_or, tq_beq, fq_beq, tq_bne, fq_bne, tq_dec, fq_dec, one1, V.tup.injEq, V.agg.injEq, List.cons.injEq, V.int.injEq, V.bool.injEq, true_and, and_true, decide_eq_true_eq, decide_eq_false_iff_not, Bool.and_eq_true, Bool.and_eq_false_iff, Bool.or_eq_true, Bool.or_eq_false_iff, Bool.not_eq_true', Bool.not_eq_false', beq_iff_eq, wrap_u32, wrap_i64, wrap_u8, beq_eq_false_iff_ne, ne_eq, bne_iff_ne, bne_eq_false_iff_eq, eq_self, and_self, splice, V.cells, List.take_succ_cons, List.take_zero, List.take_nil, List.drop_zero, List.drop_succ_cons, List.drop_nil, List.cons_append, List.nil_append, List.append_nil, List.length_cons, List.length_nil, Nat.zero_add, Nat.reduceAdd, if_true, if_false, Bool.false_eq_true, beq_self_eq_true, decide_eq_decide, Bool.true_eq_false, or_false, false_or, or_true, true_or, and_false, false_and, not_true_eq_false, not_false_eq_true, Bool.and_true, Bool.true_and, Bool.not_true, Bool.not_false] at *; omega)) ?_)
                       | (refine Exists.intro _ (Exists.intro _ (And.intro rfl ?_)))
                       | (refine Exists.intro _ (And.intro rfl ?_))
                       | (refine Exists.intro _ (Exists.intro _ (Exists.intro _ (Exists.intro _ (And.intro rfl ?_)))))
                       | (refine ld_step rfl (by assumption) rfl ?_)
                       | (refine lds_step rfl (by assumption) rfl ?_)
                       | (refine fL_mk ?_)
                       | (refine fH_mk ?_)
                       | (refine fN_mk ?_)
                       | (refine fLB_mk ?_)
                       | (refine And.intro (by repeat (first | assumption | refine GLB_app ?_)) ?_)
                       | (refine ld_step rfl ((rd_x0 _ _ _ _ _).trans rfl) rfl ?_)
                       | (refine ld_step rfl ((rd_x1 _ _ _ _ _ _).trans rfl) rfl ?_)
                       | (refine ld_step rfl ((rd_x2 _ _ _ _ _ _ _).trans rfl) rfl ?_)
                       | (refine lds_step rfl ((rd_x0 _ _ _ _ _).trans rfl) rfl ?_)
                       | (refine lds_step rfl ((rd_x1 _ _ _ _ _ _).trans rfl) rfl ?_)
                       | (refine lds_step rfl ((rd_x2 _ _ _ _ _ _ _).trans rfl) rfl ?_)
                       | (refine mem_step (st_eq rfl rfl rfl rfl (wr_last _ _ _ _ rfl)) ?_)
                       | (refine drec_yes (by omega) ?_)
                       | (refine drec_no (by omega) ?_)
                       | (intro _)
                       | fail)
              all_goals (conv => whnf)
              all_goals exact leafE hq rfl
        · repeat' (conv => whnf
                   first
                   | (refine Stop.mk ?_)
                   | (refine fO_is (decide_eq_true hR) ?_)
                   | (with_reducible refine fI_is (a := (l.length : Int)) rfl ?_)
                   | (with_reducible refine fI_is (a := w) rfl ?_)
                   | (with_reducible refine fI_is (a := t) rfl ?_)
                   | (refine fI_gen ?_; intro z hz)
                   | (refine fO_gen ?_; intro z hz)
                   | (refine Exists.intro l (And.intro rfl (And.intro hr ?_)))
                   | (refine dec_true (by assumption) ?_)
                   | (refine dec_false (by assumption) ?_)
                   | ((with_reducible refine dec_trueH ?tst ?_); (case tst => (first | rfl | ((try clear hC); (try clear kn); (try clear kx); (try clear kr); (try clear kn1); (try clear kx1); (try clear kr1); (try clear kn2); (try clear kx2); (try clear kr2); (try clear kn3); (try clear kx3); (try clear kr3); subst_vars; simp only [Int.ofNat_eq_natCast, tq_not, fq_not, tq_and, fq_and, tq_or, fq_or, tq_beq, fq_beq, tq_bne, fq_bne, tq_dec, fq_dec, one1, V.tup.injEq, V.agg.injEq, List.cons.injEq, V.int.injEq, V.bool.injEq, true_and, and_true, decide_eq_true_eq, decide_eq_false_iff_not, Bool.and_eq_true, Bool.and_eq_false_iff, Bool.or_eq_true, Bool.or_eq_false_iff, Bool.not_eq_true', Bool.not_eq_false', beq_iff_eq, wrap_u32, wrap_i64, wrap_u8, beq_eq_false_iff_ne, ne_eq, bne_iff_ne, bne_eq_false_iff_eq, eq_self, and_self, splice, V.cells, List.take_succ_cons, List.take_zero, List.take_nil, List.drop_zero, List.drop_succ_cons, List.drop_nil, List.cons_append, List.nil_append, List.append_nil, List.length_cons, List.length_nil, Nat.zero_add, Nat.reduceAdd, if_true, if_false, Bool.false_eq_true, beq_self_eq_true, decide_eq_decide, Bool.true_eq_false, or_false, false_or, or_true, true_or, and_false, false_and, not_true_eq_false, not_false_eq_true, Bool.and_true, Bool.true_and, Bool.not_true, Bool.not_false] at *; first | done | assumption | omega))); intro h)
                   | ((with_reducible refine dec_falseH ?tst ?_); (case tst => (first | rfl | ((try clear hC); (try clear kn); (try clear kx); (try clear kr); (try clear kn1); (try clear kx1); (try clear kr1); (try clear kn2); (try clear kx2); (try clear kr2); (try clear kn3); (try clear kx3); (try clear kr3); subst_vars; simp only [Int.ofNat_eq_natCast, tq_not, fq_not, tq_and, fq_and, tq_or, fq_or, tq_beq, fq_beq, tq_bne, fq_bne, tq_dec, fq_dec, one1, V.tup.injEq, V.agg.injEq, List.cons.injEq, V.int.injEq, V.bool.injEq, true_and, and_true, decide_eq_true_eq, decide_eq_false_iff_not, Bool.and_eq_true, Bool.and_eq_false_iff, Bool.or_eq_true, Bool.or_eq_false_iff, Bool.not_eq_true', Bool.not_eq_false', beq_iff_eq, wrap_u32, wrap_i64, wrap_u8, beq_eq_false_iff_ne, ne_eq, bne_iff_ne, bne_eq_false_iff_eq, eq_self, and_self, splice, V.cells, List.take_succ_cons, List.take_zero, List.take_nil, List.drop_zero, List.drop_succ_cons, List.drop_nil, List.cons_append, List.nil_append, List.append_nil, List.length_cons, List.length_nil, Nat.zero_add, Nat.reduceAdd, if_true, if_false, Bool.false_eq_true, beq_self_eq_true, decide_eq_decide, Bool.true_eq_false, or_false, false_or, or_true, true_or, and_false, false_and, not_true_eq_false, not_false_eq_true, Bool.and_true, Bool.true_and, Bool.not_true, Bool.not_false] at *; first | done | assumption | omega))); intro h)
                   | (refine dec_split (fun h => ?_) (fun h => ?_))
                   | (apply silE)
                   | (refine Both.mk ?_ ?_)
                   | (refine And.intro rfl ?_)
                   | (exact And.intro rfl (And.intro rfl (And.intro rfl rfl)))
                   | (refine And.intro (by first | omega | ((simp only [decide_eq_true_eq, decide_eq_false_iff_not, Bool.and_eq_true, beq_iff_eq, Bool.not_eq_true', Bool.not_eq_false'] at *); omega) | (subst_vars; simp only [Int.ofNat_eq_natCast, tq_not, fq_not, tq_and, fq_and, tq_or, fq_or, tq_beq, fq_beq, tq_bne, fq_bne, tq_dec, fq_dec, one1, V.tup.injEq, V.agg.injEq, List.cons.injEq, V.int.injEq, V.bool.injEq, true_and, and_true, decide_eq_true_eq, decide_eq_false_iff_not, Bool.and_eq_true, Bool.and_eq_false_iff, Bool.or_eq_true, Bool.or_eq_false_iff, Bool.not_eq_true', Bool.not_eq_false', beq_iff_eq, wrap_u32, wrap_i64, wrap_u8, beq_eq_false_iff_ne, ne_eq, bne_iff_ne, bne_eq_false_iff_eq, eq_self, and_self, splice, V.cells, List.take_succ_cons, List.take_zero, List.take_nil, List.drop_zero, List.drop_succ_cons, List.drop_nil, List.cons_append, List.nil_append, List.append_nil, List.length_cons, List.length_nil, Nat.zero_add, Nat.reduceAdd, if_true, if_false, Bool.false_eq_true, beq_self_eq_true, decide_eq_decide, Bool.true_eq_false, or_false, false_or, or_true, true_or, and_false, false_and, not_true_eq_false, not_false_eq_true, Bool.and_true, Bool.true_and, Bool.not_true, Bool.not_false] at *; omega)) ?_)
                   | (refine Exists.intro _ (Exists.intro _ (And.intro rfl ?_)))
                   | (refine Exists.intro _ (And.intro rfl ?_))
                   | (refine Exists.intro _ (Exists.intro _ (Exists.intro _ (Exists.intro _ (And.intro rfl ?_)))))
                   | (refine ld_step rfl (by assumption) rfl ?_)
                   | (refine lds_step rfl (by assumption) rfl ?_)
                   | (refine fL_mk ?_)
                   | (refine fH_mk ?_)
                   | (refine fN_mk ?_)
                   | (refine fLB_mk ?_)
                   | (refine And.intro (by repeat (first | assumption | refine GLB_app ?_)) ?_)
                   | (refine ld_step rfl ((rd_x0 _ _ _ _ _).trans rfl) rfl ?_)
                   | (refine ld_step rfl ((rd_x1 _ _ _ _ _ _).trans rfl) rfl ?_)
                   | (refine ld_step rfl ((rd_x2 _ _ _ _ _ _ _).trans rfl) rfl ?_)
                   | (refine lds_step rfl ((rd_x0 _ _ _ _ _).trans rfl) rfl ?_)
                   | (refine lds_step rfl ((rd_x1 _ _ _ _ _ _).trans rfl) rfl ?_)
                   | (refine lds_step rfl ((rd_x2 _ _ _ _ _ _ _).trans rfl) rfl ?_)
                   | (refine mem_step (st_eq rfl rfl rfl rfl (wr_last _ _ _ _ rfl)) ?_)
                   | (refine drec_yes (by omega) ?_)
                   | (refine drec_no (by omega) ?_)
                   | (intro _)
                   | fail)
          all_goals (conv => whnf)
          all_goals exact leafE hq rfl
      · repeat' (conv => whnf
                 first
                 | (refine Stop.mk ?_)
                 | (refine fO_is (decide_eq_true hR) ?_)
                 | (with_reducible refine fI_is (a := (l.length : Int)) rfl ?_)
                 | (with_reducible refine fI_is (a := w) rfl ?_)
                 | (with_reducible refine fI_is (a := t) rfl ?_)
                 | (refine fI_gen ?_; intro z hz)
                 | (refine fO_gen ?_; intro z hz)
                 | (refine Exists.intro l (And.intro rfl (And.intro hr ?_)))
                 | (refine dec_true (by assumption) ?_)
                 | (refine dec_false (by assumption) ?_)
                 | ((with_reducible refine dec_trueH ?tst ?_); (case tst => (first | rfl | ((try clear hC); (try clear kn); (try clear kx); (try clear kr); (try clear kn1); (try clear kx1); (try clear kr1); (try clear kn2); (try clear kx2); (try clear kr2); (try clear kn3); (try clear kx3); (try clear kr3); subst_vars; simp only [Int.ofNat_eq_natCast, tq_not, fq_not, tq_and, fq_and, tq_or, fq_or, tq_beq, fq_beq, tq_bne, fq_bne, tq_dec, fq_dec, one1, V.tup.injEq, V.agg.injEq, List.cons.injEq, V.int.injEq, V.bool.injEq, true_and, and_true, decide_eq_true_eq, decide_eq_false_iff_not, Bool.and_eq_true, Bool.and_eq_false_iff, Bool.or_eq_true, Bool.or_eq_false_iff, Bool.not_eq_true', Bool.not_eq_false', beq_iff_eq, wrap_u32, wrap_i64, wrap_u8, beq_eq_false_iff_ne, ne_eq, bne_iff_ne, bne_eq_false_iff_eq, eq_self, and_self, splice, V.cells, List.take_succ_cons, List.take_zero, List.take_nil, List.drop_zero, List.drop_succ_cons, List.drop_nil, List.cons_append, List.nil_append, List.append_nil, List.length_cons, List.length_nil, Nat.zero_add, Nat.reduceAdd, if_true, if_false, Bool.false_eq_true, beq_self_eq_true, decide_eq_decide, Bool.true_eq_false, or_false, false_or, or_true, true_or, and_false, false_and, not_true_eq_false, not_false_eq_true, Bool.and_true, Bool.true_and, Bool.not_true, Bool.not_false] at *; first | done | assumption | omega))); intro h)
                 | ((with_reducible refine dec_falseH ?tst ?_); (case tst => (first | rfl | ((try clear hC); (try clear kn); (try clear kx); (try clear kr); (try clear kn1); (try clear kx1); (try clear kr1); (try clear kn2); (try clear kx2); (try clear kr2); (try clear kn3); (try clear kx3); (try clear kr3); subst_vars; simp only [Int.ofNat_eq_natCast, tq_not, fq_not, tq_and, fq_and, tq_or, fq_or, tq_beq, fq_beq, tq_bne, fq_bne, tq_dec, fq_dec, one1, V.tup.injEq, V.agg.injEq, List.cons.injEq, V.int.injEq, V.bool.injEq, true_and, and_true, decide_eq_true_eq, decide_eq_false_iff_not, Bool.and_eq_true, Bool.and_eq_false_iff, Bool.or_eq_true, Bool.or_eq_false_iff, Bool.not_eq_true', Bool.not_eq_false', beq_iff_eq, wrap_u32, wrap_i64, wrap_u8, beq_eq_false_iff_ne, ne_eq, bne_iff_ne, bne_eq_false_iff_eq, eq_self, and_self, splice, V.cells, List.take_succ_cons, List.take_zero, List.take_nil, List.drop_zero, List.drop_succ_cons, List.drop_nil, List.cons_append, List.nil_append, List.append_nil, List.length_cons, List.length_nil, Nat.zero_add, Nat.reduceAdd, if_true, if_false, Bool.false_eq_true, beq_self_eq_true, decide_eq_decide, Bool.true_eq_false, or_false, false_or, or_true, true_or, and_false, false_and, not_true_eq_false, not_false_eq_true, Bool.and_true, Bool.true_and, Bool.not_true, Bool.not_false] at *; first | done | assumption | omega))); intro h)
                 | (refine dec_split (fun h => ?_) (fun h => ?_))
                 | (apply silE)
                 | (refine Both.mk ?_ ?_)
                 | (refine And.intro rfl ?_)
                 | (exact And.intro rfl (And.intro rfl (And.intro rfl rfl)))
                 | (refine And.intro (by first | omega | ((simp only [decide_eq_true_eq, decide_eq_false_iff_not, Bool.and_eq_true, beq_iff_eq, Bool.not_eq_true', Bool.not_eq_false'] at *); omega) | (subst_vars; simp only [Int.ofNat_eq_natCast, tq_not, fq_not, tq_and, fq_and, tq_or, fq_or, tq_beq, fq_beq, tq_bne, fq_bne, tq_dec, fq_dec, one1, V.tup.injEq, V.agg.injEq, List.cons.injEq, V.int.injEq, V.bool.injEq, true_and, and_true, decide_eq_true_eq, decide_eq_false_iff_not, Bool.and_eq_true, Bool.and_eq_false_iff, Bool.or_eq_true, Bool.or_eq_false_iff, Bool.not_eq_true', Bool.not_eq_false', beq_iff_eq, wrap_u32, wrap_i64, wrap_u8, beq_eq_false_iff_ne, ne_eq, bne_iff_ne, bne_eq_false_iff_eq, eq_self, and_self, splice, V.cells, List.take_succ_cons, List.take_zero, List.take_nil, List.drop_zero, List.drop_succ_cons, List.drop_nil, List.cons_append, List.nil_append, List.append_nil, List.length_cons, List.length_nil, Nat.zero_add, Nat.reduceAdd, if_true, if_false, Bool.false_eq_true, beq_self_eq_true, decide_eq_decide, Bool.true_eq_false, or_false, false_or, or_true, true_or, and_false, false_and, not_true_eq_false, not_false_eq_true, Bool.and_true, Bool.true_and, Bool.not_true, Bool.not_false] at *; omega)) ?_)
                 | (refine Exists.intro _ (Exists.intro _ (And.intro rfl ?_)))
                 | (refine Exists.intro _ (And.intro rfl ?_))
                 | (refine Exists.intro _ (Exists.intro _ (Exists.intro _ (Exists.intro _ (And.intro rfl ?_)))))
                 | (refine ld_step rfl (by assumption) rfl ?_)
                 | (refine lds_step rfl (by assumption) rfl ?_)
                 | (refine fL_mk ?_)
                 | (refine fH_mk ?_)
                 | (refine fN_mk ?_)
                 | (refine fLB_mk ?_)
                 | (refine And.intro (by repeat (first | assumption | refine GLB_app ?_)) ?_)
                 | (refine ld_step rfl ((rd_x0 _ _ _ _ _).trans rfl) rfl ?_)
                 | (refine ld_step rfl ((rd_x1 _ _ _ _ _ _).trans rfl) rfl ?_)
                 | (refine ld_step rfl ((rd_x2 _ _ _ _ _ _ _).trans rfl) rfl ?_)
                 | (refine lds_step rfl ((rd_x0 _ _ _ _ _).trans rfl) rfl ?_)
                 | (refine lds_step rfl ((rd_x1 _ _ _ _ _ _).trans rfl) rfl ?_)
                 | (refine lds_step rfl ((rd_x2 _ _ _ _ _ _ _).trans rfl) rfl ?_)
                 | (refine mem_step (st_eq rfl rfl rfl rfl (wr_last _ _ _ _ rfl)) ?_)
                 | (refine drec_yes (by omega) ?_)
                 | (refine drec_no (by omega) ?_)
                 | (intro _)
                 | fail)
        all_goals (conv => whnf)
        all_goals exact leafE hq rfl
    · repeat' (conv => whnf
               first
               | (refine Stop.mk ?_)
               | (refine fO_is (decide_eq_false hR) ?_)
               | (with_reducible refine fI_is (a := (l.length : Int)) rfl ?_)
               | (with_reducible refine fI_is (a := w) rfl ?_)
               | (with_reducible refine fI_is (a := t) rfl ?_)
               | (refine fI_gen ?_; intro z hz)
               | (refine fO_gen ?_; intro z hz)
               | (refine Exists.intro l (And.intro rfl (And.intro hr ?_)))
               | (refine dec_true (by assumption) ?_)
               | (refine dec_false (by assumption) ?_)
               | (refine dec_split (fun h => ?_) (fun h => ?_))
               | (apply silE)
               | (refine Both.mk ?_ ?_)
               | (refine And.intro rfl ?_)
               | (exact And.intro rfl (And.intro rfl (And.intro rfl rfl)))
               | (refine And.intro (by first | omega | ((simp only [decide_eq_true_eq, decide_eq_false_iff_not, Bool.and_eq_true, beq_iff_eq, Bool.not_eq_true', Bool.not_eq_false'] at *); omega) | (subst_vars; simp only [Int.ofNat_eq_natCast, tq_not, fq_not, tq_and, fq_and, tq_or, fq_or, tq_beq, fq_beq, tq_bne, fq_bne, tq_dec, fq_dec, one1, V.tup.injEq, V.agg.injEq, List.cons.injEq, V.int.injEq, V.bool.injEq, true_and, and_true, decide_eq_true_eq, decide_eq_false_iff_not, Bool.and_eq_true, Bool.and_eq_false_iff, Bool.or_eq_true, Bool.or_eq_false_iff, Bool.not_eq_true', Bool.not_eq_false', beq_iff_eq, wrap_u32, wrap_i64, wrap_u8, beq_eq_false_iff_ne, ne_eq, bne_iff_ne, bne_eq_false_iff_eq, eq_self, and_self, splice, V.cells, List.take_succ_cons, List.take_zero, List.take_nil, List.drop_zero, List.drop_succ_cons, List.drop_nil, List.cons_append, List.nil_append, List.append_nil, List.length_cons, List.length_nil, Nat.zero_add, Nat.reduceAdd, if_true, if_false, Bool.false_eq_true, beq_self_eq_true, decide_eq_decide, Bool.true_eq_false, or_false, false_or, or_true, true_or, and_false, false_and, not_true_eq_false, not_false_eq_true, Bool.and_true, Bool.true_and, Bool.not_true, Bool.not_false] at *; omega)) ?_)
               | (refine Exists.intro _ (Exists.intro _ (And.intro rfl ?_)))
               | (refine Exists.intro _ (And.intro rfl ?_))
               | (refine Exists.intro _ (Exists.intro _ (Exists.intro _ (Exists.intro _ (And.intro rfl ?_)))))
               | (refine ld_step rfl (by assumption) rfl ?_)
               | (refine lds_step rfl (by assumption) rfl ?_)
               | (refine fL_mk ?_)
               | (refine fH_mk ?_)
               | (refine fN_mk ?_)
               | (refine fLB_mk ?_)
               | (refine And.intro (by repeat (first | assumption | refine GLB_app ?_)) ?_)
               | (refine ld_step rfl ((rd_x0 _ _ _ _ _).trans rfl) rfl ?_)
               | (refine ld_step rfl ((rd_x1 _ _ _ _ _ _).trans rfl) rfl ?_)
               | (refine ld_step rfl ((rd_x2 _ _ _ _ _ _ _).trans rfl) rfl ?_)
               | (refine lds_step rfl ((rd_x0 _ _ _ _ _).trans rfl) rfl ?_)
               | (refine lds_step rfl ((rd_x1 _ _ _ _ _ _).trans rfl) rfl ?_)
               | (refine lds_step rfl ((rd_x2 _ _ _ _ _ _ _).trans rfl) rfl ?_)
               | (refine mem_step (st_eq rfl rfl rfl rfl (wr_last _ _ _ _ rfl)) ?_)
               | (refine drec_yes (by omega) ?_)
               | (refine drec_no (by omega) ?_)
               | (intro _)
               | fail)
      all_goals (conv => whnf)
      all_goals exact leafE hq rfl
  · exact hs.elim
end Go.Ev
