/- dev: what a text is parsed to: Parse, the document's -/
import Derived.Test.YtmdkhaoppklokaaDoorEvX
import Derived.Test.YtmdkhaoppklokaaDoorKstr2
set_option linter.all false
namespace Go.Ev
open Go Go.Proofs
set_option maxRecDepth 10000
set_option maxHeartbeats 4000000
theorem par_hex {l : List Int} (h : hexB l = true) : parB l = (decide (l.length ≤ 10) && numB 16 (l.drop 2)) := by unfold parB; rw [if_pos h]
theorem par_dec {l : List Int} (h : hexB l = false) : parB l = (!(decide (1 < l.length) && l.headD 0 == 48) && (decide (l.length ≤ 10) && numB 10 l)) := by unfold parB; rw [if_neg (by rw [h]; decide)]
theorem parI_hex {l : List Int} (h : hexB l = true) (hp : parB l = true) : parI l = accV 16 (l.drop 2) := by unfold parI; rw [if_pos hp, if_pos h]
theorem parI_dec {l : List Int} (h : hexB l = false) (hp : parB l = true) : parI l = accV 10 l := by unfold parI; rw [if_pos hp, if_neg (by rw [h]; decide)]
theorem parI_no {l : List Int} (hp : parB l = false) : parI l = 0 := by unfold parI; rw [if_neg (by rw [hp]; decide)]
def s21 : Sp := fun vs H Q => match vs with
  | [.str s] => GLB H ∧ (bL s).length ≤ 4096 ∧ Q (.tup [.int .u32 (parI (bL s)), .bool (parB (bL s))]) H false false
  | _ => False
theorem k21 : Snd Tryd.prog 2 21 s21 := by
  refine snd_of_ev (by kernel_rfl) (C := tab [(41, s41), (42, s42), (53, s53)]) (sndC_cons k41 (sndC_cons k42 (sndC_cons k53 (sndC_nil)))) x21 n21 c21 200 ?_
  have hC : MonoC (tab [(41, s41), (42, s42), (53, s53)]) := monoC_cons m41 (monoC_cons m42 (monoC_cons m53 (monoC_nil)))
  intro vs Hx Q hs
  unfold s21 at hs
  split at hs
  · rename_i s
    obtain ⟨hg, hl4, hq⟩ := hs
    have hsz := bL_len s
    cases hx : hexB (bL s) with
    | true =>
      have h2 := hexB_len hx
      obtain ⟨S, hS⟩ : ∃ S, S = s.extract 2 s.size := ⟨_, rfl⟩
      have hcs : (if hexB (bL s) then s.extract 2 s.size else s) = S := by rw [if_pos hx, hS]
      have hbS : bL S = (bL s).drop 2 := by
        rw [hS, bL_extract, ← bL_len, List.take_length]
      obtain ⟨l, hll⟩ : ∃ l, l = bL S := ⟨_, rfl⟩
      have hld : l = (bL s).drop 2 := hll.trans hbS
      have hlen : l.length = (bL s).length - 2 := by rw [hld, List.length_drop]
      have hszi : ((S.size : Nat) : Int) = (l.length : Int) := by rw [hll, bL_len]
      have hqF : numB 16 l = false → Q (.tup [.int .u32 0, .bool false]) Hx false false := fun h => by
        have hp : parB (bL s) = false := by rw [par_hex hx, ← hld, h]; simp
        rw [parI_no hp, hp] at hq; exact hq
      have hqL : 8 < l.length → Q (.tup [.int .u32 0, .bool false]) Hx false false := fun h => by
        have hp : parB (bL s) = false := by rw [par_hex hx, decide_eq_false (by omega)]; rfl
        rw [parI_no hp, hp] at hq; exact hq
      have hqT : l.length ≤ 8 → numB 16 l = true → Q (.tup [.int .u32 (accV 16 l), .bool true]) Hx false false := fun h1 h => by
        have hp : parB (bL s) = true := by rw [par_hex hx, ← hld, h, decide_eq_true (by omega)]; rfl
        rw [parI_hex hx hp, hp, ← hld] at hq; exact hq
      clear hS
      by_cases hne : l = []
      · have hnb : numB 16 l = false := by unfold numB; rw [decide_eq_false (by simpa using hne)]; rfl
        have hqq := hqF hnb
        have d0 : ((S).toList == (ByteArray.mk (Array.mk [])).toList) = true := by rw [bL_inj]; exact decide_eq_true (by rw [← hll, hne]; rfl)
        repeat' (conv => whnf
                 first | (refine Stop.mk ?_) | (refine fO_is hx ?_) | (refine fO_is d0 ?_) | (refine fI_gen ?_; intro z hz) | (refine fO_gen ?_; intro z hz) | (refine And.intro (show bL _ = [48, 120] from rfl) ?_; rw [hcs]) | (refine dec_true (by assumption) ?_) | (refine dec_false (by assumption) ?_) | (refine dec_split (fun h => ?_) (fun h => ?_)) | (apply silE) | (refine Both.mk ?_ ?_) | (refine And.intro rfl ?_) | (exact And.intro rfl (And.intro rfl (And.intro rfl rfl))) | (refine And.intro (by first | omega | ((simp only [decide_eq_true_eq, decide_eq_false_iff_not, Bool.and_eq_true, beq_iff_eq, Bool.not_eq_true', Bool.not_eq_false'] at *); omega) | (subst_vars; simp only [Int.ofNat_eq_natCast, tq_not, fq_not, tq_and, fq_and, tq_or, fq_or, tq_beq, fq_beq, tq_bne, fq_bne, tq_dec, fq_dec, one1, V.tup.injEq, V.agg.injEq, List.cons.injEq, V.int.injEq, V.bool.injEq, true_and, and_true, decide_eq_true_eq, decide_eq_false_iff_not, Bool.and_eq_true, Bool.and_eq_false_iff, Bool.or_eq_true, Bool.or_eq_false_iff, Bool.not_eq_true', Bool.not_eq_false', beq_iff_eq, wrap_u32, wrap_i64, wrap_u8, beq_eq_false_iff_ne, ne_eq, bne_iff_ne, bne_eq_false_iff_eq, eq_self, and_self, splice, V.cells, List.take_succ_cons, List.take_zero, List.take_nil, List.drop_zero, List.drop_succ_cons, List.drop_nil, List.cons_append, List.nil_append, List.append_nil, List.length_cons, List.length_nil, Nat.zero_add, Nat.reduceAdd, if_true, if_false, Bool.false_eq_true, beq_self_eq_true, decide_eq_decide, Bool.true_eq_false, or_false, false_or, or_true, true_or, and_false, false_and, not_true_eq_false, not_false_eq_true, Bool.and_true, Bool.true_and, Bool.not_true, Bool.not_false] at *; omega)) ?_) | (refine Exists.intro _ (Exists.intro _ (And.intro rfl ?_))) | (refine Exists.intro _ (And.intro rfl ?_)) | (refine Exists.intro _ (Exists.intro _ (Exists.intro _ (Exists.intro _ (And.intro rfl ?_))))) | (refine ld_step rfl (by assumption) rfl ?_) | (refine lds_step rfl (by assumption) rfl ?_) | (refine fL_mk ?_) | (refine fH_mk ?_) | (refine fN_mk ?_) | (refine fLB_mk ?_) | (refine And.intro (by repeat (first | assumption | refine GLB_app ?_)) ?_) | (refine ld_step rfl ((rd_x0 _ _ _ _ _).trans rfl) rfl ?_) | (refine ld_step rfl ((rd_x1 _ _ _ _ _ _).trans rfl) rfl ?_) | (refine ld_step rfl ((rd_x2 _ _ _ _ _ _ _).trans rfl) rfl ?_) | (refine lds_step rfl ((rd_x0 _ _ _ _ _).trans rfl) rfl ?_) | (refine lds_step rfl ((rd_x1 _ _ _ _ _ _).trans rfl) rfl ?_) | (refine lds_step rfl ((rd_x2 _ _ _ _ _ _ _).trans rfl) rfl ?_) | (refine mem_step (st_eq rfl rfl rfl rfl (wr_last _ _ _ _ rfl)) ?_) | (refine drec_yes (by omega) ?_) | (refine drec_no (by omega) ?_) | (intro _) | fail)
        all_goals (conv => whnf)
        all_goals exact leafE hqq rfl
      · have d0 : ((S).toList == (ByteArray.mk (Array.mk [])).toList) = false := by rw [bL_inj]; exact decide_eq_false (by rw [← hll]; exact hne)
        by_cases hm : l.length ≤ 8
        · have d1 : decide ((l.length : Int) > 8) = false := decide_eq_false (by omega)
          have hl10 : l.length ≤ 10 := by omega
          suffices hh : ∀ k, 100 < k → evFun (tab [(41, s41), (42, s42), (53, s53)]) k e21 [.str s] Hx Q from hh _ (by omega)
          intro k hk
          refine evFun_in (tm := SV.v (.str s) :: undefV :: undefV :: undefV :: undefV :: undefV :: undefV :: undefV :: undefV :: undefV :: undefV :: undefV :: undefV :: undefV :: undefV :: undefV :: undefV :: undefV :: undefV :: undefV :: undefV :: undefV :: undefV :: undefV :: undefV :: undefV :: undefV :: undefV :: undefV :: undefV :: undefV :: undefV :: undefV :: undefV :: undefV :: undefV :: undefV :: undefV :: undefV :: undefV :: undefV :: undefV :: undefV :: undefV :: undefV :: undefV :: undefV :: undefV :: undefV :: undefV :: undefV :: undefV :: undefV :: undefV :: undefV :: undefV :: undefV :: undefV :: undefV :: undefV :: undefV :: undefV :: undefV :: []) rfl ?_
          show rC _ _ r21_0 _ _ _ _ _ _
          repeat' (conv => whnf
                   first | (refine Stop.mk ?_) | (refine fO_is hx ?_) | (refine fO_is d0 ?_) | (refine fI_is hszi ?_) | (refine fO_is d1 ?_) | (with_reducible refine fI_is (a := (l.length : Int)) rfl ?_) | (refine fI_gen ?_; intro z hz) | (refine fO_gen ?_; intro z hz) | (refine And.intro (show bL _ = [48, 120] from rfl) ?_; rw [hcs]) | (refine dec_true (by assumption) ?_) | (refine dec_false (by assumption) ?_) | (refine dec_split (fun h => ?_) (fun h => ?_)) | (apply silE) | (refine Both.mk ?_ ?_) | (refine And.intro rfl ?_) | (exact And.intro rfl (And.intro rfl (And.intro rfl rfl))) | (refine And.intro (by first | omega | ((simp only [decide_eq_true_eq, decide_eq_false_iff_not, Bool.and_eq_true, beq_iff_eq, Bool.not_eq_true', Bool.not_eq_false'] at *); omega) | (subst_vars; simp only [Int.ofNat_eq_natCast, tq_not, fq_not, tq_and, fq_and, tq_or, fq_or, tq_beq, fq_beq, tq_bne, fq_bne, tq_dec, fq_dec, one1, V.tup.injEq, V.agg.injEq, List.cons.injEq, V.int.injEq, V.bool.injEq, true_and, and_true, decide_eq_true_eq, decide_eq_false_iff_not, Bool.and_eq_true, Bool.and_eq_false_iff, Bool.or_eq_true, Bool.or_eq_false_iff, Bool.not_eq_true', Bool.not_eq_false', beq_iff_eq, wrap_u32, wrap_i64, wrap_u8, beq_eq_false_iff_ne, ne_eq, bne_iff_ne, bne_eq_false_iff_eq, eq_self, and_self, splice, V.cells, List.take_succ_cons, List.take_zero, List.take_nil, List.drop_zero, List.drop_succ_cons, List.drop_nil, List.cons_append, List.nil_append, List.append_nil, List.length_cons, List.length_nil, Nat.zero_add, Nat.reduceAdd, if_true, if_false, Bool.false_eq_true, beq_self_eq_true, decide_eq_decide, Bool.true_eq_false, or_false, false_or, or_true, true_or, and_false, false_and, not_true_eq_false, not_false_eq_true, Bool.and_true, Bool.true_and, Bool.not_true, Bool.not_false] at *; omega)) ?_) | (refine Exists.intro _ (Exists.intro _ (And.intro rfl ?_))) | (refine Exists.intro _ (And.intro rfl ?_)) | (refine Exists.intro _ (Exists.intro _ (Exists.intro _ (Exists.intro _ (And.intro rfl ?_))))) | (refine ld_step rfl (by assumption) rfl ?_) | (refine lds_step rfl (by assumption) rfl ?_) | (refine fL_mk ?_) | (refine fH_mk ?_) | (refine fN_mk ?_) | (refine fLB_mk ?_) | (refine And.intro (by repeat (first | assumption | refine GLB_app ?_)) ?_) | (refine ld_step rfl ((rd_x0 _ _ _ _ _).trans rfl) rfl ?_) | (refine ld_step rfl ((rd_x1 _ _ _ _ _ _).trans rfl) rfl ?_) | (refine ld_step rfl ((rd_x2 _ _ _ _ _ _ _).trans rfl) rfl ?_) | (refine lds_step rfl ((rd_x0 _ _ _ _ _).trans rfl) rfl ?_) | (refine lds_step rfl ((rd_x1 _ _ _ _ _ _).trans rfl) rfl ?_) | (refine lds_step rfl ((rd_x2 _ _ _ _ _ _ _).trans rfl) rfl ?_) | (refine mem_step (st_eq rfl rfl rfl rfl (wr_last _ _ _ _ rfl)) ?_) | (refine drec_yes (by omega) ?_) | (refine drec_no (by omega) ?_) | (intro _) | fail)
          conv => whnf
          repeat' (conv => whnf
                   first | (refine Stop.mk ?_) | (refine fI_mk ?_) | (refine fO_mk ?_) | (refine fN_mk ?_) | fail)
          conv => whnf
          refine rLoop_ctr (c := rC (tab [(41, s41), (42, s42), (53, s53)]) k l21_0) l.length 40 (false :: false :: true :: true :: false :: false :: false :: false :: false :: true :: true :: true :: true :: false :: false :: false :: false :: false :: false :: false :: false :: false :: false :: false :: false :: false :: false :: false :: false :: false :: false :: false :: false :: false :: false :: false :: false :: false :: false :: false :: false :: true :: true :: true :: true :: true :: true :: true :: true :: true :: true :: true :: true :: true :: true :: true :: true :: true :: true :: false :: false :: false :: false :: []) (fun i tm L H e g => svAt tm 9 = .v (.int .i64 (accV 16 (l.take i))) ∧ okDig 16 (l.take i) = true ∧ L = [] ∧ H = Hx ++ [.rw 3 [.int .i64 16]] ∧ e = false ∧ g = true) (by omega) rfl ⟨rfl, rfl, rfl, rfl, rfl, rfl⟩ ?_
          intro i0 hi0
          conv => whnf
          intro j
          conv => whnf
          intro j
          conv => whnf
          intro j
          conv => whnf
          intro j
          conv => whnf
          intro j
          conv => whnf
          intro j
          conv => whnf
          intro j
          conv => whnf
          intro j
          conv => whnf
          intro j
          conv => whnf
          intro j
          conv => whnf
          intro j
          conv => whnf
          intro j
          conv => whnf
          intro j
          conv => whnf
          intro j
          conv => whnf
          intro j
          conv => whnf
          intro j
          conv => whnf
          intro j
          conv => whnf
          intro j
          conv => whnf
          intro j
          conv => whnf
          intro j
          conv => whnf
          intro j
          conv => whnf
          intro j
          conv => whnf
          intro j
          conv => whnf
          intro j
          conv => whnf
          refine Halt.mk ?_
          rintro L H' e g ⟨h6, hok, rfl, rfl, rfl, rfl⟩ K kn kx kr
          conv at h6 => lhs; whnf
          subst h6
          have hpos := acc_bd (b := 16) (by decide) hok i0 (by rw [List.length_take]; omega)
          rw [List.take_take, Nat.min_self] at hpos
          have hi10 : i0 ≤ l.length := by assumption
          have h16 : (16 : Int) ^ i0 ≤ 16 ^ 10 := by
            have h17 := Nat.pow_le_pow_right (n := 16) (by decide) (show i0 ≤ 10 by omega)
            exact_mod_cast h17
          have h16' : (16 : Int) ^ 10 = 1099511627776 := by decide
          repeat' (conv => whnf
                   first | (refine Stop.mk ?_) | (refine fI_is hszi ?_) | (with_reducible refine fI_is (a := (l.length : Int)) rfl ?_) | (refine fI_mk ?_) | (refine fO_mk ?_) | (refine fN_mk ?_) | fail)
          conv => whnf
          refine dec_split (fun h => ?_) (fun h => ?_)
          · have hlt : i0 < l.length := by have h2 : (i0 : Int) < (l.length : Int) := of_decide_eq_true h; omega
            clear kx
            have hix := fun {tm : List SV} {x i : Opd} (hx : x.val tm = some (.str S)) (hi : i.val tm = some (.int .i64 (i0 : Int))) => ixstr_eq hx hi rfl (by rw [← hll]; exact hlt)
            simp only [← hll] at hix
            have hdb := digV_bd l[i0]
            by_cases hd : 0 ≤ digV l[i0] ∧ digV l[i0] < 16
            · clear kr
              have w1 : IntKind.i64.wrap (accV 16 (l.take i0) * 16) = accV 16 (l.take i0) * 16 := wrap_i64_id (by omega) (by omega)
              have w2 : IntKind.i64.wrap (accV 16 (l.take i0) * 16 + digV l[i0]) = accV 16 (l.take (i0 + 1)) := by
                rw [take_snoc hlt, acc_snoc]; exact wrap_i64_id (by omega) (by omega)
              repeat' (conv => whnf
                       first | (refine Stop.mk ?_) | (refine fO_is (decide_eq_true hd) ?_) | (refine fI_is w1 ?_) | (refine fI_is w2 ?_) | (with_reducible refine fI_is (a := l[i0]) rfl ?_) | (with_reducible refine fI_is (a := digV l[i0]) rfl ?_) | (with_reducible refine fI_is (a := accV 16 (l.take i0)) rfl ?_) | (with_reducible refine fI_is (a := accV 16 (l.take i0) * 16) rfl ?_) | (with_reducible refine fI_is (a := accV 16 (l.take (i0 + 1))) rfl ?_) | (refine fI_i64 (by first | omega | (simp only [Int.ofNat_eq_natCast] at *; omega)) ?_; intro z hz) | (refine fI_u32 (by first | omega | (simp only [Int.ofNat_eq_natCast] at *; omega)) ?_; intro z hz) | (refine fI_u8 (by first | omega | (simp only [Int.ofNat_eq_natCast] at *; omega)) ?_; intro z hz) | (refine fI_u64 (by first | omega | (simp only [Int.ofNat_eq_natCast] at *; omega)) ?_; intro z hz) | (refine fI_tdiv (by first | omega | (simp only [Int.ofNat_eq_natCast] at *; omega)) ?_; intro z hz) | (refine fI_tmod (by first | omega | (simp only [Int.ofNat_eq_natCast] at *; omega)) ?_; intro z hz) | (refine fI_gen ?_; intro z hz) | (refine fO_gen ?_; intro z hz) | (refine And.intro (GLB_app hg) (Exists.intro 16 (And.intro ((rd_x0 _ _ _ _ _).trans rfl) ?_))) | (refine pure_step (hix rfl rfl) ?_) | (refine dec_true (by assumption) ?_) | (refine dec_false (by assumption) ?_) | (refine dec_split (fun h => ?_) (fun h => ?_)) | (apply silE) | (refine Both.mk ?_ ?_) | (refine And.intro rfl ?_) | (exact And.intro rfl (And.intro rfl (And.intro rfl rfl))) | (refine And.intro (by first | omega | ((simp only [decide_eq_true_eq, decide_eq_false_iff_not, Bool.and_eq_true, beq_iff_eq, Bool.not_eq_true', Bool.not_eq_false'] at *); omega) | (subst_vars; simp only [Int.ofNat_eq_natCast, tq_not, fq_not, tq_and, fq_and, tq_or, fq_or, tq_beq, fq_beq, tq_bne, fq_bne, tq_dec, fq_dec, one1, V.tup.injEq, V.agg.injEq, List.cons.injEq, V.int.injEq, V.bool.injEq, true_and, and_true, decide_eq_true_eq, decide_eq_false_iff_not, Bool.and_eq_true, Bool.and_eq_false_iff, Bool.or_eq_true, Bool.or_eq_false_iff, Bool.not_eq_true', Bool.not_eq_false', beq_iff_eq, wrap_u32, wrap_i64, wrap_u8, beq_eq_false_iff_ne, ne_eq, bne_iff_ne, bne_eq_false_iff_eq, eq_self, and_self, splice, V.cells, List.take_succ_cons, List.take_zero, List.take_nil, List.drop_zero, List.drop_succ_cons, List.drop_nil, List.cons_append, List.nil_append, List.append_nil, List.length_cons, List.length_nil, Nat.zero_add, Nat.reduceAdd, if_true, if_false, Bool.false_eq_true, beq_self_eq_true, decide_eq_decide, Bool.true_eq_false, or_false, false_or, or_true, true_or, and_false, false_and, not_true_eq_false, not_false_eq_true, Bool.and_true, Bool.true_and, Bool.not_true, Bool.not_false] at *; omega)) ?_) | (refine Exists.intro _ (Exists.intro _ (And.intro rfl ?_))) | (refine Exists.intro _ (And.intro rfl ?_)) | (refine Exists.intro _ (Exists.intro _ (Exists.intro _ (Exists.intro _ (And.intro rfl ?_))))) | (refine ld_step rfl (by assumption) rfl ?_) | (refine lds_step rfl (by assumption) rfl ?_) | (refine fL_mk ?_) | (refine fH_mk ?_) | (refine fN_mk ?_) | (refine fLB_mk ?_) | (refine And.intro (by repeat (first | assumption | refine GLB_app ?_)) ?_) | (refine ld_step rfl ((rd_x0 _ _ _ _ _).trans rfl) rfl ?_) | (refine ld_step rfl ((rd_x1 _ _ _ _ _ _).trans rfl) rfl ?_) | (refine ld_step rfl ((rd_x2 _ _ _ _ _ _ _).trans rfl) rfl ?_) | (refine lds_step rfl ((rd_x0 _ _ _ _ _).trans rfl) rfl ?_) | (refine lds_step rfl ((rd_x1 _ _ _ _ _ _).trans rfl) rfl ?_) | (refine lds_step rfl ((rd_x2 _ _ _ _ _ _ _).trans rfl) rfl ?_) | (refine mem_step (st_eq rfl rfl rfl rfl (wr_last _ _ _ _ rfl)) ?_) | (refine drec_yes (by omega) ?_) | (refine drec_no (by omega) ?_) | (intro _) | fail)
              all_goals (conv => whnf)
              all_goals
                subst hz
                exact kn hlt _ _ _ _ _ rfl ⟨rfl, by rw [take_snoc hlt, ok_snoc, hok, decide_eq_true hd]; rfl, rfl, rfl, rfl, rfl⟩
            · clear kn
              have hnb : numB 16 l = false := by
                unfold numB
                have : okDig 16 l = false := by
                  rw [Bool.eq_false_iff]
                  intro ho
                  unfold okDig at ho
                  rw [List.all_eq_true] at ho
                  exact hd (of_decide_eq_true (ho _ (List.getElem_mem hlt)))
                rw [this]; simp
              have hqq := hqF hnb
              repeat' (conv => whnf
                       first | (refine Stop.mk ?_) | (refine fO_is (decide_eq_false hd) ?_) | (with_reducible refine fI_is (a := l[i0]) rfl ?_) | (with_reducible refine fI_is (a := digV l[i0]) rfl ?_) | (with_reducible refine fI_is (a := accV 16 (l.take i0)) rfl ?_) | (refine fI_gen ?_; intro z hz) | (refine fO_gen ?_; intro z hz) | (refine And.intro (GLB_app hg) (Exists.intro 16 (And.intro ((rd_x0 _ _ _ _ _).trans rfl) ?_))) | (refine pure_step (hix rfl rfl) ?_) | (refine dec_true (by assumption) ?_) | (refine dec_false (by assumption) ?_) | (refine dec_split (fun h => ?_) (fun h => ?_)) | (apply silE) | (refine Both.mk ?_ ?_) | (refine And.intro rfl ?_) | (exact And.intro rfl (And.intro rfl (And.intro rfl rfl))) | (refine And.intro (by first | omega | ((simp only [decide_eq_true_eq, decide_eq_false_iff_not, Bool.and_eq_true, beq_iff_eq, Bool.not_eq_true', Bool.not_eq_false'] at *); omega) | (subst_vars; simp only [Int.ofNat_eq_natCast, tq_not, fq_not, tq_and, fq_and, tq_or, fq_or, tq_beq, fq_beq, tq_bne, fq_bne, tq_dec, fq_dec, one1, V.tup.injEq, V.agg.injEq, List.cons.injEq, V.int.injEq, V.bool.injEq, true_and, and_true, decide_eq_true_eq, decide_eq_false_iff_not, Bool.and_eq_true, Bool.and_eq_false_iff, Bool.or_eq_true, Bool.or_eq_false_iff, Bool.not_eq_true', Bool.not_eq_false', beq_iff_eq, wrap_u32, wrap_i64, wrap_u8, beq_eq_false_iff_ne, ne_eq, bne_iff_ne, bne_eq_false_iff_eq, eq_self, and_self, splice, V.cells, List.take_succ_cons, List.take_zero, List.take_nil, List.drop_zero, List.drop_succ_cons, List.drop_nil, List.cons_append, List.nil_append, List.append_nil, List.length_cons, List.length_nil, Nat.zero_add, Nat.reduceAdd, if_true, if_false, Bool.false_eq_true, beq_self_eq_true, decide_eq_decide, Bool.true_eq_false, or_false, false_or, or_true, true_or, and_false, false_and, not_true_eq_false, not_false_eq_true, Bool.and_true, Bool.true_and, Bool.not_true, Bool.not_false] at *; omega)) ?_) | (refine Exists.intro _ (Exists.intro _ (And.intro rfl ?_))) | (refine Exists.intro _ (And.intro rfl ?_)) | (refine Exists.intro _ (Exists.intro _ (Exists.intro _ (Exists.intro _ (And.intro rfl ?_))))) | (refine ld_step rfl (by assumption) rfl ?_) | (refine lds_step rfl (by assumption) rfl ?_) | (refine fL_mk ?_) | (refine fH_mk ?_) | (refine fN_mk ?_) | (refine fLB_mk ?_) | (refine And.intro (by repeat (first | assumption | refine GLB_app ?_)) ?_) | (refine ld_step rfl ((rd_x0 _ _ _ _ _).trans rfl) rfl ?_) | (refine ld_step rfl ((rd_x1 _ _ _ _ _ _).trans rfl) rfl ?_) | (refine ld_step rfl ((rd_x2 _ _ _ _ _ _ _).trans rfl) rfl ?_) | (refine lds_step rfl ((rd_x0 _ _ _ _ _).trans rfl) rfl ?_) | (refine lds_step rfl ((rd_x1 _ _ _ _ _ _).trans rfl) rfl ?_) | (refine lds_step rfl ((rd_x2 _ _ _ _ _ _ _).trans rfl) rfl ?_) | (refine mem_step (st_eq rfl rfl rfl rfl (wr_last _ _ _ _ rfl)) ?_) | (refine drec_yes (by omega) ?_) | (refine drec_no (by omega) ?_) | (intro _) | fail)
              all_goals (conv => whnf)
              all_goals
                refine kr _ _ _ _ _ ?_
                conv => whnf
                (try refine Stop.mk (fH_mk ?_))
                exact leafH hqq rfl (take_app1 Hx _)
          · clear kn kr
            have hie : i0 = l.length := by have h2 : ¬ (i0 : Int) < (l.length : Int) := of_decide_eq_false h; omega
            subst hie
            rw [List.take_length] at hok hpos
            rw [List.take_length]
            by_cases hv : accV 16 l < 4294967296
            · have hnb : numB 16 l = true := by unfold numB; rw [decide_eq_true (show l ≠ [] from hne), hok, decide_eq_true hv]; rfl
              have hqq := hqT hm hnb
              have d3 : decide (accV 16 l ≥ 4294967296) = false := decide_eq_false (by omega)
              have w1 : IntKind.u32.wrap (accV 16 l) = accV 16 l := by rw [wrap_u32]; omega
              repeat' (conv => whnf
                       first | (refine Stop.mk ?_) | (refine fO_is d3 ?_) | (refine fI_is w1 ?_) | (with_reducible refine fI_is (a := accV 16 l) rfl ?_) | (refine fI_gen ?_; intro z hz) | (refine fO_gen ?_; intro z hz) | (refine kx _ _ _ _ _ _ ?_) | (refine dec_true (by assumption) ?_) | (refine dec_false (by assumption) ?_) | (refine dec_split (fun h => ?_) (fun h => ?_)) | (apply silE) | (refine Both.mk ?_ ?_) | (refine And.intro rfl ?_) | (exact And.intro rfl (And.intro rfl (And.intro rfl rfl))) | (refine And.intro (by first | omega | ((simp only [decide_eq_true_eq, decide_eq_false_iff_not, Bool.and_eq_true, beq_iff_eq, Bool.not_eq_true', Bool.not_eq_false'] at *); omega) | (subst_vars; simp only [Int.ofNat_eq_natCast, tq_not, fq_not, tq_and, fq_and, tq_or, fq_or, tq_beq, fq_beq, tq_bne, fq_bne, tq_dec, fq_dec, one1, V.tup.injEq, V.agg.injEq, List.cons.injEq, V.int.injEq, V.bool.injEq, true_and, and_true, decide_eq_true_eq, decide_eq_false_iff_not, Bool.and_eq_true, Bool.and_eq_false_iff, Bool.or_eq_true, Bool.or_eq_false_iff, Bool.not_eq_true', Bool.not_eq_false', beq_iff_eq, wrap_u32, wrap_i64, wrap_u8, beq_eq_false_iff_ne, ne_eq, bne_iff_ne, bne_eq_false_iff_eq, eq_self, and_self, splice, V.cells, List.take_succ_cons, List.take_zero, List.take_nil, List.drop_zero, List.drop_succ_cons, List.drop_nil, List.cons_append, List.nil_append, List.append_nil, List.length_cons, List.length_nil, Nat.zero_add, Nat.reduceAdd, if_true, if_false, Bool.false_eq_true, beq_self_eq_true, decide_eq_decide, Bool.true_eq_false, or_false, false_or, or_true, true_or, and_false, false_and, not_true_eq_false, not_false_eq_true, Bool.and_true, Bool.true_and, Bool.not_true, Bool.not_false] at *; omega)) ?_) | (refine Exists.intro _ (Exists.intro _ (And.intro rfl ?_))) | (refine Exists.intro _ (And.intro rfl ?_)) | (refine Exists.intro _ (Exists.intro _ (Exists.intro _ (Exists.intro _ (And.intro rfl ?_))))) | (refine ld_step rfl (by assumption) rfl ?_) | (refine lds_step rfl (by assumption) rfl ?_) | (refine fL_mk ?_) | (refine fH_mk ?_) | (refine fN_mk ?_) | (refine fLB_mk ?_) | (refine And.intro (by repeat (first | assumption | refine GLB_app ?_)) ?_) | (refine ld_step rfl ((rd_x0 _ _ _ _ _).trans rfl) rfl ?_) | (refine ld_step rfl ((rd_x1 _ _ _ _ _ _).trans rfl) rfl ?_) | (refine ld_step rfl ((rd_x2 _ _ _ _ _ _ _).trans rfl) rfl ?_) | (refine lds_step rfl ((rd_x0 _ _ _ _ _).trans rfl) rfl ?_) | (refine lds_step rfl ((rd_x1 _ _ _ _ _ _).trans rfl) rfl ?_) | (refine lds_step rfl ((rd_x2 _ _ _ _ _ _ _).trans rfl) rfl ?_) | (refine mem_step (st_eq rfl rfl rfl rfl (wr_last _ _ _ _ rfl)) ?_) | (refine drec_yes (by omega) ?_) | (refine drec_no (by omega) ?_) | (intro _) | fail)
              all_goals (conv => whnf)
              all_goals exact leafH hqq rfl (take_app1 Hx _)
            · have hnb : numB 16 l = false := by unfold numB; rw [decide_eq_false hv]; simp
              have hqq := hqF hnb
              have d3 : decide (accV 16 l ≥ 4294967296) = true := decide_eq_true (by omega)
              repeat' (conv => whnf
                       first | (refine Stop.mk ?_) | (refine fO_is d3 ?_) | (with_reducible refine fI_is (a := accV 16 l) rfl ?_) | (refine fI_gen ?_; intro z hz) | (refine fO_gen ?_; intro z hz) | (refine kx _ _ _ _ _ _ ?_) | (refine dec_true (by assumption) ?_) | (refine dec_false (by assumption) ?_) | (refine dec_split (fun h => ?_) (fun h => ?_)) | (apply silE) | (refine Both.mk ?_ ?_) | (refine And.intro rfl ?_) | (exact And.intro rfl (And.intro rfl (And.intro rfl rfl))) | (refine And.intro (by first | omega | ((simp only [decide_eq_true_eq, decide_eq_false_iff_not, Bool.and_eq_true, beq_iff_eq, Bool.not_eq_true', Bool.not_eq_false'] at *); omega) | (subst_vars; simp only [Int.ofNat_eq_natCast, tq_not, fq_not, tq_and, fq_and, tq_or, fq_or, tq_beq, fq_beq, tq_bne, fq_bne, tq_dec, fq_dec, one1, V.tup.injEq, V.agg.injEq, List.cons.injEq, V.int.injEq, V.bool.injEq, true_and, and_true, decide_eq_true_eq, decide_eq_false_iff_not, Bool.and_eq_true, Bool.and_eq_false_iff, Bool.or_eq_true, Bool.or_eq_false_iff, Bool.not_eq_true', Bool.not_eq_false', beq_iff_eq, wrap_u32, wrap_i64, wrap_u8, beq_eq_false_iff_ne, ne_eq, bne_iff_ne, bne_eq_false_iff_eq, eq_self, and_self, splice, V.cells, List.take_succ_cons, List.take_zero, List.take_nil, List.drop_zero, List.drop_succ_cons, List.drop_nil, List.cons_append, List.nil_append, List.append_nil, List.length_cons, List.length_nil, Nat.zero_add, Nat.reduceAdd, if_true, if_false, Bool.false_eq_true, beq_self_eq_true, decide_eq_decide, Bool.true_eq_false, or_false, false_or, or_true, true_or, and_false, false_and, not_true_eq_false, not_false_eq_true, Bool.and_true, Bool.true_and, Bool.not_true, Bool.not_false] at *; omega)) ?_) | (refine Exists.intro _ (Exists.intro _ (And.intro rfl ?_))) | (refine Exists.intro _ (And.intro rfl ?_)) | (refine Exists.intro _ (Exists.intro _ (Exists.intro _ (Exists.intro _ (And.intro rfl ?_))))) | (refine ld_step rfl (by assumption) rfl ?_) | (refine lds_step rfl (by assumption) rfl ?_) | (refine fL_mk ?_) | (refine fH_mk ?_) | (refine fN_mk ?_) | (refine fLB_mk ?_) | (refine And.intro (by repeat (first | assumption | refine GLB_app ?_)) ?_) | (refine ld_step rfl ((rd_x0 _ _ _ _ _).trans rfl) rfl ?_) | (refine ld_step rfl ((rd_x1 _ _ _ _ _ _).trans rfl) rfl ?_) | (refine ld_step rfl ((rd_x2 _ _ _ _ _ _ _).trans rfl) rfl ?_) | (refine lds_step rfl ((rd_x0 _ _ _ _ _).trans rfl) rfl ?_) | (refine lds_step rfl ((rd_x1 _ _ _ _ _ _).trans rfl) rfl ?_) | (refine lds_step rfl ((rd_x2 _ _ _ _ _ _ _).trans rfl) rfl ?_) | (refine mem_step (st_eq rfl rfl rfl rfl (wr_last _ _ _ _ rfl)) ?_) | (refine drec_yes (by omega) ?_) | (refine drec_no (by omega) ?_) | (intro _) | fail)
              all_goals (conv => whnf)
              all_goals exact leafH hqq rfl (take_app1 Hx _)
        · have d1 : decide ((l.length : Int) > 8) = true := decide_eq_true (by omega)
          have hqq := hqL (by omega)
          repeat' (conv => whnf
                   first | (refine Stop.mk ?_) | (refine fO_is hx ?_) | (refine fO_is d0 ?_) | (refine fI_is hszi ?_) | (refine fO_is d1 ?_) | (with_reducible refine fI_is (a := (l.length : Int)) rfl ?_) | (refine fI_gen ?_; intro z hz) | (refine fO_gen ?_; intro z hz) | (refine And.intro (show bL _ = [48, 120] from rfl) ?_; rw [hcs]) | (refine dec_true (by assumption) ?_) | (refine dec_false (by assumption) ?_) | (refine dec_split (fun h => ?_) (fun h => ?_)) | (apply silE) | (refine Both.mk ?_ ?_) | (refine And.intro rfl ?_) | (exact And.intro rfl (And.intro rfl (And.intro rfl rfl))) | (refine And.intro (by first | omega | ((simp only [decide_eq_true_eq, decide_eq_false_iff_not, Bool.and_eq_true, beq_iff_eq, Bool.not_eq_true', Bool.not_eq_false'] at *); omega) | (subst_vars; simp only [Int.ofNat_eq_natCast, tq_not, fq_not, tq_and, fq_and, tq_or, fq_or, tq_beq, fq_beq, tq_bne, fq_bne, tq_dec, fq_dec, one1, V.tup.injEq, V.agg.injEq, List.cons.injEq, V.int.injEq, V.bool.injEq, true_and, and_true, decide_eq_true_eq, decide_eq_false_iff_not, Bool.and_eq_true, Bool.and_eq_false_iff, Bool.or_eq_true, Bool.or_eq_false_iff, Bool.not_eq_true', Bool.not_eq_false', beq_iff_eq, wrap_u32, wrap_i64, wrap_u8, beq_eq_false_iff_ne, ne_eq, bne_iff_ne, bne_eq_false_iff_eq, eq_self, and_self, splice, V.cells, List.take_succ_cons, List.take_zero, List.take_nil, List.drop_zero, List.drop_succ_cons, List.drop_nil, List.cons_append, List.nil_append, List.append_nil, List.length_cons, List.length_nil, Nat.zero_add, Nat.reduceAdd, if_true, if_false, Bool.false_eq_true, beq_self_eq_true, decide_eq_decide, Bool.true_eq_false, or_false, false_or, or_true, true_or, and_false, false_and, not_true_eq_false, not_false_eq_true, Bool.and_true, Bool.true_and, Bool.not_true, Bool.not_false] at *; omega)) ?_) | (refine Exists.intro _ (Exists.intro _ (And.intro rfl ?_))) | (refine Exists.intro _ (And.intro rfl ?_)) | (refine Exists.intro _ (Exists.intro _ (Exists.intro _ (Exists.intro _ (And.intro rfl ?_))))) | (refine ld_step rfl (by assumption) rfl ?_) | (refine lds_step rfl (by assumption) rfl ?_) | (refine fL_mk ?_) | (refine fH_mk ?_) | (refine fN_mk ?_) | (refine fLB_mk ?_) | (refine And.intro (by repeat (first | assumption | refine GLB_app ?_)) ?_) | (refine ld_step rfl ((rd_x0 _ _ _ _ _).trans rfl) rfl ?_) | (refine ld_step rfl ((rd_x1 _ _ _ _ _ _).trans rfl) rfl ?_) | (refine ld_step rfl ((rd_x2 _ _ _ _ _ _ _).trans rfl) rfl ?_) | (refine lds_step rfl ((rd_x0 _ _ _ _ _).trans rfl) rfl ?_) | (refine lds_step rfl ((rd_x1 _ _ _ _ _ _).trans rfl) rfl ?_) | (refine lds_step rfl ((rd_x2 _ _ _ _ _ _ _).trans rfl) rfl ?_) | (refine mem_step (st_eq rfl rfl rfl rfl (wr_last _ _ _ _ rfl)) ?_) | (refine drec_yes (by omega) ?_) | (refine drec_no (by omega) ?_) | (intro _) | fail)
          all_goals (conv => whnf)
          all_goals exact leafE hqq rfl
    | false =>
      obtain ⟨l, hll⟩ : ∃ l, l = bL s := ⟨_, rfl⟩
      rw [← hll] at hx hq hl4 hsz
      have hcs : (if hexB (bL s) then s.extract 2 s.size else s) = s := by rw [← hll, hx]; rfl
      have hxs : hexB (bL s) = false := by rw [← hll]; exact hx
      have hszi : ((s.size : Nat) : Int) = (l.length : Int) := by omega
      by_cases hz0 : (decide (1 < l.length) && l.headD 0 == 48) = true
      · have hp : parB l = false := by rw [par_dec hx, hz0]; rfl
        rw [parI_no hp, hp] at hq
        rw [Bool.and_eq_true, decide_eq_true_eq] at hz0
        have hix := fun {tm : List SV} {x i : Opd} (hx : x.val tm = some (.str s)) (hi : i.val tm = some (.int .i64 0)) => ixstr_eq (k := 0) hx hi rfl (by rw [← hll]; omega)
        simp only [← hll] at hix
        have hh : (l[0]'(by omega) == 48) = true := by
          have := hz0.2
          rw [List.headD_eq_head?_getD, List.head?_eq_getElem?, List.getElem?_eq_getElem (by omega), Option.getD_some] at this
          exact this
        have d1 : decide ((l.length : Int) > 1) = true := decide_eq_true (by omega)
        repeat' (conv => whnf
                 first | (refine Stop.mk ?_) | (refine fO_is hxs ?_) | (refine fI_is hszi ?_) | (refine fO_is d1 ?_) | (refine fO_is hh ?_) | (with_reducible refine fI_is (a := (l.length : Int)) rfl ?_) | (with_reducible refine fI_is (a := l[0]'(by omega)) rfl ?_) | (refine fI_gen ?_; intro z hz) | (refine fO_gen ?_; intro z hz) | (refine And.intro (show bL _ = [48, 120] from rfl) ?_; rw [hcs]) | (refine pure_step (hix rfl rfl) ?_) | (refine dec_true (by assumption) ?_) | (refine dec_false (by assumption) ?_) | (refine dec_split (fun h => ?_) (fun h => ?_)) | (apply silE) | (refine Both.mk ?_ ?_) | (refine And.intro rfl ?_) | (exact And.intro rfl (And.intro rfl (And.intro rfl rfl))) | (refine And.intro (by first | omega | ((simp only [decide_eq_true_eq, decide_eq_false_iff_not, Bool.and_eq_true, beq_iff_eq, Bool.not_eq_true', Bool.not_eq_false'] at *); omega) | (subst_vars; simp only [Int.ofNat_eq_natCast, tq_not, fq_not, tq_and, fq_and, tq_or, fq_or, tq_beq, fq_beq, tq_bne, fq_bne, tq_dec, fq_dec, one1, V.tup.injEq, V.agg.injEq, List.cons.injEq, V.int.injEq, V.bool.injEq, true_and, and_true, decide_eq_true_eq, decide_eq_false_iff_not, Bool.and_eq_true, Bool.and_eq_false_iff, Bool.or_eq_true, Bool.or_eq_false_iff, Bool.not_eq_true', Bool.not_eq_false', beq_iff_eq, wrap_u32, wrap_i64, wrap_u8, beq_eq_false_iff_ne, ne_eq, bne_iff_ne, bne_eq_false_iff_eq, eq_self, and_self, splice, V.cells, List.take_succ_cons, List.take_zero, List.take_nil, List.drop_zero, List.drop_succ_cons, List.drop_nil, List.cons_append, List.nil_append, List.append_nil, List.length_cons, List.length_nil, Nat.zero_add, Nat.reduceAdd, if_true, if_false, Bool.false_eq_true, beq_self_eq_true, decide_eq_decide, Bool.true_eq_false, or_false, false_or, or_true, true_or, and_false, false_and, not_true_eq_false, not_false_eq_true, Bool.and_true, Bool.true_and, Bool.not_true, Bool.not_false] at *; omega)) ?_) | (refine Exists.intro _ (Exists.intro _ (And.intro rfl ?_))) | (refine Exists.intro _ (And.intro rfl ?_)) | (refine Exists.intro _ (Exists.intro _ (Exists.intro _ (Exists.intro _ (And.intro rfl ?_))))) | (refine ld_step rfl (by assumption) rfl ?_) | (refine lds_step rfl (by assumption) rfl ?_) | (refine fL_mk ?_) | (refine fH_mk ?_) | (refine fN_mk ?_) | (refine fLB_mk ?_) | (refine And.intro (by repeat (first | assumption | refine GLB_app ?_)) ?_) | (refine ld_step rfl ((rd_x0 _ _ _ _ _).trans rfl) rfl ?_) | (refine ld_step rfl ((rd_x1 _ _ _ _ _ _).trans rfl) rfl ?_) | (refine ld_step rfl ((rd_x2 _ _ _ _ _ _ _).trans rfl) rfl ?_) | (refine lds_step rfl ((rd_x0 _ _ _ _ _).trans rfl) rfl ?_) | (refine lds_step rfl ((rd_x1 _ _ _ _ _ _).trans rfl) rfl ?_) | (refine lds_step rfl ((rd_x2 _ _ _ _ _ _ _).trans rfl) rfl ?_) | (refine mem_step (st_eq rfl rfl rfl rfl (wr_last _ _ _ _ rfl)) ?_) | (refine drec_yes (by omega) ?_) | (refine drec_no (by omega) ?_) | (intro _) | fail)
        all_goals (conv => whnf)
        all_goals exact leafE hq rfl
      · have hz1 : (decide (1 < l.length) && l.headD 0 == 48) = false := by simpa using hz0
        have hqF : numB 10 l = false → Q (.tup [.int .u32 0, .bool false]) Hx false false := fun h => by
          have hp : parB l = false := by rw [par_dec hx, h]; simp
          rw [parI_no hp, hp] at hq; exact hq
        have hqL : 10 < l.length → Q (.tup [.int .u32 0, .bool false]) Hx false false := fun h => by
          have hp : parB l = false := by rw [par_dec hx, decide_eq_false (show ¬ l.length ≤ 10 by omega)]; simp
          rw [parI_no hp, hp] at hq; exact hq
        have hqT : l.length ≤ 10 → numB 10 l = true → Q (.tup [.int .u32 (accV 10 l), .bool true]) Hx false false := fun h1 h => by
          have hp : parB l = true := by rw [par_dec hx, hz1, h, decide_eq_true h1]; rfl
          rw [parI_dec hx hp, hp] at hq; exact hq
        by_cases h1 : 1 < l.length
        · have dg : decide ((l.length : Int) > 1) = true := decide_eq_true (by omega)
          have hix0 := fun {tm : List SV} {x i : Opd} (hx : x.val tm = some (.str s)) (hi : i.val tm = some (.int .i64 0)) => ixstr_eq (k := 0) hx hi rfl (by rw [← hll]; omega)
          simp only [← hll] at hix0
          have hh : (l[0]'(by omega) == 48) = false := by
            rw [decide_eq_true h1, Bool.true_and] at hz1
            rw [List.headD_eq_head?_getD, List.head?_eq_getElem?, List.getElem?_eq_getElem (by omega), Option.getD_some] at hz1
            exact hz1
          by_cases hne : l = []
          · have hnb : numB 10 l = false := by unfold numB; rw [decide_eq_false (by simpa using hne)]; rfl
            have hqq := hqF hnb
            have d0 : ((s).toList == (ByteArray.mk (Array.mk [])).toList) = true := by rw [bL_inj]; exact decide_eq_true (by rw [← hll, hne]; rfl)
            repeat' (conv => whnf
                     first | (refine Stop.mk ?_) | (refine fO_is hxs ?_) | (refine fI_is hszi ?_) | (refine fO_is dg ?_) | (refine fO_is hh ?_) | (with_reducible refine fI_is (a := (l.length : Int)) rfl ?_) | (with_reducible refine fI_is (a := l[0]'(by omega)) rfl ?_) | (refine fO_is d0 ?_) | (refine fI_gen ?_; intro z hz) | (refine fO_gen ?_; intro z hz) | (refine And.intro (show bL _ = [48, 120] from rfl) ?_; rw [hcs]) | (refine pure_step (hix0 rfl rfl) ?_) | (refine dec_true (by assumption) ?_) | (refine dec_false (by assumption) ?_) | (refine dec_split (fun h => ?_) (fun h => ?_)) | (apply silE) | (refine Both.mk ?_ ?_) | (refine And.intro rfl ?_) | (exact And.intro rfl (And.intro rfl (And.intro rfl rfl))) | (refine And.intro (by first | omega | ((simp only [decide_eq_true_eq, decide_eq_false_iff_not, Bool.and_eq_true, beq_iff_eq, Bool.not_eq_true', Bool.not_eq_false'] at *); omega) | (subst_vars; simp only [Int.ofNat_eq_natCast, tq_not, fq_not, tq_and, fq_and, tq_or, fq_or, tq_beq, fq_beq, tq_bne, fq_bne, tq_dec, fq_dec, one1, V.tup.injEq, V.agg.injEq, List.cons.injEq, V.int.injEq, V.bool.injEq, true_and, and_true, decide_eq_true_eq, decide_eq_false_iff_not, Bool.and_eq_true, Bool.and_eq_false_iff, Bool.or_eq_true, Bool.or_eq_false_iff, Bool.not_eq_true', Bool.not_eq_false', beq_iff_eq, wrap_u32, wrap_i64, wrap_u8, beq_eq_false_iff_ne, ne_eq, bne_iff_ne, bne_eq_false_iff_eq, eq_self, and_self, splice, V.cells, List.take_succ_cons, List.take_zero, List.take_nil, List.drop_zero, List.drop_succ_cons, List.drop_nil, List.cons_append, List.nil_append, List.append_nil, List.length_cons, List.length_nil, Nat.zero_add, Nat.reduceAdd, if_true, if_false, Bool.false_eq_true, beq_self_eq_true, decide_eq_decide, Bool.true_eq_false, or_false, false_or, or_true, true_or, and_false, false_and, not_true_eq_false, not_false_eq_true, Bool.and_true, Bool.true_and, Bool.not_true, Bool.not_false] at *; omega)) ?_) | (refine Exists.intro _ (Exists.intro _ (And.intro rfl ?_))) | (refine Exists.intro _ (And.intro rfl ?_)) | (refine Exists.intro _ (Exists.intro _ (Exists.intro _ (Exists.intro _ (And.intro rfl ?_))))) | (refine ld_step rfl (by assumption) rfl ?_) | (refine lds_step rfl (by assumption) rfl ?_) | (refine fL_mk ?_) | (refine fH_mk ?_) | (refine fN_mk ?_) | (refine fLB_mk ?_) | (refine And.intro (by repeat (first | assumption | refine GLB_app ?_)) ?_) | (refine ld_step rfl ((rd_x0 _ _ _ _ _).trans rfl) rfl ?_) | (refine ld_step rfl ((rd_x1 _ _ _ _ _ _).trans rfl) rfl ?_) | (refine ld_step rfl ((rd_x2 _ _ _ _ _ _ _).trans rfl) rfl ?_) | (refine lds_step rfl ((rd_x0 _ _ _ _ _).trans rfl) rfl ?_) | (refine lds_step rfl ((rd_x1 _ _ _ _ _ _).trans rfl) rfl ?_) | (refine lds_step rfl ((rd_x2 _ _ _ _ _ _ _).trans rfl) rfl ?_) | (refine mem_step (st_eq rfl rfl rfl rfl (wr_last _ _ _ _ rfl)) ?_) | (refine drec_yes (by omega) ?_) | (refine drec_no (by omega) ?_) | (intro _) | fail)
            all_goals (conv => whnf)
            all_goals exact leafE hqq rfl
          · have d0 : ((s).toList == (ByteArray.mk (Array.mk [])).toList) = false := by rw [bL_inj]; exact decide_eq_false (by rw [← hll]; exact hne)
            by_cases hm : l.length ≤ 10
            · have d1 : decide ((l.length : Int) > 10) = false := decide_eq_false (by omega)
              have hl10 : l.length ≤ 10 := by omega
              suffices hh : ∀ k, 100 < k → evFun (tab [(41, s41), (42, s42), (53, s53)]) k e21 [.str s] Hx Q from hh _ (by omega)
              intro k hk
              refine evFun_in (tm := SV.v (.str s) :: undefV :: undefV :: undefV :: undefV :: undefV :: undefV :: undefV :: undefV :: undefV :: undefV :: undefV :: undefV :: undefV :: undefV :: undefV :: undefV :: undefV :: undefV :: undefV :: undefV :: undefV :: undefV :: undefV :: undefV :: undefV :: undefV :: undefV :: undefV :: undefV :: undefV :: undefV :: undefV :: undefV :: undefV :: undefV :: undefV :: undefV :: undefV :: undefV :: undefV :: undefV :: undefV :: undefV :: undefV :: undefV :: undefV :: undefV :: undefV :: undefV :: undefV :: undefV :: undefV :: undefV :: undefV :: undefV :: undefV :: undefV :: undefV :: undefV :: undefV :: undefV :: undefV :: []) rfl ?_
              show rC _ _ r21_0 _ _ _ _ _ _
              repeat' (conv => whnf
                       first | (refine Stop.mk ?_) | (refine fO_is hxs ?_) | (refine fI_is hszi ?_) | (refine fO_is dg ?_) | (refine fO_is hh ?_) | (with_reducible refine fI_is (a := (l.length : Int)) rfl ?_) | (with_reducible refine fI_is (a := l[0]'(by omega)) rfl ?_) | (refine fO_is d0 ?_) | (refine fI_is hszi ?_) | (refine fO_is d1 ?_) | (with_reducible refine fI_is (a := (l.length : Int)) rfl ?_) | (refine fI_gen ?_; intro z hz) | (refine fO_gen ?_; intro z hz) | (refine And.intro (show bL _ = [48, 120] from rfl) ?_; rw [hcs]) | (refine pure_step (hix0 rfl rfl) ?_) | (refine dec_true (by assumption) ?_) | (refine dec_false (by assumption) ?_) | (refine dec_split (fun h => ?_) (fun h => ?_)) | (apply silE) | (refine Both.mk ?_ ?_) | (refine And.intro rfl ?_) | (exact And.intro rfl (And.intro rfl (And.intro rfl rfl))) | (refine And.intro (by first | omega | ((simp only [decide_eq_true_eq, decide_eq_false_iff_not, Bool.and_eq_true, beq_iff_eq, Bool.not_eq_true', Bool.not_eq_false'] at *); omega) | (subst_vars; simp only [Int.ofNat_eq_natCast, tq_not, fq_not, tq_and, fq_and, tq_or, fq_or, tq_beq, fq_beq, tq_bne, fq_bne, tq_dec, fq_dec, one1, V.tup.injEq, V.agg.injEq, List.cons.injEq, V.int.injEq, V.bool.injEq, true_and, and_true, decide_eq_true_eq, decide_eq_false_iff_not, Bool.and_eq_true, Bool.and_eq_false_iff, Bool.or_eq_true, Bool.or_eq_false_iff, Bool.not_eq_true', Bool.not_eq_false', beq_iff_eq, wrap_u32, wrap_i64, wrap_u8, beq_eq_false_iff_ne, ne_eq, bne_iff_ne, bne_eq_false_iff_eq, eq_self, and_self, splice, V.cells, List.take_succ_cons, List.take_zero, List.take_nil, List.drop_zero, List.drop_succ_cons, List.drop_nil, List.cons_append, List.nil_append, List.append_nil, List.length_cons, List.length_nil, Nat.zero_add, Nat.reduceAdd, if_true, if_false, Bool.false_eq_true, beq_self_eq_true, decide_eq_decide, Bool.true_eq_false, or_false, false_or, or_true, true_or, and_false, false_and, not_true_eq_false, not_false_eq_true, Bool.and_true, Bool.true_and, Bool.not_true, Bool.not_false] at *; omega)) ?_) | (refine Exists.intro _ (Exists.intro _ (And.intro rfl ?_))) | (refine Exists.intro _ (And.intro rfl ?_)) | (refine Exists.intro _ (Exists.intro _ (Exists.intro _ (Exists.intro _ (And.intro rfl ?_))))) | (refine ld_step rfl (by assumption) rfl ?_) | (refine lds_step rfl (by assumption) rfl ?_) | (refine fL_mk ?_) | (refine fH_mk ?_) | (refine fN_mk ?_) | (refine fLB_mk ?_) | (refine And.intro (by repeat (first | assumption | refine GLB_app ?_)) ?_) | (refine ld_step rfl ((rd_x0 _ _ _ _ _).trans rfl) rfl ?_) | (refine ld_step rfl ((rd_x1 _ _ _ _ _ _).trans rfl) rfl ?_) | (refine ld_step rfl ((rd_x2 _ _ _ _ _ _ _).trans rfl) rfl ?_) | (refine lds_step rfl ((rd_x0 _ _ _ _ _).trans rfl) rfl ?_) | (refine lds_step rfl ((rd_x1 _ _ _ _ _ _).trans rfl) rfl ?_) | (refine lds_step rfl ((rd_x2 _ _ _ _ _ _ _).trans rfl) rfl ?_) | (refine mem_step (st_eq rfl rfl rfl rfl (wr_last _ _ _ _ rfl)) ?_) | (refine drec_yes (by omega) ?_) | (refine drec_no (by omega) ?_) | (intro _) | fail)
              conv => whnf
              repeat' (conv => whnf
                       first | (refine Stop.mk ?_) | (refine fI_mk ?_) | (refine fO_mk ?_) | (refine fN_mk ?_) | fail)
              conv => whnf
              refine rLoop_ctr (c := rC (tab [(41, s41), (42, s42), (53, s53)]) k l21_0) l.length 40 (false :: false :: true :: true :: false :: false :: false :: false :: false :: true :: true :: true :: true :: false :: false :: false :: false :: false :: false :: false :: false :: false :: false :: false :: false :: false :: false :: false :: false :: false :: false :: false :: false :: false :: false :: false :: false :: false :: false :: false :: false :: true :: true :: true :: true :: true :: true :: true :: true :: true :: true :: true :: true :: true :: true :: true :: true :: true :: true :: false :: false :: false :: false :: []) (fun i tm L H e g => svAt tm 9 = .v (.int .i64 (accV 10 (l.take i))) ∧ okDig 10 (l.take i) = true ∧ L = [] ∧ H = Hx ++ [.rw 3 [.int .i64 10]] ∧ e = false ∧ g = true) (by omega) rfl ⟨rfl, rfl, rfl, rfl, rfl, rfl⟩ ?_
              intro i0 hi0
              conv => whnf
              intro j
              conv => whnf
              intro j
              conv => whnf
              intro j
              conv => whnf
              intro j
              conv => whnf
              intro j
              conv => whnf
              intro j
              conv => whnf
              intro j
              conv => whnf
              intro j
              conv => whnf
              intro j
              conv => whnf
              intro j
              conv => whnf
              intro j
              conv => whnf
              intro j
              conv => whnf
              intro j
              conv => whnf
              intro j
              conv => whnf
              intro j
              conv => whnf
              intro j
              conv => whnf
              intro j
              conv => whnf
              intro j
              conv => whnf
              intro j
              conv => whnf
              intro j
              conv => whnf
              intro j
              conv => whnf
              intro j
              conv => whnf
              intro j
              conv => whnf
              intro j
              conv => whnf
              refine Halt.mk ?_
              rintro L H' e g ⟨h6, hok, rfl, rfl, rfl, rfl⟩ K kn kx kr
              conv at h6 => lhs; whnf
              subst h6
              have hpos := acc_bd (b := 10) (by decide) hok i0 (by rw [List.length_take]; omega)
              rw [List.take_take, Nat.min_self] at hpos
              have hi10 : i0 ≤ l.length := by assumption
              have h16 : (16 : Int) ^ i0 ≤ 16 ^ 10 := by
                have h17 := Nat.pow_le_pow_right (n := 16) (by decide) (show i0 ≤ 10 by omega)
                exact_mod_cast h17
              have h16' : (16 : Int) ^ 10 = 1099511627776 := by decide
              repeat' (conv => whnf
                       first | (refine Stop.mk ?_) | (refine fI_is hszi ?_) | (with_reducible refine fI_is (a := (l.length : Int)) rfl ?_) | (refine fI_mk ?_) | (refine fO_mk ?_) | (refine fN_mk ?_) | fail)
              conv => whnf
              refine dec_split (fun h => ?_) (fun h => ?_)
              · have hlt : i0 < l.length := by have h2 : (i0 : Int) < (l.length : Int) := of_decide_eq_true h; omega
                clear kx
                have hix := fun {tm : List SV} {x i : Opd} (hx : x.val tm = some (.str s)) (hi : i.val tm = some (.int .i64 (i0 : Int))) => ixstr_eq hx hi rfl (by rw [← hll]; exact hlt)
                simp only [← hll] at hix
                have hdb := digV_bd l[i0]
                by_cases hd : 0 ≤ digV l[i0] ∧ digV l[i0] < 10
                · clear kr
                  have w1 : IntKind.i64.wrap (accV 10 (l.take i0) * 10) = accV 10 (l.take i0) * 10 := wrap_i64_id (by omega) (by omega)
                  have w2 : IntKind.i64.wrap (accV 10 (l.take i0) * 10 + digV l[i0]) = accV 10 (l.take (i0 + 1)) := by
                    rw [take_snoc hlt, acc_snoc]; exact wrap_i64_id (by omega) (by omega)
                  repeat' (conv => whnf
                           first | (refine Stop.mk ?_) | (refine fO_is (decide_eq_true hd) ?_) | (refine fI_is w1 ?_) | (refine fI_is w2 ?_) | (with_reducible refine fI_is (a := l[i0]) rfl ?_) | (with_reducible refine fI_is (a := digV l[i0]) rfl ?_) | (with_reducible refine fI_is (a := accV 10 (l.take i0)) rfl ?_) | (with_reducible refine fI_is (a := accV 10 (l.take i0) * 10) rfl ?_) | (with_reducible refine fI_is (a := accV 10 (l.take (i0 + 1))) rfl ?_) | (refine fI_i64 (by first | omega | (simp only [Int.ofNat_eq_natCast] at *; omega)) ?_; intro z hz) | (refine fI_u32 (by first | omega | (simp only [Int.ofNat_eq_natCast] at *; omega)) ?_; intro z hz) | (refine fI_u8 (by first | omega | (simp only [Int.ofNat_eq_natCast] at *; omega)) ?_; intro z hz) | (refine fI_u64 (by first | omega | (simp only [Int.ofNat_eq_natCast] at *; omega)) ?_; intro z hz) | (refine fI_tdiv (by first | omega | (simp only [Int.ofNat_eq_natCast] at *; omega)) ?_; intro z hz) | (refine fI_tmod (by first | omega | (simp only [Int.ofNat_eq_natCast] at *; omega)) ?_; intro z hz) | (refine fI_gen ?_; intro z hz) | (refine fO_gen ?_; intro z hz) | (refine And.intro (GLB_app hg) (Exists.intro 10 (And.intro ((rd_x0 _ _ _ _ _).trans rfl) ?_))) | (refine pure_step (hix rfl rfl) ?_) | (refine dec_true (by assumption) ?_) | (refine dec_false (by assumption) ?_) | (refine dec_split (fun h => ?_) (fun h => ?_)) | (apply silE) | (refine Both.mk ?_ ?_) | (refine And.intro rfl ?_) | (exact And.intro rfl (And.intro rfl (And.intro rfl rfl))) | (refine And.intro (by first | omega | ((simp only [decide_eq_true_eq, decide_eq_false_iff_not, Bool.and_eq_true, beq_iff_eq, Bool.not_eq_true', Bool.not_eq_false'] at *); omega) | (subst_vars; simp only [Int.ofNat_eq_natCast, tq_not, fq_not, tq_and, fq_and, tq_or, fq_or, tq_beq, fq_beq, tq_bne, fq_bne, tq_dec, fq_dec, one1, V.tup.injEq, V.agg.injEq, List.cons.injEq, V.int.injEq, V.bool.injEq, true_and, and_true, decide_eq_true_eq, decide_eq_false_iff_not, Bool.and_eq_true, Bool.and_eq_false_iff, Bool.or_eq_true, Bool.or_eq_false_iff, Bool.not_eq_true', Bool.not_eq_false', beq_iff_eq, wrap_u32, wrap_i64, wrap_u8, beq_eq_false_iff_ne, ne_eq, bne_iff_ne, bne_eq_false_iff_eq, eq_self, and_self, splice, V.cells, List.take_succ_cons, List.take_zero, List.take_nil, List.drop_zero, List.drop_succ_cons, List.drop_nil, List.cons_append, List.nil_append, List.append_nil, List.length_cons, List.length_nil, Nat.zero_add, Nat.reduceAdd, if_true, if_false, Bool.false_eq_true, beq_self_eq_true, decide_eq_decide, Bool.true_eq_false, or_false, false_or, or_true, true_or, and_false, false_and, not_true_eq_false, not_false_eq_true, Bool.and_true, Bool.true_and, Bool.not_true, Bool.not_false] at *; omega)) ?_) | (refine Exists.intro _ (Exists.intro _ (And.intro rfl ?_))) | (refine Exists.intro _ (And.intro rfl ?_)) | (refine Exists.intro _ (Exists.intro _ (Exists.intro _ (Exists.intro _ (And.intro rfl ?_))))) | (refine ld_step rfl (by assumption) rfl ?_) | (refine lds_step rfl (by assumption) rfl ?_) | (refine fL_mk ?_) | (refine fH_mk ?_) | (refine fN_mk ?_) | (refine fLB_mk ?_) | (refine And.intro (by repeat (first | assumption | refine GLB_app ?_)) ?_) | (refine ld_step rfl ((rd_x0 _ _ _ _ _).trans rfl) rfl ?_) | (refine ld_step rfl ((rd_x1 _ _ _ _ _ _).trans rfl) rfl ?_) | (refine ld_step rfl ((rd_x2 _ _ _ _ _ _ _).trans rfl) rfl ?_) | (refine lds_step rfl ((rd_x0 _ _ _ _ _).trans rfl) rfl ?_) | (refine lds_step rfl ((rd_x1 _ _ _ _ _ _).trans rfl) rfl ?_) | (refine lds_step rfl ((rd_x2 _ _ _ _ _ _ _).trans rfl) rfl ?_) | (refine mem_step (st_eq rfl rfl rfl rfl (wr_last _ _ _ _ rfl)) ?_) | (refine drec_yes (by omega) ?_) | (refine drec_no (by omega) ?_) | (intro _) | fail)
                  all_goals (conv => whnf)
                  all_goals
                    subst hz
                    exact kn hlt _ _ _ _ _ rfl ⟨rfl, by rw [take_snoc hlt, ok_snoc, hok, decide_eq_true hd]; rfl, rfl, rfl, rfl, rfl⟩
                · clear kn
                  have hnb : numB 10 l = false := by
                    unfold numB
                    have : okDig 10 l = false := by
                      rw [Bool.eq_false_iff]
                      intro ho
                      unfold okDig at ho
                      rw [List.all_eq_true] at ho
                      exact hd (of_decide_eq_true (ho _ (List.getElem_mem hlt)))
                    rw [this]; simp
                  have hqq := hqF hnb
                  repeat' (conv => whnf
                           first | (refine Stop.mk ?_) | (refine fO_is (decide_eq_false hd) ?_) | (with_reducible refine fI_is (a := l[i0]) rfl ?_) | (with_reducible refine fI_is (a := digV l[i0]) rfl ?_) | (with_reducible refine fI_is (a := accV 10 (l.take i0)) rfl ?_) | (refine fI_gen ?_; intro z hz) | (refine fO_gen ?_; intro z hz) | (refine And.intro (GLB_app hg) (Exists.intro 10 (And.intro ((rd_x0 _ _ _ _ _).trans rfl) ?_))) | (refine pure_step (hix rfl rfl) ?_) | (refine dec_true (by assumption) ?_) | (refine dec_false (by assumption) ?_) | (refine dec_split (fun h => ?_) (fun h => ?_)) | (apply silE) | (refine Both.mk ?_ ?_) | (refine And.intro rfl ?_) | (exact And.intro rfl (And.intro rfl (And.intro rfl rfl))) | (refine And.intro (by first | omega | ((simp only [decide_eq_true_eq, decide_eq_false_iff_not, Bool.and_eq_true, beq_iff_eq, Bool.not_eq_true', Bool.not_eq_false'] at *); omega) | (subst_vars; simp only [Int.ofNat_eq_natCast, tq_not, fq_not, tq_and, fq_and, tq_or, fq_or, tq_beq, fq_beq, tq_bne, fq_bne, tq_dec, fq_dec, one1, V.tup.injEq, V.agg.injEq, List.cons.injEq, V.int.injEq, V.bool.injEq, true_and, and_true, decide_eq_true_eq, decide_eq_false_iff_not, Bool.and_eq_true, Bool.and_eq_false_iff, Bool.or_eq_true, Bool.or_eq_false_iff, Bool.not_eq_true', Bool.not_eq_false', beq_iff_eq, wrap_u32, wrap_i64, wrap_u8, beq_eq_false_iff_ne, ne_eq, bne_iff_ne, bne_eq_false_iff_eq, eq_self, and_self, splice, V.cells, List.take_succ_cons, List.take_zero, List.take_nil, List.drop_zero, List.drop_succ_cons, List.drop_nil, List.cons_append, List.nil_append, List.append_nil, List.length_cons, List.length_nil, Nat.zero_add, Nat.reduceAdd, if_true, if_false, Bool.false_eq_true, beq_self_eq_true, decide_eq_decide, Bool.true_eq_false, or_false, false_or, or_true, true_or, and_false, false_and, not_true_eq_false, not_false_eq_true, Bool.and_true, Bool.true_and, Bool.not_true, Bool.not_false] at *; omega)) ?_) | (refine Exists.intro _ (Exists.intro _ (And.intro rfl ?_))) | (refine Exists.intro _ (And.intro rfl ?_)) | (refine Exists.intro _ (Exists.intro _ (Exists.intro _ (Exists.intro _ (And.intro rfl ?_))))) | (refine ld_step rfl (by assumption) rfl ?_) | (refine lds_step rfl (by assumption) rfl ?_) | (refine fL_mk ?_) | (refine fH_mk ?_) | (refine fN_mk ?_) | (refine fLB_mk ?_) | (refine And.intro (by repeat (first | assumption | refine GLB_app ?_)) ?_) | (refine ld_step rfl ((rd_x0 _ _ _ _ _).trans rfl) rfl ?_) | (refine ld_step rfl ((rd_x1 _ _ _ _ _ _).trans rfl) rfl ?_) | (refine ld_step rfl ((rd_x2 _ _ _ _ _ _ _).trans rfl) rfl ?_) | (refine lds_step rfl ((rd_x0 _ _ _ _ _).trans rfl) rfl ?_) | (refine lds_step rfl ((rd_x1 _ _ _ _ _ _).trans rfl) rfl ?_) | (refine lds_step rfl ((rd_x2 _ _ _ _ _ _ _).trans rfl) rfl ?_) | (refine mem_step (st_eq rfl rfl rfl rfl (wr_last _ _ _ _ rfl)) ?_) | (refine drec_yes (by omega) ?_) | (refine drec_no (by omega) ?_) | (intro _) | fail)
                  all_goals (conv => whnf)
                  all_goals
                    refine kr _ _ _ _ _ ?_
                    conv => whnf
                    (try refine Stop.mk (fH_mk ?_))
                    exact leafH hqq rfl (take_app1 Hx _)
              · clear kn kr
                have hie : i0 = l.length := by have h2 : ¬ (i0 : Int) < (l.length : Int) := of_decide_eq_false h; omega
                subst hie
                rw [List.take_length] at hok hpos
                rw [List.take_length]
                by_cases hv : accV 10 l < 4294967296
                · have hnb : numB 10 l = true := by unfold numB; rw [decide_eq_true (show l ≠ [] from hne), hok, decide_eq_true hv]; rfl
                  have hqq := hqT hm hnb
                  have d3 : decide (accV 10 l ≥ 4294967296) = false := decide_eq_false (by omega)
                  have w1 : IntKind.u32.wrap (accV 10 l) = accV 10 l := by rw [wrap_u32]; omega
                  repeat' (conv => whnf
                           first | (refine Stop.mk ?_) | (refine fO_is d3 ?_) | (refine fI_is w1 ?_) | (with_reducible refine fI_is (a := accV 10 l) rfl ?_) | (refine fI_gen ?_; intro z hz) | (refine fO_gen ?_; intro z hz) | (refine kx _ _ _ _ _ _ ?_) | (refine dec_true (by assumption) ?_) | (refine dec_false (by assumption) ?_) | (refine dec_split (fun h => ?_) (fun h => ?_)) | (apply silE) | (refine Both.mk ?_ ?_) | (refine And.intro rfl ?_) | (exact And.intro rfl (And.intro rfl (And.intro rfl rfl))) | (refine And.intro (by first | omega | ((simp only [decide_eq_true_eq, decide_eq_false_iff_not, Bool.and_eq_true, beq_iff_eq, Bool.not_eq_true', Bool.not_eq_false'] at *); omega) | (subst_vars; simp only [Int.ofNat_eq_natCast, tq_not, fq_not, tq_and, fq_and, tq_or, fq_or, tq_beq, fq_beq, tq_bne, fq_bne, tq_dec, fq_dec, one1, V.tup.injEq, V.agg.injEq, List.cons.injEq, V.int.injEq, V.bool.injEq, true_and, and_true, decide_eq_true_eq, decide_eq_false_iff_not, Bool.and_eq_true, Bool.and_eq_false_iff, Bool.or_eq_true, Bool.or_eq_false_iff, Bool.not_eq_true', Bool.not_eq_false', beq_iff_eq, wrap_u32, wrap_i64, wrap_u8, beq_eq_false_iff_ne, ne_eq, bne_iff_ne, bne_eq_false_iff_eq, eq_self, and_self, splice, V.cells, List.take_succ_cons, List.take_zero, List.take_nil, List.drop_zero, List.drop_succ_cons, List.drop_nil, List.cons_append, List.nil_append, List.append_nil, List.length_cons, List.length_nil, Nat.zero_add, Nat.reduceAdd, if_true, if_false, Bool.false_eq_true, beq_self_eq_true, decide_eq_decide, Bool.true_eq_false, or_false, false_or, or_true, true_or, and_false, false_and, not_true_eq_false, not_false_eq_true, Bool.and_true, Bool.true_and, Bool.not_true, Bool.not_false] at *; omega)) ?_) | (refine Exists.intro _ (Exists.intro _ (And.intro rfl ?_))) | (refine Exists.intro _ (And.intro rfl ?_)) | (refine Exists.intro _ (Exists.intro _ (Exists.intro _ (Exists.intro _ (And.intro rfl ?_))))) | (refine ld_step rfl (by assumption) rfl ?_) | (refine lds_step rfl (by assumption) rfl ?_) | (refine fL_mk ?_) | (refine fH_mk ?_) | (refine fN_mk ?_) | (refine fLB_mk ?_) | (refine And.intro (by repeat (first | assumption | refine GLB_app ?_)) ?_) | (refine ld_step rfl ((rd_x0 _ _ _ _ _).trans rfl) rfl ?_) | (refine ld_step rfl ((rd_x1 _ _ _ _ _ _).trans rfl) rfl ?_) | (refine ld_step rfl ((rd_x2 _ _ _ _ _ _ _).trans rfl) rfl ?_) | (refine lds_step rfl ((rd_x0 _ _ _ _ _).trans rfl) rfl ?_) | (refine lds_step rfl ((rd_x1 _ _ _ _ _ _).trans rfl) rfl ?_) | (refine lds_step rfl ((rd_x2 _ _ _ _ _ _ _).trans rfl) rfl ?_) | (refine mem_step (st_eq rfl rfl rfl rfl (wr_last _ _ _ _ rfl)) ?_) | (refine drec_yes (by omega) ?_) | (refine drec_no (by omega) ?_) | (intro _) | fail)
                  all_goals (conv => whnf)
                  all_goals exact leafH hqq rfl (take_app1 Hx _)
                · have hnb : numB 10 l = false := by unfold numB; rw [decide_eq_false hv]; simp
                  have hqq := hqF hnb
                  have d3 : decide (accV 10 l ≥ 4294967296) = true := decide_eq_true (by omega)
                  repeat' (conv => whnf
                           first | (refine Stop.mk ?_) | (refine fO_is d3 ?_) | (with_reducible refine fI_is (a := accV 10 l) rfl ?_) | (refine fI_gen ?_; intro z hz) | (refine fO_gen ?_; intro z hz) | (refine kx _ _ _ _ _ _ ?_) | (refine dec_true (by assumption) ?_) | (refine dec_false (by assumption) ?_) | (refine dec_split (fun h => ?_) (fun h => ?_)) | (apply silE) | (refine Both.mk ?_ ?_) | (refine And.intro rfl ?_) | (exact And.intro rfl (And.intro rfl (And.intro rfl rfl))) | (refine And.intro (by first | omega | ((simp only [decide_eq_true_eq, decide_eq_false_iff_not, Bool.and_eq_true, beq_iff_eq, Bool.not_eq_true', Bool.not_eq_false'] at *); omega) | (subst_vars; simp only [Int.ofNat_eq_natCast, tq_not, fq_not, tq_and, fq_and, tq_or, fq_or, tq_beq, fq_beq, tq_bne, fq_bne, tq_dec, fq_dec, one1, V.tup.injEq, V.agg.injEq, List.cons.injEq, V.int.injEq, V.bool.injEq, true_and, and_true, decide_eq_true_eq, decide_eq_false_iff_not, Bool.and_eq_true, Bool.and_eq_false_iff, Bool.or_eq_true, Bool.or_eq_false_iff, Bool.not_eq_true', Bool.not_eq_false', beq_iff_eq, wrap_u32, wrap_i64, wrap_u8, beq_eq_false_iff_ne, ne_eq, bne_iff_ne, bne_eq_false_iff_eq, eq_self, and_self, splice, V.cells, List.take_succ_cons, List.take_zero, List.take_nil, List.drop_zero, List.drop_succ_cons, List.drop_nil, List.cons_append, List.nil_append, List.append_nil, List.length_cons, List.length_nil, Nat.zero_add, Nat.reduceAdd, if_true, if_false, Bool.false_eq_true, beq_self_eq_true, decide_eq_decide, Bool.true_eq_false, or_false, false_or, or_true, true_or, and_false, false_and, not_true_eq_false, not_false_eq_true, Bool.and_true, Bool.true_and, Bool.not_true, Bool.not_false] at *; omega)) ?_) | (refine Exists.intro _ (Exists.intro _ (And.intro rfl ?_))) | (refine Exists.intro _ (And.intro rfl ?_)) | (refine Exists.intro _ (Exists.intro _ (Exists.intro _ (Exists.intro _ (And.intro rfl ?_))))) | (refine ld_step rfl (by assumption) rfl ?_) | (refine lds_step rfl (by assumption) rfl ?_) | (refine fL_mk ?_) | (refine fH_mk ?_) | (refine fN_mk ?_) | (refine fLB_mk ?_) | (refine And.intro (by repeat (first | assumption | refine GLB_app ?_)) ?_) | (refine ld_step rfl ((rd_x0 _ _ _ _ _).trans rfl) rfl ?_) | (refine ld_step rfl ((rd_x1 _ _ _ _ _ _).trans rfl) rfl ?_) | (refine ld_step rfl ((rd_x2 _ _ _ _ _ _ _).trans rfl) rfl ?_) | (refine lds_step rfl ((rd_x0 _ _ _ _ _).trans rfl) rfl ?_) | (refine lds_step rfl ((rd_x1 _ _ _ _ _ _).trans rfl) rfl ?_) | (refine lds_step rfl ((rd_x2 _ _ _ _ _ _ _).trans rfl) rfl ?_) | (refine mem_step (st_eq rfl rfl rfl rfl (wr_last _ _ _ _ rfl)) ?_) | (refine drec_yes (by omega) ?_) | (refine drec_no (by omega) ?_) | (intro _) | fail)
                  all_goals (conv => whnf)
                  all_goals exact leafH hqq rfl (take_app1 Hx _)
            · have d1 : decide ((l.length : Int) > 10) = true := decide_eq_true (by omega)
              have hqq := hqL (by omega)
              repeat' (conv => whnf
                       first | (refine Stop.mk ?_) | (refine fO_is hxs ?_) | (refine fI_is hszi ?_) | (refine fO_is dg ?_) | (refine fO_is hh ?_) | (with_reducible refine fI_is (a := (l.length : Int)) rfl ?_) | (with_reducible refine fI_is (a := l[0]'(by omega)) rfl ?_) | (refine fO_is d0 ?_) | (refine fI_is hszi ?_) | (refine fO_is d1 ?_) | (with_reducible refine fI_is (a := (l.length : Int)) rfl ?_) | (refine fI_gen ?_; intro z hz) | (refine fO_gen ?_; intro z hz) | (refine And.intro (show bL _ = [48, 120] from rfl) ?_; rw [hcs]) | (refine pure_step (hix0 rfl rfl) ?_) | (refine dec_true (by assumption) ?_) | (refine dec_false (by assumption) ?_) | (refine dec_split (fun h => ?_) (fun h => ?_)) | (apply silE) | (refine Both.mk ?_ ?_) | (refine And.intro rfl ?_) | (exact And.intro rfl (And.intro rfl (And.intro rfl rfl))) | (refine And.intro (by first | omega | ((simp only [decide_eq_true_eq, decide_eq_false_iff_not, Bool.and_eq_true, beq_iff_eq, Bool.not_eq_true', Bool.not_eq_false'] at *); omega) | (subst_vars; simp only [Int.ofNat_eq_natCast, tq_not, fq_not, tq_and, fq_and, tq_or, fq_or, tq_beq, fq_beq, tq_bne, fq_bne, tq_dec, fq_dec, one1, V.tup.injEq, V.agg.injEq, List.cons.injEq, V.int.injEq, V.bool.injEq, true_and, and_true, decide_eq_true_eq, decide_eq_false_iff_not, Bool.and_eq_true, Bool.and_eq_false_iff, Bool.or_eq_true, Bool.or_eq_false_iff, Bool.not_eq_true', Bool.not_eq_false', beq_iff_eq, wrap_u32, wrap_i64, wrap_u8, beq_eq_false_iff_ne, ne_eq, bne_iff_ne, bne_eq_false_iff_eq, eq_self, and_self, splice, V.cells, List.take_succ_cons, List.take_zero, List.take_nil, List.drop_zero, List.drop_succ_cons, List.drop_nil, List.cons_append, List.nil_append, List.append_nil, List.length_cons, List.length_nil, Nat.zero_add, Nat.reduceAdd, if_true, if_false, Bool.false_eq_true, beq_self_eq_true, decide_eq_decide, Bool.true_eq_false, or_false, false_or, or_true, true_or, and_false, false_and, not_true_eq_false, not_false_eq_true, Bool.and_true, Bool.true_and, Bool.not_true, Bool.not_false] at *; omega)) ?_) | (refine Exists.intro _ (Exists.intro _ (And.intro rfl ?_))) | (refine Exists.intro _ (And.intro rfl ?_)) | (refine Exists.intro _ (Exists.intro _ (Exists.intro _ (Exists.intro _ (And.intro rfl ?_))))) | (refine ld_step rfl (by assumption) rfl ?_) | (refine lds_step rfl (by assumption) rfl ?_) | (refine fL_mk ?_) | (refine fH_mk ?_) | (refine fN_mk ?_) | (refine fLB_mk ?_) | (refine And.intro (by repeat (first | assumption | refine GLB_app ?_)) ?_) | (refine ld_step rfl ((rd_x0 _ _ _ _ _).trans rfl) rfl ?_) | (refine ld_step rfl ((rd_x1 _ _ _ _ _ _).trans rfl) rfl ?_) | (refine ld_step rfl ((rd_x2 _ _ _ _ _ _ _).trans rfl) rfl ?_) | (refine lds_step rfl ((rd_x0 _ _ _ _ _).trans rfl) rfl ?_) | (refine lds_step rfl ((rd_x1 _ _ _ _ _ _).trans rfl) rfl ?_) | (refine lds_step rfl ((rd_x2 _ _ _ _ _ _ _).trans rfl) rfl ?_) | (refine mem_step (st_eq rfl rfl rfl rfl (wr_last _ _ _ _ rfl)) ?_) | (refine drec_yes (by omega) ?_) | (refine drec_no (by omega) ?_) | (intro _) | fail)
              all_goals (conv => whnf)
              all_goals exact leafE hqq rfl
        · have dg : decide ((l.length : Int) > 1) = false := decide_eq_false (by omega)
          by_cases hne : l = []
          · have hnb : numB 10 l = false := by unfold numB; rw [decide_eq_false (by simpa using hne)]; rfl
            have hqq := hqF hnb
            have d0 : ((s).toList == (ByteArray.mk (Array.mk [])).toList) = true := by rw [bL_inj]; exact decide_eq_true (by rw [← hll, hne]; rfl)
            repeat' (conv => whnf
                     first | (refine Stop.mk ?_) | (refine fO_is hxs ?_) | (refine fI_is hszi ?_) | (refine fO_is dg ?_) | (with_reducible refine fI_is (a := (l.length : Int)) rfl ?_) | (refine fO_is d0 ?_) | (refine fI_gen ?_; intro z hz) | (refine fO_gen ?_; intro z hz) | (refine And.intro (show bL _ = [48, 120] from rfl) ?_; rw [hcs]) | (refine dec_true (by assumption) ?_) | (refine dec_false (by assumption) ?_) | (refine dec_split (fun h => ?_) (fun h => ?_)) | (apply silE) | (refine Both.mk ?_ ?_) | (refine And.intro rfl ?_) | (exact And.intro rfl (And.intro rfl (And.intro rfl rfl))) | (refine And.intro (by first | omega | ((simp only [decide_eq_true_eq, decide_eq_false_iff_not, Bool.and_eq_true, beq_iff_eq, Bool.not_eq_true', Bool.not_eq_false'] at *); omega) | (subst_vars; simp only [Int.ofNat_eq_natCast, tq_not, fq_not, tq_and, fq_and, tq_or, fq_or, tq_beq, fq_beq, tq_bne, fq_bne, tq_dec, fq_dec, one1, V.tup.injEq, V.agg.injEq, List.cons.injEq, V.int.injEq, V.bool.injEq, true_and, and_true, decide_eq_true_eq, decide_eq_false_iff_not, Bool.and_eq_true, Bool.and_eq_false_iff, Bool.or_eq_true, Bool.or_eq_false_iff, Bool.not_eq_true', Bool.not_eq_false', beq_iff_eq, wrap_u32, wrap_i64, wrap_u8, beq_eq_false_iff_ne, ne_eq, bne_iff_ne, bne_eq_false_iff_eq, eq_self, and_self, splice, V.cells, List.take_succ_cons, List.take_zero, List.take_nil, List.drop_zero, List.drop_succ_cons, List.drop_nil, List.cons_append, List.nil_append, List.append_nil, List.length_cons, List.length_nil, Nat.zero_add, Nat.reduceAdd, if_true, if_false, Bool.false_eq_true, beq_self_eq_true, decide_eq_decide, Bool.true_eq_false, or_false, false_or, or_true, true_or, and_false, false_and, not_true_eq_false, not_false_eq_true, Bool.and_true, Bool.true_and, Bool.not_true, Bool.not_false] at *; omega)) ?_) | (refine Exists.intro _ (Exists.intro _ (And.intro rfl ?_))) | (refine Exists.intro _ (And.intro rfl ?_)) | (refine Exists.intro _ (Exists.intro _ (Exists.intro _ (Exists.intro _ (And.intro rfl ?_))))) | (refine ld_step rfl (by assumption) rfl ?_) | (refine lds_step rfl (by assumption) rfl ?_) | (refine fL_mk ?_) | (refine fH_mk ?_) | (refine fN_mk ?_) | (refine fLB_mk ?_) | (refine And.intro (by repeat (first | assumption | refine GLB_app ?_)) ?_) | (refine ld_step rfl ((rd_x0 _ _ _ _ _).trans rfl) rfl ?_) | (refine ld_step rfl ((rd_x1 _ _ _ _ _ _).trans rfl) rfl ?_) | (refine ld_step rfl ((rd_x2 _ _ _ _ _ _ _).trans rfl) rfl ?_) | (refine lds_step rfl ((rd_x0 _ _ _ _ _).trans rfl) rfl ?_) | (refine lds_step rfl ((rd_x1 _ _ _ _ _ _).trans rfl) rfl ?_) | (refine lds_step rfl ((rd_x2 _ _ _ _ _ _ _).trans rfl) rfl ?_) | (refine mem_step (st_eq rfl rfl rfl rfl (wr_last _ _ _ _ rfl)) ?_) | (refine drec_yes (by omega) ?_) | (refine drec_no (by omega) ?_) | (intro _) | fail)
            all_goals (conv => whnf)
            all_goals exact leafE hqq rfl
          · have d0 : ((s).toList == (ByteArray.mk (Array.mk [])).toList) = false := by rw [bL_inj]; exact decide_eq_false (by rw [← hll]; exact hne)
            by_cases hm : l.length ≤ 10
            · have d1 : decide ((l.length : Int) > 10) = false := decide_eq_false (by omega)
              have hl10 : l.length ≤ 10 := by omega
              suffices hh : ∀ k, 100 < k → evFun (tab [(41, s41), (42, s42), (53, s53)]) k e21 [.str s] Hx Q from hh _ (by omega)
              intro k hk
              refine evFun_in (tm := SV.v (.str s) :: undefV :: undefV :: undefV :: undefV :: undefV :: undefV :: undefV :: undefV :: undefV :: undefV :: undefV :: undefV :: undefV :: undefV :: undefV :: undefV :: undefV :: undefV :: undefV :: undefV :: undefV :: undefV :: undefV :: undefV :: undefV :: undefV :: undefV :: undefV :: undefV :: undefV :: undefV :: undefV :: undefV :: undefV :: undefV :: undefV :: undefV :: undefV :: undefV :: undefV :: undefV :: undefV :: undefV :: undefV :: undefV :: undefV :: undefV :: undefV :: undefV :: undefV :: undefV :: undefV :: undefV :: undefV :: undefV :: undefV :: undefV :: undefV :: undefV :: undefV :: undefV :: undefV :: []) rfl ?_
              show rC _ _ r21_0 _ _ _ _ _ _
              repeat' (conv => whnf
                       first | (refine Stop.mk ?_) | (refine fO_is hxs ?_) | (refine fI_is hszi ?_) | (refine fO_is dg ?_) | (with_reducible refine fI_is (a := (l.length : Int)) rfl ?_) | (refine fO_is d0 ?_) | (refine fI_is hszi ?_) | (refine fO_is d1 ?_) | (with_reducible refine fI_is (a := (l.length : Int)) rfl ?_) | (refine fI_gen ?_; intro z hz) | (refine fO_gen ?_; intro z hz) | (refine And.intro (show bL _ = [48, 120] from rfl) ?_; rw [hcs]) | (refine dec_true (by assumption) ?_) | (refine dec_false (by assumption) ?_) | (refine dec_split (fun h => ?_) (fun h => ?_)) | (apply silE) | (refine Both.mk ?_ ?_) | (refine And.intro rfl ?_) | (exact And.intro rfl (And.intro rfl (And.intro rfl rfl))) | (refine And.intro (by first | omega | ((simp only [decide_eq_true_eq, decide_eq_false_iff_not, Bool.and_eq_true, beq_iff_eq, Bool.not_eq_true', Bool.not_eq_false'] at *); omega) | (subst_vars; simp only [Int.ofNat_eq_natCast, tq_not, fq_not, tq_and, fq_and, tq_or, fq_or, tq_beq, fq_beq, tq_bne, fq_bne, tq_dec, fq_dec, one1, V.tup.injEq, V.agg.injEq, List.cons.injEq, V.int.injEq, V.bool.injEq, true_and, and_true, decide_eq_true_eq, decide_eq_false_iff_not, Bool.and_eq_true, Bool.and_eq_false_iff, Bool.or_eq_true, Bool.or_eq_false_iff, Bool.not_eq_true', Bool.not_eq_false', beq_iff_eq, wrap_u32, wrap_i64, wrap_u8, beq_eq_false_iff_ne, ne_eq, bne_iff_ne, bne_eq_false_iff_eq, eq_self, and_self, splice, V.cells, List.take_succ_cons, List.take_zero, List.take_nil, List.drop_zero, List.drop_succ_cons, List.drop_nil, List.cons_append, List.nil_append, List.append_nil, List.length_cons, List.length_nil, Nat.zero_add, Nat.reduceAdd, if_true, if_false, Bool.false_eq_true, beq_self_eq_true, decide_eq_decide, Bool.true_eq_false, or_false, false_or, or_true, true_or, and_false, false_and, not_true_eq_false, not_false_eq_true, Bool.and_true, Bool.true_and, Bool.not_true, Bool.not_false] at *; omega)) ?_) | (refine Exists.intro _ (Exists.intro _ (And.intro rfl ?_))) | (refine Exists.intro _ (And.intro rfl ?_)) | (refine Exists.intro _ (Exists.intro _ (Exists.intro _ (Exists.intro _ (And.intro rfl ?_))))) | (refine ld_step rfl (by assumption) rfl ?_) | (refine lds_step rfl (by assumption) rfl ?_) | (refine fL_mk ?_) | (refine fH_mk ?_) | (refine fN_mk ?_) | (refine fLB_mk ?_) | (refine And.intro (by repeat (first | assumption | refine GLB_app ?_)) ?_) | (refine ld_step rfl ((rd_x0 _ _ _ _ _).trans rfl) rfl ?_) | (refine ld_step rfl ((rd_x1 _ _ _ _ _ _).trans rfl) rfl ?_) | (refine ld_step rfl ((rd_x2 _ _ _ _ _ _ _).trans rfl) rfl ?_) | (refine lds_step rfl ((rd_x0 _ _ _ _ _).trans rfl) rfl ?_) | (refine lds_step rfl ((rd_x1 _ _ _ _ _ _).trans rfl) rfl ?_) | (refine lds_step rfl ((rd_x2 _ _ _ _ _ _ _).trans rfl) rfl ?_) | (refine mem_step (st_eq rfl rfl rfl rfl (wr_last _ _ _ _ rfl)) ?_) | (refine drec_yes (by omega) ?_) | (refine drec_no (by omega) ?_) | (intro _) | fail)
              conv => whnf
              repeat' (conv => whnf
                       first | (refine Stop.mk ?_) | (refine fI_mk ?_) | (refine fO_mk ?_) | (refine fN_mk ?_) | fail)
              conv => whnf
              refine rLoop_ctr (c := rC (tab [(41, s41), (42, s42), (53, s53)]) k l21_0) l.length 40 (false :: false :: true :: true :: false :: false :: false :: false :: false :: true :: true :: true :: true :: false :: false :: false :: false :: false :: false :: false :: false :: false :: false :: false :: false :: false :: false :: false :: false :: false :: false :: false :: false :: false :: false :: false :: false :: false :: false :: false :: false :: true :: true :: true :: true :: true :: true :: true :: true :: true :: true :: true :: true :: true :: true :: true :: true :: true :: true :: false :: false :: false :: false :: []) (fun i tm L H e g => svAt tm 9 = .v (.int .i64 (accV 10 (l.take i))) ∧ okDig 10 (l.take i) = true ∧ L = [] ∧ H = Hx ++ [.rw 3 [.int .i64 10]] ∧ e = false ∧ g = true) (by omega) rfl ⟨rfl, rfl, rfl, rfl, rfl, rfl⟩ ?_
              intro i0 hi0
              conv => whnf
              intro j
              conv => whnf
              intro j
              conv => whnf
              intro j
              conv => whnf
              intro j
              conv => whnf
              intro j
              conv => whnf
              intro j
              conv => whnf
              intro j
              conv => whnf
              intro j
              conv => whnf
              intro j
              conv => whnf
              intro j
              conv => whnf
              intro j
              conv => whnf
              intro j
              conv => whnf
              intro j
              conv => whnf
              intro j
              conv => whnf
              intro j
              conv => whnf
              intro j
              conv => whnf
              intro j
              conv => whnf
              intro j
              conv => whnf
              intro j
              conv => whnf
              intro j
              conv => whnf
              intro j
              conv => whnf
              intro j
              conv => whnf
              intro j
              conv => whnf
              intro j
              conv => whnf
              refine Halt.mk ?_
              rintro L H' e g ⟨h6, hok, rfl, rfl, rfl, rfl⟩ K kn kx kr
              conv at h6 => lhs; whnf
              subst h6
              have hpos := acc_bd (b := 10) (by decide) hok i0 (by rw [List.length_take]; omega)
              rw [List.take_take, Nat.min_self] at hpos
              have hi10 : i0 ≤ l.length := by assumption
              have h16 : (16 : Int) ^ i0 ≤ 16 ^ 10 := by
                have h17 := Nat.pow_le_pow_right (n := 16) (by decide) (show i0 ≤ 10 by omega)
                exact_mod_cast h17
              have h16' : (16 : Int) ^ 10 = 1099511627776 := by decide
              repeat' (conv => whnf
                       first | (refine Stop.mk ?_) | (refine fI_is hszi ?_) | (with_reducible refine fI_is (a := (l.length : Int)) rfl ?_) | (refine fI_mk ?_) | (refine fO_mk ?_) | (refine fN_mk ?_) | fail)
              conv => whnf
              refine dec_split (fun h => ?_) (fun h => ?_)
              · have hlt : i0 < l.length := by have h2 : (i0 : Int) < (l.length : Int) := of_decide_eq_true h; omega
                clear kx
                have hix := fun {tm : List SV} {x i : Opd} (hx : x.val tm = some (.str s)) (hi : i.val tm = some (.int .i64 (i0 : Int))) => ixstr_eq hx hi rfl (by rw [← hll]; exact hlt)
                simp only [← hll] at hix
                have hdb := digV_bd l[i0]
                by_cases hd : 0 ≤ digV l[i0] ∧ digV l[i0] < 10
                · clear kr
                  have w1 : IntKind.i64.wrap (accV 10 (l.take i0) * 10) = accV 10 (l.take i0) * 10 := wrap_i64_id (by omega) (by omega)
                  have w2 : IntKind.i64.wrap (accV 10 (l.take i0) * 10 + digV l[i0]) = accV 10 (l.take (i0 + 1)) := by
                    rw [take_snoc hlt, acc_snoc]; exact wrap_i64_id (by omega) (by omega)
                  repeat' (conv => whnf
                           first | (refine Stop.mk ?_) | (refine fO_is (decide_eq_true hd) ?_) | (refine fI_is w1 ?_) | (refine fI_is w2 ?_) | (with_reducible refine fI_is (a := l[i0]) rfl ?_) | (with_reducible refine fI_is (a := digV l[i0]) rfl ?_) | (with_reducible refine fI_is (a := accV 10 (l.take i0)) rfl ?_) | (with_reducible refine fI_is (a := accV 10 (l.take i0) * 10) rfl ?_) | (with_reducible refine fI_is (a := accV 10 (l.take (i0 + 1))) rfl ?_) | (refine fI_i64 (by first | omega | (simp only [Int.ofNat_eq_natCast] at *; omega)) ?_; intro z hz) | (refine fI_u32 (by first | omega | (simp only [Int.ofNat_eq_natCast] at *; omega)) ?_; intro z hz) | (refine fI_u8 (by first | omega | (simp only [Int.ofNat_eq_natCast] at *; omega)) ?_; intro z hz) | (refine fI_u64 (by first | omega | (simp only [Int.ofNat_eq_natCast] at *; omega)) ?_; intro z hz) | (refine fI_tdiv (by first | omega | (simp only [Int.ofNat_eq_natCast] at *; omega)) ?_; intro z hz) | (refine fI_tmod (by first | omega | (simp only [Int.ofNat_eq_natCast] at *; omega)) ?_; intro z hz) | (refine fI_gen ?_; intro z hz) | (refine fO_gen ?_; intro z hz) | (refine And.intro (GLB_app hg) (Exists.intro 10 (And.intro ((rd_x0 _ _ _ _ _).trans rfl) ?_))) | (refine pure_step (hix rfl rfl) ?_) | (refine dec_true (by assumption) ?_) | (refine dec_false (by assumption) ?_) | (refine dec_split (fun h => ?_) (fun h => ?_)) | (apply silE) | (refine Both.mk ?_ ?_) | (refine And.intro rfl ?_) | (exact And.intro rfl (And.intro rfl (And.intro rfl rfl))) | (refine And.intro (by first | omega | ((simp only [decide_eq_true_eq, decide_eq_false_iff_not, Bool.and_eq_true, beq_iff_eq, Bool.not_eq_true', Bool.not_eq_false'] at *); omega) | (subst_vars; simp only [Int.ofNat_eq_natCast, tq_not, fq_not, tq_and, fq_and, tq_or, fq_or, tq_beq, fq_beq, tq_bne, fq_bne, tq_dec, fq_dec, one1, V.tup.injEq, V.agg.injEq, List.cons.injEq, V.int.injEq, V.bool.injEq, true_and, and_true, decide_eq_true_eq, decide_eq_false_iff_not, Bool.and_eq_true, Bool.and_eq_false_iff, Bool.or_eq_true, Bool.or_eq_false_iff, Bool.not_eq_true', Bool.not_eq_false', beq_iff_eq, wrap_u32, wrap_i64, wrap_u8, beq_eq_false_iff_ne, ne_eq, bne_iff_ne, bne_eq_false_iff_eq, eq_self, and_self, splice, V.cells, List.take_succ_cons, List.take_zero, List.take_nil, List.drop_zero, List.drop_succ_cons, List.drop_nil, List.cons_append, List.nil_append, List.append_nil, List.length_cons, List.length_nil, Nat.zero_add, Nat.reduceAdd, if_true, if_false, Bool.false_eq_true, beq_self_eq_true, decide_eq_decide, Bool.true_eq_false, or_false, false_or, or_true, true_or, and_false, false_and, not_true_eq_false, not_false_eq_true, Bool.and_true, Bool.true_and, Bool.not_true, Bool.not_false] at *; omega)) ?_) | (refine Exists.intro _ (Exists.intro _ (And.intro rfl ?_))) | (refine Exists.intro _ (And.intro rfl ?_)) | (refine Exists.intro _ (Exists.intro _ (Exists.intro _ (Exists.intro _ (And.intro rfl ?_))))) | (refine ld_step rfl (by assumption) rfl ?_) | (refine lds_step rfl (by assumption) rfl ?_) | (refine fL_mk ?_) | (refine fH_mk ?_) | (refine fN_mk ?_) | (refine fLB_mk ?_) | (refine And.intro (by repeat (first | assumption | refine GLB_app ?_)) ?_) | (refine ld_step rfl ((rd_x0 _ _ _ _ _).trans rfl) rfl ?_) | (refine ld_step rfl ((rd_x1 _ _ _ _ _ _).trans rfl) rfl ?_) | (refine ld_step rfl ((rd_x2 _ _ _ _ _ _ _).trans rfl) rfl ?_) | (refine lds_step rfl ((rd_x0 _ _ _ _ _).trans rfl) rfl ?_) | (refine lds_step rfl ((rd_x1 _ _ _ _ _ _).trans rfl) rfl ?_) | (refine lds_step rfl ((rd_x2 _ _ _ _ _ _ _).trans rfl) rfl ?_) | (refine mem_step (st_eq rfl rfl rfl rfl (wr_last _ _ _ _ rfl)) ?_) | (refine drec_yes (by omega) ?_) | (refine drec_no (by omega) ?_) | (intro _) | fail)
                  all_goals (conv => whnf)
                  all_goals
                    subst hz
                    exact kn hlt _ _ _ _ _ rfl ⟨rfl, by rw [take_snoc hlt, ok_snoc, hok, decide_eq_true hd]; rfl, rfl, rfl, rfl, rfl⟩
                · clear kn
                  have hnb : numB 10 l = false := by
                    unfold numB
                    have : okDig 10 l = false := by
                      rw [Bool.eq_false_iff]
                      intro ho
                      unfold okDig at ho
                      rw [List.all_eq_true] at ho
                      exact hd (of_decide_eq_true (ho _ (List.getElem_mem hlt)))
                    rw [this]; simp
                  have hqq := hqF hnb
                  repeat' (conv => whnf
                           first | (refine Stop.mk ?_) | (refine fO_is (decide_eq_false hd) ?_) | (with_reducible refine fI_is (a := l[i0]) rfl ?_) | (with_reducible refine fI_is (a := digV l[i0]) rfl ?_) | (with_reducible refine fI_is (a := accV 10 (l.take i0)) rfl ?_) | (refine fI_gen ?_; intro z hz) | (refine fO_gen ?_; intro z hz) | (refine And.intro (GLB_app hg) (Exists.intro 10 (And.intro ((rd_x0 _ _ _ _ _).trans rfl) ?_))) | (refine pure_step (hix rfl rfl) ?_) | (refine dec_true (by assumption) ?_) | (refine dec_false (by assumption) ?_) | (refine dec_split (fun h => ?_) (fun h => ?_)) | (apply silE) | (refine Both.mk ?_ ?_) | (refine And.intro rfl ?_) | (exact And.intro rfl (And.intro rfl (And.intro rfl rfl))) | (refine And.intro (by first | omega | ((simp only [decide_eq_true_eq, decide_eq_false_iff_not, Bool.and_eq_true, beq_iff_eq, Bool.not_eq_true', Bool.not_eq_false'] at *); omega) | (subst_vars; simp only [Int.ofNat_eq_natCast, tq_not, fq_not, tq_and, fq_and, tq_or, fq_or, tq_beq, fq_beq, tq_bne, fq_bne, tq_dec, fq_dec, one1, V.tup.injEq, V.agg.injEq, List.cons.injEq, V.int.injEq, V.bool.injEq, true_and, and_true, decide_eq_true_eq, decide_eq_false_iff_not, Bool.and_eq_true, Bool.and_eq_false_iff, Bool.or_eq_true, Bool.or_eq_false_iff, Bool.not_eq_true', Bool.not_eq_false', beq_iff_eq, wrap_u32, wrap_i64, wrap_u8, beq_eq_false_iff_ne, ne_eq, bne_iff_ne, bne_eq_false_iff_eq, eq_self, and_self, splice, V.cells, List.take_succ_cons, List.take_zero, List.take_nil, List.drop_zero, List.drop_succ_cons, List.drop_nil, List.cons_append, List.nil_append, List.append_nil, List.length_cons, List.length_nil, Nat.zero_add, Nat.reduceAdd, if_true, if_false, Bool.false_eq_true, beq_self_eq_true, decide_eq_decide, Bool.true_eq_false, or_false, false_or, or_true, true_or, and_false, false_and, not_true_eq_false, not_false_eq_true, Bool.and_true, Bool.true_and, Bool.not_true, Bool.not_false] at *; omega)) ?_) | (refine Exists.intro _ (Exists.intro _ (And.intro rfl ?_))) | (refine Exists.intro _ (And.intro rfl ?_)) | (refine Exists.intro _ (Exists.intro _ (Exists.intro _ (Exists.intro _ (And.intro rfl ?_))))) | (refine ld_step rfl (by assumption) rfl ?_) | (refine lds_step rfl (by assumption) rfl ?_) | (refine fL_mk ?_) | (refine fH_mk ?_) | (refine fN_mk ?_) | (refine fLB_mk ?_) | (refine And.intro (by repeat (first | assumption | refine GLB_app ?_)) ?_) | (refine ld_step rfl ((rd_x0 _ _ _ _ _).trans rfl) rfl ?_) | (refine ld_step rfl ((rd_x1 _ _ _ _ _ _).trans rfl) rfl ?_) | (refine ld_step rfl ((rd_x2 _ _ _ _ _ _ _).trans rfl) rfl ?_) | (refine lds_step rfl ((rd_x0 _ _ _ _ _).trans rfl) rfl ?_) | (refine lds_step rfl ((rd_x1 _ _ _ _ _ _).trans rfl) rfl ?_) | (refine lds_step rfl ((rd_x2 _ _ _ _ _ _ _).trans rfl) rfl ?_) | (refine mem_step (st_eq rfl rfl rfl rfl (wr_last _ _ _ _ rfl)) ?_) | (refine drec_yes (by omega) ?_) | (refine drec_no (by omega) ?_) | (intro _) | fail)
                  all_goals (conv => whnf)
                  all_goals
                    refine kr _ _ _ _ _ ?_
                    conv => whnf
                    (try refine Stop.mk (fH_mk ?_))
                    exact leafH hqq rfl (take_app1 Hx _)
              · clear kn kr
                have hie : i0 = l.length := by have h2 : ¬ (i0 : Int) < (l.length : Int) := of_decide_eq_false h; omega
                subst hie
                rw [List.take_length] at hok hpos
                rw [List.take_length]
                by_cases hv : accV 10 l < 4294967296
                · have hnb : numB 10 l = true := by unfold numB; rw [decide_eq_true (show l ≠ [] from hne), hok, decide_eq_true hv]; rfl
                  have hqq := hqT hm hnb
                  have d3 : decide (accV 10 l ≥ 4294967296) = false := decide_eq_false (by omega)
                  have w1 : IntKind.u32.wrap (accV 10 l) = accV 10 l := by rw [wrap_u32]; omega
                  repeat' (conv => whnf
                           first | (refine Stop.mk ?_) | (refine fO_is d3 ?_) | (refine fI_is w1 ?_) | (with_reducible refine fI_is (a := accV 10 l) rfl ?_) | (refine fI_gen ?_; intro z hz) | (refine fO_gen ?_; intro z hz) | (refine kx _ _ _ _ _ _ ?_) | (refine dec_true (by assumption) ?_) | (refine dec_false (by assumption) ?_) | (refine dec_split (fun h => ?_) (fun h => ?_)) | (apply silE) | (refine Both.mk ?_ ?_) | (refine And.intro rfl ?_) | (exact And.intro rfl (And.intro rfl (And.intro rfl rfl))) | (refine And.intro (by first | omega | ((simp only [decide_eq_true_eq, decide_eq_false_iff_not, Bool.and_eq_true, beq_iff_eq, Bool.not_eq_true', Bool.not_eq_false'] at *); omega) | (subst_vars; simp only [Int.ofNat_eq_natCast, tq_not, fq_not, tq_and, fq_and, tq_or, fq_or, tq_beq, fq_beq, tq_bne, fq_bne, tq_dec, fq_dec, one1, V.tup.injEq, V.agg.injEq, List.cons.injEq, V.int.injEq, V.bool.injEq, true_and, and_true, decide_eq_true_eq, decide_eq_false_iff_not, Bool.and_eq_true, Bool.and_eq_false_iff, Bool.or_eq_true, Bool.or_eq_false_iff, Bool.not_eq_true', Bool.not_eq_false', beq_iff_eq, wrap_u32, wrap_i64, wrap_u8, beq_eq_false_iff_ne, ne_eq, bne_iff_ne, bne_eq_false_iff_eq, eq_self, and_self, splice, V.cells, List.take_succ_cons, List.take_zero, List.take_nil, List.drop_zero, List.drop_succ_cons, List.drop_nil, List.cons_append, List.nil_append, List.append_nil, List.length_cons, List.length_nil, Nat.zero_add, Nat.reduceAdd, if_true, if_false, Bool.false_eq_true, beq_self_eq_true, decide_eq_decide, Bool.true_eq_false, or_false, false_or, or_true, true_or, and_false, false_and, not_true_eq_false, not_false_eq_true, Bool.and_true, Bool.true_and, Bool.not_true, Bool.not_false] at *; omega)) ?_) | (refine Exists.intro _ (Exists.intro _ (And.intro rfl ?_))) | (refine Exists.intro _ (And.intro rfl ?_)) | (refine Exists.intro _ (Exists.intro _ (Exists.intro _ (Exists.intro _ (And.intro rfl ?_))))) | (refine ld_step rfl (by assumption) rfl ?_) | (refine lds_step rfl (by assumption) rfl ?_) | (refine fL_mk ?_) | (refine fH_mk ?_) | (refine fN_mk ?_) | (refine fLB_mk ?_) | (refine And.intro (by repeat (first | assumption | refine GLB_app ?_)) ?_) | (refine ld_step rfl ((rd_x0 _ _ _ _ _).trans rfl) rfl ?_) | (refine ld_step rfl ((rd_x1 _ _ _ _ _ _).trans rfl) rfl ?_) | (refine ld_step rfl ((rd_x2 _ _ _ _ _ _ _).trans rfl) rfl ?_) | (refine lds_step rfl ((rd_x0 _ _ _ _ _).trans rfl) rfl ?_) | (refine lds_step rfl ((rd_x1 _ _ _ _ _ _).trans rfl) rfl ?_) | (refine lds_step rfl ((rd_x2 _ _ _ _ _ _ _).trans rfl) rfl ?_) | (refine mem_step (st_eq rfl rfl rfl rfl (wr_last _ _ _ _ rfl)) ?_) | (refine drec_yes (by omega) ?_) | (refine drec_no (by omega) ?_) | (intro _) | fail)
                  all_goals (conv => whnf)
                  all_goals exact leafH hqq rfl (take_app1 Hx _)
                · have hnb : numB 10 l = false := by unfold numB; rw [decide_eq_false hv]; simp
                  have hqq := hqF hnb
                  have d3 : decide (accV 10 l ≥ 4294967296) = true := decide_eq_true (by omega)
                  repeat' (conv => whnf
                           first | (refine Stop.mk ?_) | (refine fO_is d3 ?_) | (with_reducible refine fI_is (a := accV 10 l) rfl ?_) | (refine fI_gen ?_; intro z hz) | (refine fO_gen ?_; intro z hz) | (refine kx _ _ _ _ _ _ ?_) | (refine dec_true (by assumption) ?_) | (refine dec_false (by assumption) ?_) | (refine dec_split (fun h => ?_) (fun h => ?_)) | (apply silE) | (refine Both.mk ?_ ?_) | (refine And.intro rfl ?_) | (exact And.intro rfl (And.intro rfl (And.intro rfl rfl))) | (refine And.intro (by first | omega | ((simp only [decide_eq_true_eq, decide_eq_false_iff_not, Bool.and_eq_true, beq_iff_eq, Bool.not_eq_true', Bool.not_eq_false'] at *); omega) | (subst_vars; simp only [Int.ofNat_eq_natCast, tq_not, fq_not, tq_and, fq_and, tq_or, fq_or, tq_beq, fq_beq, tq_bne, fq_bne, tq_dec, fq_dec, one1, V.tup.injEq, V.agg.injEq, List.cons.injEq, V.int.injEq, V.bool.injEq, true_and, and_true, decide_eq_true_eq, decide_eq_false_iff_not, Bool.and_eq_true, Bool.and_eq_false_iff, Bool.or_eq_true, Bool.or_eq_false_iff, Bool.not_eq_true', Bool.not_eq_false', beq_iff_eq, wrap_u32, wrap_i64, wrap_u8, beq_eq_false_iff_ne, ne_eq, bne_iff_ne, bne_eq_false_iff_eq, eq_self, and_self, splice, V.cells, List.take_succ_cons, List.take_zero, List.take_nil, List.drop_zero, List.drop_succ_cons, List.drop_nil, List.cons_append, List.nil_append, List.append_nil, List.length_cons, List.length_nil, Nat.zero_add, Nat.reduceAdd, if_true, if_false, Bool.false_eq_true, beq_self_eq_true, decide_eq_decide, Bool.true_eq_false, or_false, false_or, or_true, true_or, and_false, false_and, not_true_eq_false, not_false_eq_true, Bool.and_true, Bool.true_and, Bool.not_true, Bool.not_false] at *; omega)) ?_) | (refine Exists.intro _ (Exists.intro _ (And.intro rfl ?_))) | (refine Exists.intro _ (And.intro rfl ?_)) | (refine Exists.intro _ (Exists.intro _ (Exists.intro _ (Exists.intro _ (And.intro rfl ?_))))) | (refine ld_step rfl (by assumption) rfl ?_) | (refine lds_step rfl (by assumption) rfl ?_) | (refine fL_mk ?_) | (refine fH_mk ?_) | (refine fN_mk ?_) | (refine fLB_mk ?_) | (refine And.intro (by repeat (first | assumption | refine GLB_app ?_)) ?_) | (refine ld_step rfl ((rd_x0 _ _ _ _ _).trans rfl) rfl ?_) | (refine ld_step rfl ((rd_x1 _ _ _ _ _ _).trans rfl) rfl ?_) | (refine ld_step rfl ((rd_x2 _ _ _ _ _ _ _).trans rfl) rfl ?_) | (refine lds_step rfl ((rd_x0 _ _ _ _ _).trans rfl) rfl ?_) | (refine lds_step rfl ((rd_x1 _ _ _ _ _ _).trans rfl) rfl ?_) | (refine lds_step rfl ((rd_x2 _ _ _ _ _ _ _).trans rfl) rfl ?_) | (refine mem_step (st_eq rfl rfl rfl rfl (wr_last _ _ _ _ rfl)) ?_) | (refine drec_yes (by omega) ?_) | (refine drec_no (by omega) ?_) | (intro _) | fail)
                  all_goals (conv => whnf)
                  all_goals exact leafH hqq rfl (take_app1 Hx _)
            · have d1 : decide ((l.length : Int) > 10) = true := decide_eq_true (by omega)
              have hqq := hqL (by omega)
              repeat' (conv => whnf
                       first | (refine Stop.mk ?_) | (refine fO_is hxs ?_) | (refine fI_is hszi ?_) | (refine fO_is dg ?_) | (with_reducible refine fI_is (a := (l.length : Int)) rfl ?_) | (refine fO_is d0 ?_) | (refine fI_is hszi ?_) | (refine fO_is d1 ?_) | (with_reducible refine fI_is (a := (l.length : Int)) rfl ?_) | (refine fI_gen ?_; intro z hz) | (refine fO_gen ?_; intro z hz) | (refine And.intro (show bL _ = [48, 120] from rfl) ?_; rw [hcs]) | (refine dec_true (by assumption) ?_) | (refine dec_false (by assumption) ?_) | (refine dec_split (fun h => ?_) (fun h => ?_)) | (apply silE) | (refine Both.mk ?_ ?_) | (refine And.intro rfl ?_) | (exact And.intro rfl (And.intro rfl (And.intro rfl rfl))) | (refine And.intro (by first | omega | ((simp only [decide_eq_true_eq, decide_eq_false_iff_not, Bool.and_eq_true, beq_iff_eq, Bool.not_eq_true', Bool.not_eq_false'] at *); omega) | (subst_vars; simp only [Int.ofNat_eq_natCast, tq_not, fq_not, tq_and, fq_and, tq_or, fq_or, tq_beq, fq_beq, tq_bne, fq_bne, tq_dec, fq_dec, one1, V.tup.injEq, V.agg.injEq, List.cons.injEq, V.int.injEq, V.bool.injEq, true_and, and_true, decide_eq_true_eq, decide_eq_false_iff_not, Bool.and_eq_true, Bool.and_eq_false_iff, Bool.or_eq_true, Bool.or_eq_false_iff, Bool.not_eq_true', Bool.not_eq_false', beq_iff_eq, wrap_u32, wrap_i64, wrap_u8, beq_eq_false_iff_ne, ne_eq, bne_iff_ne, bne_eq_false_iff_eq, eq_self, and_self, splice, V.cells, List.take_succ_cons, List.take_zero, List.take_nil, List.drop_zero, List.drop_succ_cons, List.drop_nil, List.cons_append, List.nil_append, List.append_nil, List.length_cons, List.length_nil, Nat.zero_add, Nat.reduceAdd, if_true, if_false, Bool.false_eq_true, beq_self_eq_true, decide_eq_decide, Bool.true_eq_false, or_false, false_or, or_true, true_or, and_false, false_and, not_true_eq_false, not_false_eq_true, Bool.and_true, Bool.true_and, Bool.not_true, Bool.not_false] at *; omega)) ?_) | (refine Exists.intro _ (Exists.intro _ (And.intro rfl ?_))) | (refine Exists.intro _ (And.intro rfl ?_)) | (refine Exists.intro _ (Exists.intro _ (Exists.intro _ (Exists.intro _ (And.intro rfl ?_))))) | (refine ld_step rfl (by assumption) rfl ?_) | (refine lds_step rfl (by assumption) rfl ?_) | (refine fL_mk ?_) | (refine fH_mk ?_) | (refine fN_mk ?_) | (refine fLB_mk ?_) | (refine And.intro (by repeat (first | assumption | refine GLB_app ?_)) ?_) | (refine ld_step rfl ((rd_x0 _ _ _ _ _).trans rfl) rfl ?_) | (refine ld_step rfl ((rd_x1 _ _ _ _ _ _).trans rfl) rfl ?_) | (refine ld_step rfl ((rd_x2 _ _ _ _ _ _ _).trans rfl) rfl ?_) | (refine lds_step rfl ((rd_x0 _ _ _ _ _).trans rfl) rfl ?_) | (refine lds_step rfl ((rd_x1 _ _ _ _ _ _).trans rfl) rfl ?_) | (refine lds_step rfl ((rd_x2 _ _ _ _ _ _ _).trans rfl) rfl ?_) | (refine mem_step (st_eq rfl rfl rfl rfl (wr_last _ _ _ _ rfl)) ?_) | (refine drec_yes (by omega) ?_) | (refine drec_no (by omega) ?_) | (intro _) | fail)
              all_goals (conv => whnf)
              all_goals exact leafE hqq rfl
  · exact hs.elim
end Go.Ev
