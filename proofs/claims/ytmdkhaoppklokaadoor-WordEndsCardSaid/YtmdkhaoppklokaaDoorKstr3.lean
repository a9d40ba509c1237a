/- dev: what a text is parsed to: Parse, the document's -/
import Derived.Test.YtmdkhaoppklokaaDoorEvU
import Derived.Test.YtmdkhaoppklokaaDoorKstr2
set_option linter.all false
namespace Go.Ev
open Go Go.Proofs
set_option maxRecDepth 10000
set_option maxHeartbeats 4000000
theorem par_hex {l : List Int} (h : hexB l = true) : parB l = (decide (l.length ≤ 10) && numB 16 (l.drop 2)) := by unfold parB; rw [if_pos h]
theorem par_dec {l : List Int} (h : hexB l = false) : parB l = (!(decide (1 < l.length) && l.headD 0 == 48) && (decide (l.length ≤ 10) && numB 10 l)) := by unfold parB; rw [if_neg (by rw [h]; decide)]
theorem parI_hex {l : List Int} (h : hexB l = true) (hp : parB l = true) : parI l = accV 16 (l.drop 2) := by unfold parI; rw [if_pos hp, if_pos h]
theorem parI_dec {l : List Int} (h : hexB l = false) (hp : parB l = true) : parI l = accV 10 l := by unfold parI; rw [if_pos hp, if_neg (by rw [h]; decide)]
theorem parI_no {l : List Int} (hp : parB l = false) : parI l = 0 := by unfold parI; rw [if_neg (by rw [hp]; decide)]
def s21 : Sp := fun vs H Q => match vs with
  | [.str s] => GLB H ∧ (bL s).length ≤ 4096 ∧ Q (.tup [.int .u32 (parI (bL s)), .bool (parB (bL s))]) H false false
  | _ => False
theorem k21 : Snd Tryd.prog 2 21 s21 := by
  refine snd_of_ev (by kernel_rfl) (C := tab [(41, s41), (42, s42), (53, s53)]) (sndC_cons k41 (sndC_cons k42 (sndC_cons k53 (sndC_nil)))) x21 n21 c21 200 ?_
  have hC : MonoC (tab [(41, s41), (42, s42), (53, s53)]) := monoC_cons m41 (monoC_cons m42 (monoC_cons m53 (monoC_nil)))
  intro vs Hx Q hs
  unfold s21 at hs
  split at hs
  · rename_i s
    obtain ⟨hg, hl4, hq⟩ := hs
    have hsz := bL_len s
    cases hx : hexB (bL s) with
    | true =>
      have h2 := hexB_len hx
      obtain ⟨S, hS⟩ : ∃ S, S = s.extract 2 s.size := ⟨_, rfl⟩
      have hcs : (if hexB (bL s) then s.extract 2 s.size else s) = S := by rw [if_pos hx, hS]
      have hbS : bL S = (bL s).drop 2 := by
        rw [hS, bL_extract, ← bL_len, List.take_length]
      obtain ⟨l, hll⟩ : ∃ l, l = bL S := ⟨_, rfl⟩
      have hld : l = (bL s).drop 2 := hll.trans hbS
      have hlen : l.length = (bL s).length - 2 := by rw [hld, List.length_drop]
      have hszi : ((S.size : Nat) : Int) = (l.length : Int) := by rw [hll, bL_len]
      have hqF : numB 16 l = false → Q (.tup [.int .u32 0, .bool false]) Hx false false := fun h => by
        have hp : parB (bL s) = false := by rw [par_hex hx, ← hld, h]; simp
        rw [parI_no hp, hp] at hq; exact hq
      have hqL : 8 < l.length → Q (.tup [.int .u32 0, .bool false]) Hx false false := fun h => by
        have hp : parB (bL s) = false := by rw [par_hex hx, decide_eq_false (by omega)]; rfl
        rw [parI_no hp, hp] at hq; exact hq
      have hqT : l.length ≤ 8 → numB 16 l = true → Q (.tup [.int .u32 (accV 16 l), .bool true]) Hx false false := fun h1 h => by
        have hp : parB (bL s) = true := by rw [par_hex hx, ← hld, h, decide_eq_true (by omega)]; rfl
        rw [parI_hex hx hp, hp, ← hld] at hq; exact hq
      clear hS
      by_cases hne : l = []
      · have hnb : numB 16 l = false := by unfold numB; rw [decide_eq_false (by simpa using hne)]; rfl
        have hqq := hqF hnb
        have d0 : ((S).toList == (ByteArray.mk (Array.mk [])).toList) = true := by rw [bL_inj]; exact decide_eq_true (by rw [← hll, hne]; rfl)
        repeat' (conv => whnf
                 first | (refine Stop.mk ?_) | (refine fO_is hx ?_) | (refine fO_is d0 ?_) | (refine And.intro (show bL _ = [48, 120] from rfl) ?_; rw [hcs]) | fail)
        all_goals (conv => whnf)
        all_goals exact leafE hqq rfl
      · have d0 : ((S).toList == (ByteArray.mk (Array.mk [])).toList) = false := by rw [bL_inj]; exact decide_eq_false (by rw [← hll]; exact hne)
        by_cases hm : l.length ≤ 8
        · have d1 : decide ((l.length : Int) > 8) = false := decide_eq_false (by omega)
          have hl10 : l.length ≤ 10 := by omega
          suffices hh : ∀ k, 100 < k → evFun (tab [(41, s41), (42, s42), (53, s53)]) k e21 [.str s] Hx Q from hh _ (by omega)
          intro k hk
          refine evFun_in (tm := SV.v (.str s) :: undefV :: undefV :: undefV :: undefV :: undefV :: undefV :: undefV :: undefV :: undefV :: undefV :: undefV :: undefV :: undefV :: undefV :: undefV :: undefV :: undefV :: undefV :: undefV :: undefV :: undefV :: undefV :: undefV :: undefV :: undefV :: undefV :: undefV :: undefV :: undefV :: undefV :: undefV :: undefV :: undefV :: undefV :: undefV :: undefV :: undefV :: undefV :: undefV :: undefV :: undefV :: undefV :: undefV :: undefV :: undefV :: undefV :: undefV :: undefV :: undefV :: undefV :: undefV :: undefV :: undefV :: undefV :: undefV :: undefV :: undefV :: undefV :: undefV :: undefV :: undefV :: undefV :: []) rfl ?_
          show rC _ _ r21_0 _ _ _ _ _ _
          repeat' (conv => whnf
                   first | (refine Stop.mk ?_) | (refine fO_is hx ?_) | (refine fO_is d0 ?_) | (refine fI_is hszi ?_) | (refine fO_is d1 ?_) | (refine And.intro (show bL _ = [48, 120] from rfl) ?_; rw [hcs]) | fail)
          conv => whnf
          repeat' (conv => whnf
                   first | fail)
          conv => whnf
          refine rLoop_ctr (c := rC (tab [(41, s41), (42, s42), (53, s53)]) k l21_0) l.length 40 (false :: false :: true :: true :: false :: false :: false :: false :: false :: true :: true :: true :: true :: false :: false :: false :: false :: false :: false :: false :: false :: false :: false :: false :: false :: false :: false :: false :: false :: false :: false :: false :: false :: false :: false :: false :: false :: false :: false :: false :: false :: true :: true :: true :: true :: true :: true :: true :: true :: true :: true :: true :: true :: true :: true :: true :: true :: true :: true :: false :: false :: false :: false :: []) (fun i tm L H e g => svAt tm 9 = .v (.int .i64 (accV 16 (l.take i))) ∧ okDig 16 (l.take i) = true ∧ L = [] ∧ H = Hx ++ [.rw 3 [.int .i64 16]] ∧ e = false ∧ g = true) (by omega) rfl ⟨rfl, rfl, rfl, rfl, rfl, rfl⟩ ?_
          intro i0 hi0
          conv => whnf
          iterate 24 (intro j; conv => whnf)
          refine Halt.mk ?_
          rintro L H' e g ⟨h6, hok, rfl, rfl, rfl, rfl⟩ K kn kx kr
          conv at h6 => lhs; whnf
          subst h6
          have hpos := acc_bd (b := 16) (by decide) hok i0 (by rw [List.length_take]; omega)
          rw [List.take_take, Nat.min_self] at hpos
          have hi10 : i0 ≤ l.length := by assumption
          have h16 : (16 : Int) ^ i0 ≤ 16 ^ 10 := by
            have h17 := Nat.pow_le_pow_right (n := 16) (by decide) (show i0 ≤ 10 by omega)
            exact_mod_cast h17
          have h16' : (16 : Int) ^ 10 = 1099511627776 := by decide
          repeat' (conv => whnf
                   first | (refine Stop.mk ?_) | (refine fO_mk ?_) | fail)
          conv => whnf
          refine dec_split (fun h => ?_) (fun h => ?_)
          · have hlt : i0 < l.length := by have h2 : (i0 : Int) < (l.length : Int) := of_decide_eq_true h; omega
            clear kx
            have hix := fun {tm : List SV} {x i : Opd} (hx : x.val tm = some (.str S)) (hi : i.val tm = some (.int .i64 (i0 : Int))) => ixstr_eq hx hi rfl (by rw [← hll]; exact hlt)
            simp only [← hll] at hix
            have hdb := digV_bd l[i0]
            by_cases hd : 0 ≤ digV l[i0] ∧ digV l[i0] < 16
            · clear kr
              have w1 : IntKind.i64.wrap (accV 16 (l.take i0) * 16) = accV 16 (l.take i0) * 16 := wrap_i64_id (by omega) (by omega)
              have w2 : IntKind.i64.wrap (accV 16 (l.take i0) * 16 + digV l[i0]) = accV 16 (l.take (i0 + 1)) := by
                rw [take_snoc hlt, acc_snoc]; exact wrap_i64_id (by omega) (by omega)
              repeat' (conv => whnf
                       first | (refine Stop.mk ?_) | (refine fO_is (decide_eq_true hd) ?_) | (refine fI_is w1 ?_) | (refine fI_is w2 ?_) | (with_reducible refine fI_is (a := l[i0]) rfl ?_) | (with_reducible refine fI_is (a := digV l[i0]) rfl ?_) | (refine fI_i64 (by first | omega | (simp only [Int.ofNat_eq_natCast] at *; omega)) ?_; intro z hz) | (refine And.intro (GLB_app hg) (Exists.intro 16 (And.intro ((rd_x0 _ _ _ _ _).trans rfl) ?_))) | (refine pure_step (hix rfl rfl) ?_) | fail)
              all_goals (conv => whnf)
              all_goals
                subst hz
                exact kn hlt _ _ _ _ _ rfl ⟨rfl, by rw [take_snoc hlt, ok_snoc, hok, decide_eq_true hd]; rfl, rfl, rfl, rfl, rfl⟩
            · clear kn
              have hnb : numB 16 l = false := by
                unfold numB
                have : okDig 16 l = false := by
                  rw [Bool.eq_false_iff]
                  intro ho
                  unfold okDig at ho
                  rw [List.all_eq_true] at ho
                  exact hd (of_decide_eq_true (ho _ (List.getElem_mem hlt)))
                rw [this]; simp
              have hqq := hqF hnb
              repeat' (conv => whnf
                       first | (refine Stop.mk ?_) | (refine fO_is (decide_eq_false hd) ?_) | (with_reducible refine fI_is (a := l[i0]) rfl ?_) | (with_reducible refine fI_is (a := digV l[i0]) rfl ?_) | (refine And.intro (GLB_app hg) (Exists.intro 16 (And.intro ((rd_x0 _ _ _ _ _).trans rfl) ?_))) | (refine pure_step (hix rfl rfl) ?_) | fail)
              all_goals (conv => whnf)
              all_goals
                refine kr _ _ _ _ _ ?_
                conv => whnf
                (try refine Stop.mk (fH_mk ?_))
                exact leafH hqq rfl (take_app1 Hx _)
          · clear kn kr
            have hie : i0 = l.length := by have h2 : ¬ (i0 : Int) < (l.length : Int) := of_decide_eq_false h; omega
            subst hie
            rw [List.take_length] at hok hpos
            rw [List.take_length]
            by_cases hv : accV 16 l < 4294967296
            · have hnb : numB 16 l = true := by unfold numB; rw [decide_eq_true (show l ≠ [] from hne), hok, decide_eq_true hv]; rfl
              have hqq := hqT hm hnb
              have d3 : decide (accV 16 l ≥ 4294967296) = false := decide_eq_false (by omega)
              have w1 : IntKind.u32.wrap (accV 16 l) = accV 16 l := by rw [wrap_u32]; omega
              repeat' (conv => whnf
                       first | (refine Stop.mk ?_) | (refine fO_is d3 ?_) | (refine fI_is w1 ?_) | (refine kx _ _ _ _ _ _ ?_) | (refine fH_mk ?_) | fail)
              all_goals (conv => whnf)
              all_goals exact leafH hqq rfl (take_app1 Hx _)
            · have hnb : numB 16 l = false := by unfold numB; rw [decide_eq_false hv]; simp
              have hqq := hqF hnb
              have d3 : decide (accV 16 l ≥ 4294967296) = true := decide_eq_true (by omega)
              repeat' (conv => whnf
                       first | (refine Stop.mk ?_) | (refine fO_is d3 ?_) | (refine kx _ _ _ _ _ _ ?_) | (refine fH_mk ?_) | fail)
              all_goals (conv => whnf)
              all_goals exact leafH hqq rfl (take_app1 Hx _)
        · have d1 : decide ((l.length : Int) > 8) = true := decide_eq_true (by omega)
          have hqq := hqL (by omega)
          repeat' (conv => whnf
                   first | (refine Stop.mk ?_) | (refine fO_is hx ?_) | (refine fO_is d0 ?_) | (refine fI_is hszi ?_) | (refine fO_is d1 ?_) | (refine And.intro (show bL _ = [48, 120] from rfl) ?_; rw [hcs]) | fail)
          all_goals (conv => whnf)
          all_goals exact leafE hqq rfl
    | false =>
      obtain ⟨l, hll⟩ : ∃ l, l = bL s := ⟨_, rfl⟩
      rw [← hll] at hx hq hl4 hsz
      have hcs : (if hexB (bL s) then s.extract 2 s.size else s) = s := by rw [← hll, hx]; rfl
      have hxs : hexB (bL s) = false := by rw [← hll]; exact hx
      have hszi : ((s.size : Nat) : Int) = (l.length : Int) := by omega
      by_cases hz0 : (decide (1 < l.length) && l.headD 0 == 48) = true
      · have hp : parB l = false := by rw [par_dec hx, hz0]; rfl
        rw [parI_no hp, hp] at hq
        rw [Bool.and_eq_true, decide_eq_true_eq] at hz0
        have hix := fun {tm : List SV} {x i : Opd} (hx : x.val tm = some (.str s)) (hi : i.val tm = some (.int .i64 0)) => ixstr_eq (k := 0) hx hi rfl (by rw [← hll]; omega)
        simp only [← hll] at hix
        have hh : (l[0]'(by omega) == 48) = true := by
          have := hz0.2
          rw [List.headD_eq_head?_getD, List.head?_eq_getElem?, List.getElem?_eq_getElem (by omega), Option.getD_some] at this
          exact this
        have d1 : decide ((l.length : Int) > 1) = true := decide_eq_true (by omega)
        repeat' (conv => whnf
                 first | (refine Stop.mk ?_) | (refine fO_is hxs ?_) | (refine fI_is hszi ?_) | (refine fO_is d1 ?_) | (refine fO_is hh ?_) | (with_reducible refine fI_is (a := l[0]'(by omega)) rfl ?_) | (refine And.intro (show bL _ = [48, 120] from rfl) ?_; rw [hcs]) | (refine pure_step (hix rfl rfl) ?_) | fail)
        all_goals (conv => whnf)
        all_goals exact leafE hq rfl
      · have hz1 : (decide (1 < l.length) && l.headD 0 == 48) = false := by simpa using hz0
        have hqF : numB 10 l = false → Q (.tup [.int .u32 0, .bool false]) Hx false false := fun h => by
          have hp : parB l = false := by rw [par_dec hx, h]; simp
          rw [parI_no hp, hp] at hq; exact hq
        have hqL : 10 < l.length → Q (.tup [.int .u32 0, .bool false]) Hx false false := fun h => by
          have hp : parB l = false := by rw [par_dec hx, decide_eq_false (show ¬ l.length ≤ 10 by omega)]; simp
          rw [parI_no hp, hp] at hq; exact hq
        have hqT : l.length ≤ 10 → numB 10 l = true → Q (.tup [.int .u32 (accV 10 l), .bool true]) Hx false false := fun h1 h => by
          have hp : parB l = true := by rw [par_dec hx, hz1, h, decide_eq_true h1]; rfl
          rw [parI_dec hx hp, hp] at hq; exact hq
        by_cases h1 : 1 < l.length
        · have dg : decide ((l.length : Int) > 1) = true := decide_eq_true (by omega)
          have hix0 := fun {tm : List SV} {x i : Opd} (hx : x.val tm = some (.str s)) (hi : i.val tm = some (.int .i64 0)) => ixstr_eq (k := 0) hx hi rfl (by rw [← hll]; omega)
          simp only [← hll] at hix0
          have hh : (l[0]'(by omega) == 48) = false := by
            rw [decide_eq_true h1, Bool.true_and] at hz1
            rw [List.headD_eq_head?_getD, List.head?_eq_getElem?, List.getElem?_eq_getElem (by omega), Option.getD_some] at hz1
            exact hz1
          by_cases hne : l = []
          · have hnb : numB 10 l = false := by unfold numB; rw [decide_eq_false (by simpa using hne)]; rfl
            have hqq := hqF hnb
            have d0 : ((s).toList == (ByteArray.mk (Array.mk [])).toList) = true := by rw [bL_inj]; exact decide_eq_true (by rw [← hll, hne]; rfl)
            repeat' (conv => whnf
                     first | (refine Stop.mk ?_) | (refine fO_is hxs ?_) | (refine fI_is hszi ?_) | (refine fO_is dg ?_) | (refine fO_is hh ?_) | (with_reducible refine fI_is (a := l[0]'(by omega)) rfl ?_) | (refine fO_is d0 ?_) | (refine And.intro (show bL _ = [48, 120] from rfl) ?_; rw [hcs]) | (refine pure_step (hix0 rfl rfl) ?_) | fail)
            all_goals (conv => whnf)
            all_goals exact leafE hqq rfl
          · have d0 : ((s).toList == (ByteArray.mk (Array.mk [])).toList) = false := by rw [bL_inj]; exact decide_eq_false (by rw [← hll]; exact hne)
            by_cases hm : l.length ≤ 10
            · have d1 : decide ((l.length : Int) > 10) = false := decide_eq_false (by omega)
              have hl10 : l.length ≤ 10 := by omega
              suffices hh : ∀ k, 100 < k → evFun (tab [(41, s41), (42, s42), (53, s53)]) k e21 [.str s] Hx Q from hh _ (by omega)
              intro k hk
              refine evFun_in (tm := SV.v (.str s) :: undefV :: undefV :: undefV :: undefV :: undefV :: undefV :: undefV :: undefV :: undefV :: undefV :: undefV :: undefV :: undefV :: undefV :: undefV :: undefV :: undefV :: undefV :: undefV :: undefV :: undefV :: undefV :: undefV :: undefV :: undefV :: undefV :: undefV :: undefV :: undefV :: undefV :: undefV :: undefV :: undefV :: undefV :: undefV :: undefV :: undefV :: undefV :: undefV :: undefV :: undefV :: undefV :: undefV :: undefV :: undefV :: undefV :: undefV :: undefV :: undefV :: undefV :: undefV :: undefV :: undefV :: undefV :: undefV :: undefV :: undefV :: undefV :: undefV :: undefV :: undefV :: undefV :: []) rfl ?_
              show rC _ _ r21_0 _ _ _ _ _ _
              repeat' (conv => whnf
                       first | (refine Stop.mk ?_) | (refine fO_is hxs ?_) | (refine fI_is hszi ?_) | (refine fO_is dg ?_) | (refine fO_is hh ?_) | (with_reducible refine fI_is (a := l[0]'(by omega)) rfl ?_) | (refine fO_is d0 ?_) | (refine fO_is d1 ?_) | (refine And.intro (show bL _ = [48, 120] from rfl) ?_; rw [hcs]) | (refine pure_step (hix0 rfl rfl) ?_) | fail)
              conv => whnf
              repeat' (conv => whnf
                       first | fail)
              conv => whnf
              refine rLoop_ctr (c := rC (tab [(41, s41), (42, s42), (53, s53)]) k l21_0) l.length 40 (false :: false :: true :: true :: false :: false :: false :: false :: false :: true :: true :: true :: true :: false :: false :: false :: false :: false :: false :: false :: false :: false :: false :: false :: false :: false :: false :: false :: false :: false :: false :: false :: false :: false :: false :: false :: false :: false :: false :: false :: false :: true :: true :: true :: true :: true :: true :: true :: true :: true :: true :: true :: true :: true :: true :: true :: true :: true :: true :: false :: false :: false :: false :: []) (fun i tm L H e g => svAt tm 9 = .v (.int .i64 (accV 10 (l.take i))) ∧ okDig 10 (l.take i) = true ∧ L = [] ∧ H = Hx ++ [.rw 3 [.int .i64 10]] ∧ e = false ∧ g = true) (by omega) rfl ⟨rfl, rfl, rfl, rfl, rfl, rfl⟩ ?_
              intro i0 hi0
              conv => whnf
              iterate 24 (intro j; conv => whnf)
              refine Halt.mk ?_
              rintro L H' e g ⟨h6, hok, rfl, rfl, rfl, rfl⟩ K kn kx kr
              conv at h6 => lhs; whnf
              subst h6
              have hpos := acc_bd (b := 10) (by decide) hok i0 (by rw [List.length_take]; omega)
              rw [List.take_take, Nat.min_self] at hpos
              have hi10 : i0 ≤ l.length := by assumption
              have h16 : (16 : Int) ^ i0 ≤ 16 ^ 10 := by
                have h17 := Nat.pow_le_pow_right (n := 16) (by decide) (show i0 ≤ 10 by omega)
                exact_mod_cast h17
              have h16' : (16 : Int) ^ 10 = 1099511627776 := by decide
              repeat' (conv => whnf
                       first | (refine Stop.mk ?_) | (refine fO_mk ?_) | fail)
              conv => whnf
              refine dec_split (fun h => ?_) (fun h => ?_)
              · have hlt : i0 < l.length := by have h2 : (i0 : Int) < (l.length : Int) := of_decide_eq_true h; omega
                clear kx
                have hix := fun {tm : List SV} {x i : Opd} (hx : x.val tm = some (.str s)) (hi : i.val tm = some (.int .i64 (i0 : Int))) => ixstr_eq hx hi rfl (by rw [← hll]; exact hlt)
                simp only [← hll] at hix
                have hdb := digV_bd l[i0]
                by_cases hd : 0 ≤ digV l[i0] ∧ digV l[i0] < 10
                · clear kr
                  have w1 : IntKind.i64.wrap (accV 10 (l.take i0) * 10) = accV 10 (l.take i0) * 10 := wrap_i64_id (by omega) (by omega)
                  have w2 : IntKind.i64.wrap (accV 10 (l.take i0) * 10 + digV l[i0]) = accV 10 (l.take (i0 + 1)) := by
                    rw [take_snoc hlt, acc_snoc]; exact wrap_i64_id (by omega) (by omega)
                  repeat' (conv => whnf
                           first | (refine Stop.mk ?_) | (refine fO_is (decide_eq_true hd) ?_) | (refine fI_is w1 ?_) | (refine fI_is w2 ?_) | (with_reducible refine fI_is (a := l[i0]) rfl ?_) | (with_reducible refine fI_is (a := digV l[i0]) rfl ?_) | (refine fI_i64 (by first | omega | (simp only [Int.ofNat_eq_natCast] at *; omega)) ?_; intro z hz) | (refine And.intro (GLB_app hg) (Exists.intro 10 (And.intro ((rd_x0 _ _ _ _ _).trans rfl) ?_))) | (refine pure_step (hix rfl rfl) ?_) | fail)
                  all_goals (conv => whnf)
                  all_goals
                    subst hz
                    exact kn hlt _ _ _ _ _ rfl ⟨rfl, by rw [take_snoc hlt, ok_snoc, hok, decide_eq_true hd]; rfl, rfl, rfl, rfl, rfl⟩
                · clear kn
                  have hnb : numB 10 l = false := by
                    unfold numB
                    have : okDig 10 l = false := by
                      rw [Bool.eq_false_iff]
                      intro ho
                      unfold okDig at ho
                      rw [List.all_eq_true] at ho
                      exact hd (of_decide_eq_true (ho _ (List.getElem_mem hlt)))
                    rw [this]; simp
                  have hqq := hqF hnb
                  repeat' (conv => whnf
                           first | (refine Stop.mk ?_) | (refine fO_is (decide_eq_false hd) ?_) | (with_reducible refine fI_is (a := l[i0]) rfl ?_) | (with_reducible refine fI_is (a := digV l[i0]) rfl ?_) | (refine And.intro (GLB_app hg) (Exists.intro 10 (And.intro ((rd_x0 _ _ _ _ _).trans rfl) ?_))) | (refine pure_step (hix rfl rfl) ?_) | fail)
                  all_goals (conv => whnf)
                  all_goals
                    refine kr _ _ _ _ _ ?_
                    conv => whnf
                    (try refine Stop.mk (fH_mk ?_))
                    exact leafH hqq rfl (take_app1 Hx _)
              · clear kn kr
                have hie : i0 = l.length := by have h2 : ¬ (i0 : Int) < (l.length : Int) := of_decide_eq_false h; omega
                subst hie
                rw [List.take_length] at hok hpos
                rw [List.take_length]
                by_cases hv : accV 10 l < 4294967296
                · have hnb : numB 10 l = true := by unfold numB; rw [decide_eq_true (show l ≠ [] from hne), hok, decide_eq_true hv]; rfl
                  have hqq := hqT hm hnb
                  have d3 : decide (accV 10 l ≥ 4294967296) = false := decide_eq_false (by omega)
                  have w1 : IntKind.u32.wrap (accV 10 l) = accV 10 l := by rw [wrap_u32]; omega
                  repeat' (conv => whnf
                           first | (refine Stop.mk ?_) | (refine fO_is d3 ?_) | (refine fI_is w1 ?_) | (refine kx _ _ _ _ _ _ ?_) | (refine fH_mk ?_) | fail)
                  all_goals (conv => whnf)
                  all_goals exact leafH hqq rfl (take_app1 Hx _)
                · have hnb : numB 10 l = false := by unfold numB; rw [decide_eq_false hv]; simp
                  have hqq := hqF hnb
                  have d3 : decide (accV 10 l ≥ 4294967296) = true := decide_eq_true (by omega)
                  repeat' (conv => whnf
                           first | (refine Stop.mk ?_) | (refine fO_is d3 ?_) | (refine kx _ _ _ _ _ _ ?_) | (refine fH_mk ?_) | fail)
                  all_goals (conv => whnf)
                  all_goals exact leafH hqq rfl (take_app1 Hx _)
            · have d1 : decide ((l.length : Int) > 10) = true := decide_eq_true (by omega)
              have hqq := hqL (by omega)
              repeat' (conv => whnf
                       first | (refine Stop.mk ?_) | (refine fO_is hxs ?_) | (refine fI_is hszi ?_) | (refine fO_is dg ?_) | (refine fO_is hh ?_) | (with_reducible refine fI_is (a := l[0]'(by omega)) rfl ?_) | (refine fO_is d0 ?_) | (refine fO_is d1 ?_) | (refine And.intro (show bL _ = [48, 120] from rfl) ?_; rw [hcs]) | (refine pure_step (hix0 rfl rfl) ?_) | fail)
              all_goals (conv => whnf)
              all_goals exact leafE hqq rfl
        · have dg : decide ((l.length : Int) > 1) = false := decide_eq_false (by omega)
          by_cases hne : l = []
          · have hnb : numB 10 l = false := by unfold numB; rw [decide_eq_false (by simpa using hne)]; rfl
            have hqq := hqF hnb
            have d0 : ((s).toList == (ByteArray.mk (Array.mk [])).toList) = true := by rw [bL_inj]; exact decide_eq_true (by rw [← hll, hne]; rfl)
            repeat' (conv => whnf
                     first | (refine Stop.mk ?_) | (refine fO_is hxs ?_) | (refine fI_is hszi ?_) | (refine fO_is dg ?_) | (refine fO_is d0 ?_) | (refine And.intro (show bL _ = [48, 120] from rfl) ?_; rw [hcs]) | fail)
            all_goals (conv => whnf)
            all_goals exact leafE hqq rfl
          · have d0 : ((s).toList == (ByteArray.mk (Array.mk [])).toList) = false := by rw [bL_inj]; exact decide_eq_false (by rw [← hll]; exact hne)
            by_cases hm : l.length ≤ 10
            · have d1 : decide ((l.length : Int) > 10) = false := decide_eq_false (by omega)
              have hl10 : l.length ≤ 10 := by omega
              suffices hh : ∀ k, 100 < k → evFun (tab [(41, s41), (42, s42), (53, s53)]) k e21 [.str s] Hx Q from hh _ (by omega)
              intro k hk
              refine evFun_in (tm := SV.v (.str s) :: undefV :: undefV :: undefV :: undefV :: undefV :: undefV :: undefV :: undefV :: undefV :: undefV :: undefV :: undefV :: undefV :: undefV :: undefV :: undefV :: undefV :: undefV :: undefV :: undefV :: undefV :: undefV :: undefV :: undefV :: undefV :: undefV :: undefV :: undefV :: undefV :: undefV :: undefV :: undefV :: undefV :: undefV :: undefV :: undefV :: undefV :: undefV :: undefV :: undefV :: undefV :: undefV :: undefV :: undefV :: undefV :: undefV :: undefV :: undefV :: undefV :: undefV :: undefV :: undefV :: undefV :: undefV :: undefV :: undefV :: undefV :: undefV :: undefV :: undefV :: undefV :: undefV :: []) rfl ?_
              show rC _ _ r21_0 _ _ _ _ _ _
              repeat' (conv => whnf
                       first | (refine Stop.mk ?_) | (refine fO_is hxs ?_) | (refine fI_is hszi ?_) | (refine fO_is dg ?_) | (refine fO_is d0 ?_) | (refine fO_is d1 ?_) | (refine And.intro (show bL _ = [48, 120] from rfl) ?_; rw [hcs]) | fail)
              conv => whnf
              repeat' (conv => whnf
                       first | fail)
              conv => whnf
              refine rLoop_ctr (c := rC (tab [(41, s41), (42, s42), (53, s53)]) k l21_0) l.length 40 (false :: false :: true :: true :: false :: false :: false :: false :: false :: true :: true :: true :: true :: false :: false :: false :: false :: false :: false :: false :: false :: false :: false :: false :: false :: false :: false :: false :: false :: false :: false :: false :: false :: false :: false :: false :: false :: false :: false :: false :: false :: true :: true :: true :: true :: true :: true :: true :: true :: true :: true :: true :: true :: true :: true :: true :: true :: true :: true :: false :: false :: false :: false :: []) (fun i tm L H e g => svAt tm 9 = .v (.int .i64 (accV 10 (l.take i))) ∧ okDig 10 (l.take i) = true ∧ L = [] ∧ H = Hx ++ [.rw 3 [.int .i64 10]] ∧ e = false ∧ g = true) (by omega) rfl ⟨rfl, rfl, rfl, rfl, rfl, rfl⟩ ?_
              intro i0 hi0
              conv => whnf
              iterate 24 (intro j; conv => whnf)
              refine Halt.mk ?_
              rintro L H' e g ⟨h6, hok, rfl, rfl, rfl, rfl⟩ K kn kx kr
              conv at h6 => lhs; whnf
              subst h6
              have hpos := acc_bd (b := 10) (by decide) hok i0 (by rw [List.length_take]; omega)
              rw [List.take_take, Nat.min_self] at hpos
              have hi10 : i0 ≤ l.length := by assumption
              have h16 : (16 : Int) ^ i0 ≤ 16 ^ 10 := by
                have h17 := Nat.pow_le_pow_right (n := 16) (by decide) (show i0 ≤ 10 by omega)
                exact_mod_cast h17
              have h16' : (16 : Int) ^ 10 = 1099511627776 := by decide
              repeat' (conv => whnf
                       first | (refine Stop.mk ?_) | (refine fO_mk ?_) | fail)
              conv => whnf
              refine dec_split (fun h => ?_) (fun h => ?_)
              · have hlt : i0 < l.length := by have h2 : (i0 : Int) < (l.length : Int) := of_decide_eq_true h; omega
                clear kx
                have hix := fun {tm : List SV} {x i : Opd} (hx : x.val tm = some (.str s)) (hi : i.val tm = some (.int .i64 (i0 : Int))) => ixstr_eq hx hi rfl (by rw [← hll]; exact hlt)
                simp only [← hll] at hix
                have hdb := digV_bd l[i0]
                by_cases hd : 0 ≤ digV l[i0] ∧ digV l[i0] < 10
                · clear kr
                  have w1 : IntKind.i64.wrap (accV 10 (l.take i0) * 10) = accV 10 (l.take i0) * 10 := wrap_i64_id (by omega) (by omega)
                  have w2 : IntKind.i64.wrap (accV 10 (l.take i0) * 10 + digV l[i0]) = accV 10 (l.take (i0 + 1)) := by
                    rw [take_snoc hlt, acc_snoc]; exact wrap_i64_id (by omega) (by omega)
                  repeat' (conv => whnf
                           first | (refine Stop.mk ?_) | (refine fO_is (decide_eq_true hd) ?_) | (refine fI_is w1 ?_) | (refine fI_is w2 ?_) | (with_reducible refine fI_is (a := l[i0]) rfl ?_) | (with_reducible refine fI_is (a := digV l[i0]) rfl ?_) | (refine fI_i64 (by first | omega | (simp only [Int.ofNat_eq_natCast] at *; omega)) ?_; intro z hz) | (refine And.intro (GLB_app hg) (Exists.intro 10 (And.intro ((rd_x0 _ _ _ _ _).trans rfl) ?_))) | (refine pure_step (hix rfl rfl) ?_) | fail)
                  all_goals (conv => whnf)
                  all_goals
                    subst hz
                    exact kn hlt _ _ _ _ _ rfl ⟨rfl, by rw [take_snoc hlt, ok_snoc, hok, decide_eq_true hd]; rfl, rfl, rfl, rfl, rfl⟩
                · clear kn
                  have hnb : numB 10 l = false := by
                    unfold numB
                    have : okDig 10 l = false := by
                      rw [Bool.eq_false_iff]
                      intro ho
                      unfold okDig at ho
                      rw [List.all_eq_true] at ho
                      exact hd (of_decide_eq_true (ho _ (List.getElem_mem hlt)))
                    rw [this]; simp
                  have hqq := hqF hnb
                  repeat' (conv => whnf
                           first | (refine Stop.mk ?_) | (refine fO_is (decide_eq_false hd) ?_) | (with_reducible refine fI_is (a := l[i0]) rfl ?_) | (with_reducible refine fI_is (a := digV l[i0]) rfl ?_) | (refine And.intro (GLB_app hg) (Exists.intro 10 (And.intro ((rd_x0 _ _ _ _ _).trans rfl) ?_))) | (refine pure_step (hix rfl rfl) ?_) | fail)
                  all_goals (conv => whnf)
                  all_goals
                    refine kr _ _ _ _ _ ?_
                    conv => whnf
                    (try refine Stop.mk (fH_mk ?_))
                    exact leafH hqq rfl (take_app1 Hx _)
              · clear kn kr
                have hie : i0 = l.length := by have h2 : ¬ (i0 : Int) < (l.length : Int) := of_decide_eq_false h; omega
                subst hie
                rw [List.take_length] at hok hpos
                rw [List.take_length]
                by_cases hv : accV 10 l < 4294967296
                · have hnb : numB 10 l = true := by unfold numB; rw [decide_eq_true (show l ≠ [] from hne), hok, decide_eq_true hv]; rfl
                  have hqq := hqT hm hnb
                  have d3 : decide (accV 10 l ≥ 4294967296) = false := decide_eq_false (by omega)
                  have w1 : IntKind.u32.wrap (accV 10 l) = accV 10 l := by rw [wrap_u32]; omega
                  repeat' (conv => whnf
                           first | (refine Stop.mk ?_) | (refine fO_is d3 ?_) | (refine fI_is w1 ?_) | (refine kx _ _ _ _ _ _ ?_) | (refine fH_mk ?_) | fail)
                  all_goals (conv => whnf)
                  all_goals exact leafH hqq rfl (take_app1 Hx _)
                · have hnb : numB 10 l = false := by unfold numB; rw [decide_eq_false hv]; simp
                  have hqq := hqF hnb
                  have d3 : decide (accV 10 l ≥ 4294967296) = true := decide_eq_true (by omega)
                  repeat' (conv => whnf
                           first | (refine Stop.mk ?_) | (refine fO_is d3 ?_) | (refine kx _ _ _ _ _ _ ?_) | (refine fH_mk ?_) | fail)
                  all_goals (conv => whnf)
                  all_goals exact leafH hqq rfl (take_app1 Hx _)
            · have d1 : decide ((l.length : Int) > 10) = true := decide_eq_true (by omega)
              have hqq := hqL (by omega)
              repeat' (conv => whnf
                       first | (refine Stop.mk ?_) | (refine fO_is hxs ?_) | (refine fI_is hszi ?_) | (refine fO_is dg ?_) | (refine fO_is d0 ?_) | (refine fO_is d1 ?_) | (refine And.intro (show bL _ = [48, 120] from rfl) ?_; rw [hcs]) | fail)
              all_goals (conv => whnf)
              all_goals exact leafE hqq rfl
  · exact hs.elim
theorem acc_big {l : List Int} (ho : okDig 10 l = true) (h0 : 1 ≤ digV (l.headD 0)) : ∀ i, 1 ≤ i → i ≤ l.length → 10 ^ (i - 1) ≤ accV 10 (l.take i)
  | 0, h, _ => by omega
  | i + 1, _, hi => by
    rw [take_snoc hi, acc_snoc]
    by_cases hz : i = 0
    · subst hz
      have h1 : l.headD 0 = l[0] := by
        rw [List.headD_eq_head?_getD, List.head?_eq_getElem?, List.getElem?_eq_getElem hi, Option.getD_some]
      rw [h1] at h0
      simp [accV]; omega
    · have ih := acc_big ho h0 i (by omega) (by omega)
      have h3 := ok_take ho (i + 1)
      rw [take_snoc hi, ok_snoc, Bool.and_eq_true, decide_eq_true_eq] at h3
      have e : (10 : Int) ^ (i + 1 - 1) = 10 ^ (i - 1) * 10 := by
        rw [← Int.pow_succ]; congr 1; omega
      rw [e]
      omega
theorem dig0 {c : Int} (h : digV c = 0) : c = 48 := by
  unfold digV at h
  have hp : 0 ≤ fstI (fun x => c == x) dgL := by omega
  unfold fstI at h hp
  cases hf : dgL.findIdx? (fun x => c == x) with
  | none => rw [hf] at hp; exact absurd hp (by decide)
  | some i =>
    rw [hf] at h
    have hi0 : i = 0 := by
      have h2 : ((i : Nat) : Int) = 0 := h
      omega
    subst hi0
    rw [List.findIdx?_eq_some_iff_getElem] at hf
    obtain ⟨hi, hp2, _⟩ := hf
    exact beq_iff_eq.1 hp2
/-- long numerals without a zero ahead are past a word -/
theorem num_long {l : List Int} (hl : 10 < l.length) (hz : l.headD 0 ≠ 48) : numB 10 l = false := by
  unfold numB
  cases ho : okDig 10 l with
  | false => simp
  | true =>
    have h0 : 0 ≤ digV (l.headD 0) := by
      have h1 : l.headD 0 = l[0] := by
        rw [List.headD_eq_head?_getD, List.head?_eq_getElem?, List.getElem?_eq_getElem (by omega), Option.getD_some]
      unfold okDig at ho
      rw [List.all_eq_true] at ho
      rw [h1]
      exact (of_decide_eq_true (ho _ (List.getElem_mem (by omega)))).1
    have h1 : digV (l.headD 0) ≠ 0 := fun h => hz (dig0 h)
    have h2 := acc_big ho (by omega) l.length (by omega) (Nat.le_refl _)
    rw [List.take_length] at h2
    have h3 : (10 : Int) ^ 10 ≤ 10 ^ (l.length - 1) := by
      have h17 := Nat.pow_le_pow_right (n := 10) (by decide) (show 10 ≤ l.length - 1 by omega)
      exact_mod_cast h17
    have h4 : (10 : Int) ^ 10 = 10000000000 := by decide
    rw [decide_eq_false (show ¬ accV 10 l < 4294967296 by omega)]; simp
def s32 : Sp := fun vs H Q => match vs with
  | [.str s] => (bL s).length ≤ 4096 ∧ Q (.tup [.int .u32 (parI (bL s)), .bool (parB (bL s))]) H false false
  | _ => False
theorem hex_two {l : List Int} (h2 : 2 ≤ l.length) : hexB l = (l[0]'(by omega) == 48 && l[1]'(by omega) == 120) := by
  match l, h2 with
  | a :: b :: r, _ =>
    unfold hexB
    rw [Bool.eq_iff_iff]
    simp
theorem head_zero {l : List Int} (h : 0 < l.length) : l.headD 0 = l[0] := by
  rw [List.headD_eq_head?_getD, List.head?_eq_getElem?, List.getElem?_eq_getElem h, Option.getD_some]
theorem k32 : Snd Tryd.prog 2 32 s32 := by
  refine snd_of_ev (by kernel_rfl) (C := tab [(47, s47)]) (sndC_cons k47 (sndC_nil)) x32 n32 c32 30 ?_
  intro vs H Q hs
  unfold s32 at hs
  split at hs
  · rename_i s
    obtain ⟨hl4, hq⟩ := hs
    obtain ⟨l, hll⟩ : ∃ l, l = bL s := ⟨_, rfl⟩
    have hsz := bL_len s
    rw [← hll] at hq hl4 hsz
    have hszi : ((s.size : Nat) : Int) = (l.length : Int) := by omega
    have hns : Q (.tup [.int .u32 (if numB 10 (bL s) then accV 10 (bL s) else 0), .bool (numB 10 (bL s))]) H false false → hexB l = false → (decide (1 < l.length) && l.headD 0 == 48) = false → True := fun _ _ _ => trivial
    have dec : hexB l = false → (decide (1 < l.length) && l.headD 0 == 48) = false → Q (.tup [.int .u32 (if numB 10 (bL s) then accV 10 (bL s) else 0), .bool (numB 10 (bL s))]) H false false := fun hx hz => by
      rw [← hll]
      have hp : parB l = numB 10 l := by
        rw [par_dec hx, hz]
        by_cases h10 : l.length ≤ 10
        · rw [decide_eq_true h10]; rfl
        · rw [decide_eq_false h10, num_long (by omega) (by rw [decide_eq_true (show 1 < l.length by omega), Bool.true_and] at hz; simpa using hz)]; rfl
      cases hn : numB 10 l with
      | false => rw [hn] at hp; rw [parI_no hp, hp] at hq; exact hq
      | true => rw [hn] at hp; rw [parI_dec hx hp, hp] at hq; exact hq
    by_cases h1 : 1 < l.length
    · have hix0 := fun {tm : List SV} {x i : Opd} (hx : x.val tm = some (.str s)) (hi : i.val tm = some (.int .i64 0)) => ixstr_eq (k := 0) hx hi rfl (by rw [← hll]; omega)
      have hix1 := fun {tm : List SV} {x i : Opd} (hx : x.val tm = some (.str s)) (hi : i.val tm = some (.int .i64 1)) => ixstr_eq (k := 1) hx hi rfl (by rw [← hll]; exact h1)
      simp only [← hll] at hix0 hix1
      obtain ⟨a0, ha0⟩ : ∃ a, a = l[0]'(by omega) := ⟨_, rfl⟩
      obtain ⟨a1, ha1⟩ : ∃ a, a = l[1]'h1 := ⟨_, rfl⟩
      have hh0 : l.headD 0 = a0 := by rw [ha0]; exact head_zero (by omega)
      have hx2 : hexB l = (a0 == 48 && a1 == 120) := by rw [ha0, ha1]; exact hex_two (by omega)
      simp only [← ha0, ← ha1] at hix0 hix1
      have d1 : decide ((l.length : Int) > 1) = true := decide_eq_true (by omega)
      cases hc0 : (a0 == 48) with
      | false =>
        have hx : hexB l = false := by rw [hx2, hc0]; rfl
        have hqd := dec hx (by rw [hh0, hc0]; simp)
        by_cases hl2 : 2 < l.length
        · have d2 : decide ((l.length : Int) > 2) = true := decide_eq_true (by omega)
          repeat' (conv => whnf
                   first | (refine Stop.mk ?_) | (refine fI_is hszi ?_) | (refine fO_is d1 ?_) | (refine fO_is d2 ?_) | (refine fO_is hc0 ?_) | (with_reducible refine fI_is (a := a0) rfl ?_) | (with_reducible refine fO_is (a := numB 10 (bL s)) rfl ?_) | (with_reducible refine fI_is (a := (if numB 10 (bL s) then accV 10 (bL s) else 0)) rfl ?_) | (refine pure_step (hix0 rfl rfl) ?_) | (refine And.intro (Or.inl rfl) (And.intro (by rw [← hll]; exact hl4) ?_)) | fail)
          all_goals (conv => whnf)
          all_goals exact leafE hqd rfl
        · have d2 : decide ((l.length : Int) > 2) = false := decide_eq_false (by omega)
          repeat' (conv => whnf
                   first | (refine Stop.mk ?_) | (refine fI_is hszi ?_) | (refine fO_is d1 ?_) | (refine fO_is d2 ?_) | (refine fO_is hc0 ?_) | (with_reducible refine fI_is (a := a0) rfl ?_) | (with_reducible refine fO_is (a := numB 10 (bL s)) rfl ?_) | (with_reducible refine fI_is (a := (if numB 10 (bL s) then accV 10 (bL s) else 0)) rfl ?_) | (refine pure_step (hix0 rfl rfl) ?_) | (refine And.intro (Or.inl rfl) (And.intro (by rw [← hll]; exact hl4) ?_)) | fail)
          all_goals (conv => whnf)
          all_goals exact leafE hqd rfl
      | true =>
        have hz : (decide (1 < l.length) && l.headD 0 == 48) = true := by rw [hh0, hc0, decide_eq_true h1]; rfl
        cases hc1 : (a1 == 120) with
        | false =>
          have hx : hexB l = false := by rw [hx2, hc1]; simp
          have hp : parB l = false := by rw [par_dec hx, hz]; rfl
          rw [parI_no hp, hp] at hq
          by_cases hl2 : 2 < l.length
          · have d2 : decide ((l.length : Int) > 2) = true := decide_eq_true (by omega)
            repeat' (conv => whnf
                     first | (refine Stop.mk ?_) | (refine fI_is hszi ?_) | (refine fO_is d1 ?_) | (refine fO_is d2 ?_) | (refine fO_is hc0 ?_) | (refine fO_is hc1 ?_) | (with_reducible refine fI_is (a := a0) rfl ?_) | (with_reducible refine fI_is (a := a1) rfl ?_) | (refine pure_step (hix0 rfl rfl) ?_) | (refine pure_step (hix1 rfl rfl) ?_) | fail)
            all_goals (conv => whnf)
            all_goals exact leafE hq rfl
          · have d2 : decide ((l.length : Int) > 2) = false := decide_eq_false (by omega)
            repeat' (conv => whnf
                     first | (refine Stop.mk ?_) | (refine fI_is hszi ?_) | (refine fO_is d1 ?_) | (refine fO_is d2 ?_) | (refine fO_is hc0 ?_) | (with_reducible refine fI_is (a := a0) rfl ?_) | (refine pure_step (hix0 rfl rfl) ?_) | fail)
            all_goals (conv => whnf)
            all_goals exact leafE hq rfl
        | true =>
          have hx : hexB l = true := by rw [hx2, hc0, hc1]; rfl
          by_cases hl2 : 2 < l.length
          · have d2 : decide ((l.length : Int) > 2) = true := decide_eq_true (by omega)
            by_cases h10 : l.length ≤ 10
            · have d3 : decide ((l.length : Int) > 10) = false := decide_eq_false (by omega)
              obtain ⟨S, hS⟩ : ∃ S, S = s.extract 2 s.size := ⟨_, rfl⟩
              have hbS : bL S = l.drop 2 := by
                rw [hS, bL_extract, ← bL_len, List.take_length, ← hll]
              have hqq : Q (.tup [.int .u32 (if numB 16 (bL S) then accV 16 (bL S) else 0), .bool (numB 16 (bL S))]) H false false := by
                rw [hbS]
                cases hn : numB 16 (l.drop 2) with
                | false =>
                  have hp : parB l = false := by rw [par_hex hx, hn]; simp
                  rw [parI_no hp, hp] at hq; exact hq
                | true =>
                  have hp : parB l = true := by rw [par_hex hx, hn, decide_eq_true h10]; rfl
                  rw [parI_hex hx hp, hp] at hq; exact hq
              have hsl := fun {tm : List SV} {x i : Opd} (hx : x.val tm = some (.str s)) (hi : i.val tm = some (.int .i64 2)) => slcsL_eq (s := s) hx hi (by decide) (by omega)
              simp only [show (2 : Int).toNat = 2 from rfl, ← hS] at hsl
              repeat' (conv => whnf
                       first | (refine Stop.mk ?_) | (refine fI_is hszi ?_) | (refine fO_is d2 ?_) | (refine fO_is d3 ?_) | (refine fO_is hc0 ?_) | (refine fO_is hc1 ?_) | (with_reducible refine fI_is (a := a0) rfl ?_) | (with_reducible refine fI_is (a := a1) rfl ?_) | (with_reducible refine fO_is (a := numB 16 (bL S)) rfl ?_) | (with_reducible refine fI_is (a := (if numB 16 (bL S) then accV 16 (bL S) else 0)) rfl ?_) | (refine pure_step (hix0 rfl rfl) ?_) | (refine pure_step (hix1 rfl rfl) ?_) | (refine pure_step (hsl rfl rfl) ?_) | (refine And.intro (Or.inr rfl) (And.intro (by rw [hbS, List.length_drop]; omega) ?_)) | fail)
              all_goals (conv => whnf)
              all_goals exact leafE hqq rfl
            · have d3 : decide ((l.length : Int) > 10) = true := decide_eq_true (by omega)
              have hp : parB l = false := by rw [par_hex hx, decide_eq_false h10]; rfl
              rw [parI_no hp, hp] at hq
              repeat' (conv => whnf
                       first | (refine Stop.mk ?_) | (refine fI_is hszi ?_) | (refine fO_is d2 ?_) | (refine fO_is d3 ?_) | (refine fO_is hc0 ?_) | (refine fO_is hc1 ?_) | (with_reducible refine fI_is (a := a0) rfl ?_) | (with_reducible refine fI_is (a := a1) rfl ?_) | (refine pure_step (hix0 rfl rfl) ?_) | (refine pure_step (hix1 rfl rfl) ?_) | fail)
              all_goals (conv => whnf)
              all_goals exact leafE hq rfl
          · have d2 : decide ((l.length : Int) > 2) = false := decide_eq_false (by omega)
            have hp : parB l = false := by
              have hd : l.drop 2 = [] := List.drop_eq_nil_of_le (by omega)
              rw [par_hex hx, hd]; simp [numB]
            rw [parI_no hp, hp] at hq
            repeat' (conv => whnf
                     first | (refine Stop.mk ?_) | (refine fI_is hszi ?_) | (refine fO_is d1 ?_) | (refine fO_is d2 ?_) | (refine fO_is hc0 ?_) | (with_reducible refine fI_is (a := a0) rfl ?_) | (refine pure_step (hix0 rfl rfl) ?_) | fail)
            all_goals (conv => whnf)
            all_goals exact leafE hq rfl
    · have d1 : decide ((l.length : Int) > 1) = false := decide_eq_false (by omega)
      have d2 : decide ((l.length : Int) > 2) = false := decide_eq_false (by omega)
      have hx : hexB l = false := by
        rw [Bool.eq_false_iff]; intro h; have := hexB_len h; omega
      have hqd := dec hx (by rw [decide_eq_false h1]; rfl)
      repeat' (conv => whnf
               first | (refine Stop.mk ?_) | (refine fI_is hszi ?_) | (refine fO_is d1 ?_) | (refine fO_is d2 ?_) | (with_reducible refine fO_is (a := numB 10 (bL s)) rfl ?_) | (with_reducible refine fI_is (a := (if numB 10 (bL s) then accV 10 (bL s) else 0)) rfl ?_) | (refine And.intro (Or.inl rfl) (And.intro (by rw [← hll]; exact hl4) ?_)) | fail)
      all_goals (conv => whnf)
      all_goals exact leafE hqd rfl
  · exact hs.elim
def s10 : Sp := fun vs H Q => match vs with
  | [.str s] => GLB H ∧ (bL s).length ≤ 4096 ∧ Q (.bool true) H false false
  | _ => False
theorem m10 : Mono s10 := by
  intro vs H Q Q' hQ h
  unfold s10 at h ⊢
  split at h
  all_goals first
    | exact h.elim
    | (repeat' (first | exact hQ _ _ _ _ h | refine And.imp_right (fun h => ?_) h | refine Exists.imp (fun _ h => ?_) h | (intro z; replace h := h z)))
theorem k10 : Snd Tryd.prog 2 10 s10 := by
  refine snd_of_ev (by kernel_rfl) (C := tab [(21, s21), (32, s32)]) (sndC_cons k21 (sndC_cons k32 (sndC_nil))) x10 n10 c10 30 ?_
  intro vs H Q hs
  unfold s10 at hs
  split at hs
  · rename_i s
    obtain ⟨hg, hl4, hq⟩ := hs
    repeat' (conv => whnf
             first | (refine Stop.mk ?_) | (with_reducible refine fI_is (a := parI (bL s)) rfl ?_) | (with_reducible refine fO_is (a := parB (bL s)) rfl ?_) | (refine fO_is (beq_self_eq_true _) ?_) | (refine And.intro hg (And.intro hl4 ?_)) | (refine And.intro hl4 ?_) | fail)
    all_goals (conv => whnf)
    all_goals exact leafE hq rfl
  · exact hs.elim
end Go.Ev
