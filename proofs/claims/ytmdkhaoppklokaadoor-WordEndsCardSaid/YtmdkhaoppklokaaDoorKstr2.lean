/- dev: what a text is parsed to -/
import Derived.Test.YtmdkhaoppklokaaDoorEvU
import Derived.Test.YtmdkhaoppklokaaDoorKstr1
set_option linter.all false
namespace Go.Ev
open Go Go.Proofs
set_option maxRecDepth 10000
set_option maxHeartbeats 4000000
theorem slcsH_eq {tm : List SV} {x i : Opd} {s : ByteArray} {k : IntKind} {n : Int} (hx : x.val tm = some (.str s)) (hi : i.val tm = some (.int k n)) (h0 : 0 ≤ n) (h1 : n ≤ (s.size : Int)) :
    pureOp tm (.slcs x none (some i)) = some (.v (.str (s.extract 0 n.toNat))) := by
  simp only [pureOp, hx, optV, hi, bnd, if_pos (And.intro h0 h1)]
theorem slcsL_eq {tm : List SV} {x i : Opd} {s : ByteArray} {k : IntKind} {n : Int} (hx : x.val tm = some (.str s)) (hi : i.val tm = some (.int k n)) (h0 : 0 ≤ n) (h1 : n ≤ (s.size : Int)) :
    pureOp tm (.slcs x (some i) none) = some (.v (.str (s.extract n.toNat s.size))) := by
  simp only [pureOp, hx, optV, hi, bnd, if_pos (And.intro h0 h1)]
def hexB (l : List Int) : Bool := decide (l.take 2 = [48, 120])
theorem hexB_len {l : List Int} (h : hexB l = true) : 2 ≤ l.length := by
  have h1 : l.take 2 = [48, 120] := of_decide_eq_true h
  have := congrArg List.length h1
  rw [List.length_take] at this
  simp at this; omega
def okDig (b : Int) (l : List Int) : Bool := l.all fun c => decide (0 ≤ digV c ∧ digV c < b)
def accV (b : Int) (l : List Int) : Int := l.foldl (fun v c => v * b + digV c) 0
theorem acc_snoc (b : Int) (l : List Int) (c : Int) : accV b (l ++ [c]) = accV b l * b + digV c := by unfold accV; rw [List.foldl_append]; rfl
theorem ok_snoc (b : Int) (l : List Int) (c : Int) : okDig b (l ++ [c]) = (okDig b l && decide (0 ≤ digV c ∧ digV c < b)) := by unfold okDig; rw [List.all_append]; simp
theorem take_snoc {l : List Int} {i : Nat} (h : i < l.length) : l.take (i + 1) = l.take i ++ [l[i]] := by rw [List.take_succ, List.getElem?_eq_getElem h]; rfl
theorem ok_take {b : Int} {l : List Int} (h : okDig b l = true) (i : Nat) : okDig b (l.take i) = true := by
  unfold okDig at h ⊢
  rw [List.all_eq_true] at h ⊢
  exact fun x hx => h x (List.mem_of_mem_take hx)
theorem acc_bd {b : Int} (hb : 1 ≤ b ∧ b ≤ 16) {l : List Int} (h : okDig b l = true) : ∀ i, i ≤ l.length → 0 ≤ accV b (l.take i) ∧ accV b (l.take i) < 16 ^ i
  | 0, _ => by simp [accV]
  | i + 1, hi => by
    have ih := acc_bd hb h i (by omega)
    have h1 := ok_take h (i + 1)
    rw [take_snoc hi, ok_snoc, Bool.and_eq_true, decide_eq_true_eq] at h1
    rw [take_snoc hi, acc_snoc]
    obtain ⟨a, ha⟩ := Int.eq_ofNat_of_zero_le ih.1
    obtain ⟨c, hc⟩ := Int.eq_ofNat_of_zero_le (show 0 ≤ b by omega)
    have h2 : 0 ≤ accV b (l.take i) * b := Int.mul_nonneg ih.1 (by omega)
    have h3 : accV b (l.take i) * b ≤ (16 ^ i - 1) * 16 := Int.le_trans (Int.mul_le_mul_of_nonneg_right (by omega) (by omega)) (Int.mul_le_mul_of_nonneg_left hb.2 (by omega))
    have h4 : (16 : Int) ^ (i + 1) = 16 ^ i * 16 := Int.pow_succ ..
    rw [h4]
    omega
/-- what has grown past a word stays past it -/
theorem acc_mono {b : Int} (hb : 1 ≤ b) {l : List Int} (h : okDig b l = true) {i : Nat} (hp : 0 ≤ accV b (l.take i)) : ∀ j, i ≤ j → j ≤ l.length → accV b (l.take i) ≤ accV b (l.take j)
  | 0, h1, _ => by
    have hi0 : i = 0 := by omega
    subst hi0; exact Int.le_refl _
  | j + 1, h1, h2 => by
    by_cases hij : i = j + 1
    · subst hij; exact Int.le_refl _
    · have ih := acc_mono hb h hp j (by omega) (by omega)
      have h3 := ok_take h (j + 1)
      rw [take_snoc h2, ok_snoc, Bool.and_eq_true, decide_eq_true_eq] at h3
      rw [take_snoc h2, acc_snoc]
      have h4 : accV b (l.take j) * 1 ≤ accV b (l.take j) * b := Int.mul_le_mul_of_nonneg_left hb (by omega)
      omega
def numB (b : Int) (l : List Int) : Bool := decide (l ≠ []) && okDig b l && decide (accV b l < 4294967296)
def parB (l : List Int) : Bool := if hexB l then decide (l.length ≤ 10) && numB 16 (l.drop 2) else !(decide (1 < l.length) && l.headD 0 == 48) && (decide (l.length ≤ 10) && numB 10 l)
def parI (l : List Int) : Int := if parB l then (if hexB l then accV 16 (l.drop 2) else accV 10 l) else 0
def s76 : Sp := fun vs H Q => match vs with
  | [.str s, .str p] => bL p = [48, 120] ∧ Q (.bool (hexB (bL s))) H false false
  | _ => False
theorem k76 : Snd Tryd.prog 2 76 s76 := by
  refine snd_of_ev (by kernel_rfl) (C := tab []) (sndC_nil) x76 n76 c76 30 ?_
  intro vs H Q hs
  unfold s76 at hs
  split at hs
  · rename_i s p
    obtain ⟨hp, hq⟩ := hs
    have hpz : p.size = 2 := by rw [← bL_len, hp]; rfl
    have hsz := bL_len s
    have hpi : ((p.size : Nat) : Int) = 2 := by omega
    by_cases h2 : 2 ≤ s.size
    · have t1 : decide ((s.size : Int) ≥ (2 : Int)) = true := decide_eq_true (by omega)
      have hv : ((s.extract 0 (2 : Int).toNat).toList == p.toList) = hexB (bL s) := by
        rw [bL_inj, bL_extract, hp]
        rfl
      repeat' (conv => whnf
               first | (refine Stop.mk ?_) | (refine fI_is hpi ?_) | (refine fO_is t1 ?_) | (refine fO_is hv ?_) | (with_reducible refine fI_is (a := (s.size : Int)) rfl ?_) | (refine pure_step (slcsH_eq rfl rfl (by decide) (by omega)) ?_) | fail)
      all_goals (conv => whnf)
      all_goals exact leafE hq rfl
    · have t1 : decide ((s.size : Int) ≥ (2 : Int)) = false := decide_eq_false (by omega)
      have hv : hexB (bL s) = false := by
        rw [Bool.eq_false_iff]; intro hx; have := hexB_len hx; omega
      rw [hv] at hq
      repeat' (conv => whnf
               first | (refine Stop.mk ?_) | (refine fI_is hpi ?_) | (refine fO_is t1 ?_) | (with_reducible refine fI_is (a := (s.size : Int)) rfl ?_) | fail)
      all_goals (conv => whnf)
      all_goals exact leafE hq rfl
  · exact hs.elim
def s52 : Sp := fun vs H Q => match vs with
  | [.str s, .str p] => bL p = [48, 120] ∧ Q (.tup [.str (if hexB (bL s) then s.extract 2 s.size else s), .bool (hexB (bL s))]) H false false
  | _ => False
theorem m52 : Mono s52 := by
  intro vs H Q Q' hQ h
  unfold s52 at h ⊢
  split at h
  all_goals first
    | exact h.elim
    | (repeat' (first | exact hQ _ _ _ _ h | refine And.imp_right (fun h => ?_) h | refine Exists.imp (fun _ h => ?_) h | (intro z; replace h := h z)))
theorem k52 : Snd Tryd.prog 2 52 s52 := by
  refine snd_of_ev (by kernel_rfl) (C := tab [(76, s76)]) (sndC_cons k76 (sndC_nil)) x52 n52 c52 30 ?_
  intro vs H Q hs
  unfold s52 at hs
  split at hs
  · rename_i s p
    obtain ⟨hp, hq⟩ := hs
    have hpz : p.size = 2 := by rw [← bL_len, hp]; rfl
    have hsz := bL_len s
    cases hx : hexB (bL s) with
    | true =>
      have h2 := hexB_len hx
      rw [hx, if_pos rfl] at hq
      repeat' (conv => whnf
               first | (refine Stop.mk ?_) | (refine fO_is hx ?_) | (refine fI_is (show ((p.size : Nat) : Int) = 2 by omega) ?_) | (refine And.intro hp ?_) | (refine pure_step (slcsL_eq rfl rfl (by decide) (by omega)) ?_) | fail)
      all_goals (conv => whnf)
      all_goals exact leafE hq rfl
    | false =>
      rw [hx, if_neg Bool.false_ne_true] at hq
      repeat' (conv => whnf
               first | (refine Stop.mk ?_) | (refine fO_is hx ?_) | (refine And.intro hp ?_) | fail)
      all_goals (conv => whnf)
      all_goals exact leafE hq rfl
  · exact hs.elim
def s41 : Sp := s52
theorem m41 : Mono s41 := m52
theorem k41 : Snd Tryd.prog 2 41 s41 := by
  refine snd_of_ev (by kernel_rfl) (C := tab [(52, s52)]) (sndC_cons k52 (sndC_nil)) x41 n41 c41 30 ?_
  intro vs H Q hs
  unfold s41 s52 at hs
  split at hs
  · rename_i s p
    obtain ⟨hp, hq⟩ := hs
    repeat' (conv => whnf
             first | (refine Stop.mk ?_) | (with_reducible refine fO_is (a := hexB (bL s)) rfl ?_) | (refine And.intro hp ?_) | fail)
    all_goals (conv => whnf)
    all_goals exact leafE hq rfl
  · exact hs.elim
def s47 : Sp := fun vs H Q => match vs with
  | [.str s, .int .i64 b] => (b = 10 ∨ b = 16) ∧ (bL s).length ≤ 4096 ∧ Q (.tup [.int .u32 (if numB b (bL s) then accV b (bL s) else 0), .bool (numB b (bL s))]) H false false
  | _ => False
theorem k47 : Snd Tryd.prog 2 47 s47 := by
  refine snd_of_ev (by kernel_rfl) (C := tab [(74, s74)]) (sndC_cons k74 (sndC_nil)) x47 n47 c47 5000 ?_
  have hC : MonoC (tab [(74, s74)]) := monoC_cons m74 (monoC_nil)
  intro vs Hx Q hs
  unfold s47 at hs
  split at hs
  · rename_i s b
    obtain ⟨hb, hl, hq⟩ := hs
    have hb1 : 1 ≤ b ∧ b ≤ 16 := by omega
    have hsz := bL_len s
    obtain ⟨l, hll⟩ : ∃ l, l = bL s := ⟨_, rfl⟩
    rw [← hll] at hq hl hsz
    have hszi : ((s.size : Nat) : Int) = (l.length : Int) := by omega
    suffices hh : ∀ k, 4200 < k → evFun (tab [(74, s74)]) k e47 [.str s, .int .i64 b] Hx Q from hh _ (by omega)
    intro k hk
    refine evFun_in (tm := SV.v (.str s) :: SV.v (.int .i64 b) :: undefV :: undefV :: undefV :: undefV :: undefV :: undefV :: undefV :: undefV :: undefV :: undefV :: undefV :: undefV :: undefV :: undefV :: undefV :: undefV :: undefV :: undefV :: undefV :: undefV :: undefV :: undefV :: undefV :: undefV :: undefV :: undefV :: undefV :: undefV :: undefV :: undefV :: undefV :: undefV :: undefV :: undefV :: undefV :: undefV :: undefV :: undefV :: undefV :: undefV :: undefV :: undefV :: []) rfl ?_
    show rC _ _ r47_0 _ _ _ _ _ _
    refine rC_seqH ?_
    repeat' (conv => whnf
             first | fail)
    any_goals refine Halt.mk ?_
    any_goals show rC _ _ r47_1 _ _ _ _ _ _
    refine rC_seqH ?_
    repeat' (conv => whnf
             first | fail)
    any_goals refine Halt.mk ?_
    any_goals show rC _ _ r47_2 _ _ _ _ _ _
    repeat' (conv => whnf
             first | fail)
    conv => whnf
    refine rLoop_ctr (c := rC (tab [(74, s74)]) k l47_0) l.length 7 (false :: false :: false :: false :: true :: true :: true :: false :: true :: true :: true :: true :: true :: true :: true :: true :: true :: true :: true :: true :: true :: true :: true :: true :: true :: true :: true :: true :: true :: true :: true :: true :: true :: true :: true :: false :: false :: false :: false :: false :: false :: false :: false :: false :: []) (fun i tm L H e g => svAt tm 6 = .v (.int .i64 (accV b (l.take i))) ∧ okDig b (l.take i) = true ∧ (0 < i → accV b (l.take (i - 1)) < 4294967296) ∧ L = [] ∧ H = Hx ∧ e = false ∧ g = false) (by omega) rfl ⟨rfl, rfl, fun h => absurd h (by decide), rfl, rfl, rfl, rfl⟩ ?_
    intro i0 hi0
    conv => whnf
    iterate 30 (intro j; conv => whnf)
    refine Halt.mk ?_
    rintro L H' e g ⟨h6, hok, hlo, rfl, rfl, rfl, rfl⟩ K kn kx kr
    conv at h6 => lhs; whnf
    subst h6
    have hi : i0 ≤ l.length := by assumption
    have hpos : 0 ≤ accV b (l.take i0) := by
      have := acc_bd hb1 hok i0 (by rw [List.length_take]; omega)
      rw [List.take_take, Nat.min_self] at this
      exact this.1
    repeat' (conv => whnf
             first | (refine Stop.mk ?_) | (refine fI_is hszi ?_) | (refine fO_mk ?_) | fail)
    conv => whnf
    refine dec_split (fun h => ?_) (fun h => ?_)
    · have hlt : i0 < l.length := by have h2 : (i0 : Int) < (l.length : Int) := of_decide_eq_true h; omega
      clear kx
      have hix := fun {tm : List SV} {x i : Opd} (hx : x.val tm = some (.str s)) (hi : i.val tm = some (.int .i64 (i0 : Int))) => ixstr_eq hx hi rfl (by rw [← hll]; exact hlt)
      simp only [← hll] at hix
      have hdb := digV_bd l[i0]
      by_cases hd : 0 ≤ digV l[i0] ∧ digV l[i0] < b
      · have d1 : decide (digV l[i0] < 0) = false := decide_eq_false (by omega)
        have d2 : decide (digV l[i0] ≥ b) = false := decide_eq_false (by omega)
        by_cases hv : accV b (l.take i0) < 4294967296
        · clear kr
          have d3 : decide (accV b (l.take i0) ≥ 4294967296) = false := decide_eq_false (by omega)
          have hmul : 0 ≤ accV b (l.take i0) * b ∧ accV b (l.take i0) * b ≤ 68719476720 := by
            rcases hb with rfl | rfl <;> omega
          have w1 : IntKind.i64.wrap (accV b (l.take i0) * b) = accV b (l.take i0) * b := wrap_i64_id (by omega) (by omega)
          have w2 : IntKind.i64.wrap (accV b (l.take i0) * b + digV l[i0]) = accV b (l.take (i0 + 1)) := by
            rw [take_snoc hlt, acc_snoc]; exact wrap_i64_id (by omega) (by omega)
          repeat' (conv => whnf
                   first | (refine Stop.mk ?_) | (refine fO_is d1 ?_) | (refine fO_is d2 ?_) | (refine fO_is d3 ?_) | (refine fI_is w1 ?_) | (refine fI_is w2 ?_) | (with_reducible refine fI_is (a := l[i0]) rfl ?_) | (with_reducible refine fI_is (a := digV l[i0]) rfl ?_) | (refine fI_i64 (by first | omega | (simp only [Int.ofNat_eq_natCast] at *; omega)) ?_; intro z hz) | (refine pure_step (hix rfl rfl) ?_) | fail)
          all_goals (conv => whnf)
          all_goals
            subst hz
            exact kn hlt _ _ _ _ _ rfl ⟨rfl, by rw [take_snoc hlt, ok_snoc, hok, decide_eq_true hd]; rfl, fun _ => hv, rfl, rfl, rfl, rfl⟩
        · clear kn
          have d3 : decide (accV b (l.take i0) ≥ 4294967296) = true := decide_eq_true (by omega)
          have hnb : numB b l = false := by
            unfold numB
            cases ho : okDig b l with
            | false => simp
            | true =>
              have h1 := acc_mono hb1.1 ho hpos l.length (by omega) (Nat.le_refl _)
              rw [List.take_length] at h1
              rw [decide_eq_false (show ¬ accV b l < 4294967296 by omega)]; simp
          rw [hnb, if_neg Bool.false_ne_true] at hq
          repeat' (conv => whnf
                   first | (refine Stop.mk ?_) | (refine fO_is d1 ?_) | (refine fO_is d2 ?_) | (refine fO_is d3 ?_) | (with_reducible refine fI_is (a := l[i0]) rfl ?_) | (with_reducible refine fI_is (a := digV l[i0]) rfl ?_) | (refine pure_step (hix rfl rfl) ?_) | fail)
          all_goals (conv => whnf)
          all_goals
            refine kr _ _ _ _ _ ?_
            conv => whnf
            exact leafE hq rfl
      · clear kn
        have hnb : numB b l = false := by
          unfold numB
          have : okDig b l = false := by
            rw [Bool.eq_false_iff]
            intro ho
            unfold okDig at ho
            rw [List.all_eq_true] at ho
            exact hd (of_decide_eq_true (ho _ (List.getElem_mem hlt)))
          rw [this]; simp
        rw [hnb, if_neg Bool.false_ne_true] at hq
        repeat' (conv => whnf
                 first | (refine Stop.mk ?_) | (with_reducible refine fI_is (a := l[i0]) rfl ?_) | (with_reducible refine fI_is (a := digV l[i0]) rfl ?_) | (refine fO_gen ?_; intro z hz) | (refine pure_step (hix rfl rfl) ?_) | (refine dec_true (by assumption) ?_) | (refine dec_false (by assumption) ?_) | ((with_reducible refine dec_trueH ?tst ?_); (case tst => (first | rfl | ((try clear hC); (try clear kn); (try clear kx); (try clear kr); (try clear kn1); (try clear kx1); (try clear kr1); (try clear kn2); (try clear kx2); (try clear kr2); (try clear kn3); (try clear kx3); (try clear kr3); subst_vars; simp only [Int.ofNat_eq_natCast, tq_not, fq_not, tq_and, fq_and, tq_or, fq_or, tq_beq, fq_beq, tq_bne, fq_bne, tq_dec, fq_dec, one1, V.tup.injEq, V.agg.injEq, List.cons.injEq, V.int.injEq, V.bool.injEq, true_and, and_true, decide_eq_true_eq, decide_eq_false_iff_not, Bool.and_eq_true, Bool.and_eq_false_iff, Bool.or_eq_true, Bool.or_eq_false_iff, Bool.not_eq_true', Bool.not_eq_false', beq_iff_eq, wrap_u32, wrap_i64, wrap_u8, beq_eq_false_iff_ne, ne_eq, bne_iff_ne, bne_eq_false_iff_eq, eq_self, and_self, splice, V.cells, List.take_succ_cons, List.take_zero, List.take_nil, List.drop_zero, List.drop_succ_cons, List.drop_nil, List.cons_append, List.nil_append, List.append_nil, List.length_cons, List.length_nil, Nat.zero_add, Nat.reduceAdd, if_true, if_false, Bool.false_eq_true, beq_self_eq_true, decide_eq_decide, Bool.true_eq_false, or_false, false_or, or_true, true_or, and_false, false_and, not_true_eq_false, not_false_eq_true, Bool.and_true, Bool.true_and, Bool.not_true, Bool.not_false] at *; first | done | assumption | omega))); intro h) | (refine dec_split (fun h => ?_) (fun h => ?_)) | fail)
        all_goals (conv => whnf)
        all_goals first
          | (refine kr _ _ _ _ _ ?_
             conv => whnf
             exact leafE hq rfl)
    · clear kn kr
      have hie : i0 = l.length := by have h2 : ¬ (i0 : Int) < (l.length : Int) := of_decide_eq_false h; omega
      subst hie
      rw [List.take_length] at hok hpos
      rw [List.take_length]
      by_cases h0 : l = []
      · have hnb : numB b l = false := by unfold numB; rw [decide_eq_false (by simpa using h0)]; rfl
        rw [hnb, if_neg Bool.false_ne_true] at hq
        have d1 : ((l.length : Int) == 0) = true := by rw [h0]; rfl
        repeat' (conv => whnf
                 first | (refine Stop.mk ?_) | (refine fI_is hszi ?_) | (refine fO_is d1 ?_) | (refine kx _ _ _ _ _ _ ?_) | fail)
        all_goals (conv => whnf)
        all_goals exact leafE hq rfl
      · have d1 : ((l.length : Int) == 0) = false := by have := List.length_pos_iff.2 h0; simp; omega
        by_cases hv : accV b l < 4294967296
        · have hnb : numB b l = true := by unfold numB; rw [decide_eq_true (show l ≠ [] from h0), hok, decide_eq_true hv]; rfl
          have d3 : decide (accV b l ≥ 4294967296) = false := decide_eq_false (by omega)
          have w1 : IntKind.u32.wrap (accV b l) = accV b l := by rw [wrap_u32]; omega
          rw [hnb, if_pos rfl] at hq
          repeat' (conv => whnf
                   first | (refine Stop.mk ?_) | (refine fI_is hszi ?_) | (refine fO_is d1 ?_) | (refine fO_is d3 ?_) | (refine fI_is w1 ?_) | (refine kx _ _ _ _ _ _ ?_) | fail)
          all_goals (conv => whnf)
          all_goals exact leafE hq rfl
        · have hnb : numB b l = false := by unfold numB; rw [decide_eq_false hv]; simp
          have d3 : decide (accV b l ≥ 4294967296) = true := decide_eq_true (by omega)
          rw [hnb, if_neg Bool.false_ne_true] at hq
          repeat' (conv => whnf
                   first | (refine Stop.mk ?_) | (refine fI_is hszi ?_) | (refine fO_is d1 ?_) | (refine fO_is d3 ?_) | (refine kx _ _ _ _ _ _ ?_) | fail)
          all_goals (conv => whnf)
          all_goals exact leafE hq rfl
  · exact hs.elim
end Go.Ev
