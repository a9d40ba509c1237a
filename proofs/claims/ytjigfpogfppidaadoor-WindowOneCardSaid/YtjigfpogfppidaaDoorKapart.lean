/- dev: reach.Apart -/
import Derived.Test.YtjigfpogfppidaaDoorKreach
set_option linter.all false
namespace Go.Ev
open Go Go.Proofs
set_option maxRecDepth 4000
def s59 : Sp := fun vs H Q => match vs with
  | [.agg [.int .u32 a, .int .u32 b], .ptr (some (i, 0))] => ∃ c d, rd H i 0 2 = some [.int .u32 c, .int .u32 d] ∧Q (.bool (decide (a ≤ b ∧ c ≤ d ∧ a ≤ d ∧ c ≤ b))) H false false
  | _ => False
theorem k59 : Snd Tryd.prog 1 59 s59 := by
  refine snd_of_ev (by kernel_rfl) (C := tab [(35, s35), (60, s60)]) (sndC_cons k35 (sndC_cons k60 (sndC_nil))) x59 n59 c59 30 ?_
  intro vs H Q hs
  unfold s59 at hs
  split at hs
  · skip
    obtain ⟨c, d, hc, hq⟩ := hs
    repeat' (conv => whnf
             first
             | (refine Stop.mk ?_)
             | (refine fI_gen ?_; intro z hz)
             | (refine fO_gen ?_; intro z hz)
             | (refine dec_true (by assumption) ?_)
             | (refine dec_false (by assumption) ?_)
             | (refine dec_split (fun h => ?_) (fun h => ?_))
             | (apply silE)
             | (exact And.intro rfl (And.intro rfl (And.intro rfl rfl)))
             | (refine And.intro (by first | omega | ((simp only [decide_eq_true_eq, decide_eq_false_iff_not, Bool.and_eq_true, beq_iff_eq, Bool.not_eq_true', Bool.not_eq_false'] at *); omega) | (subst_vars; simp only [Int.ofNat_eq_natCast, tq_not, fq_not, tq_and, fq_and, tq_or, fq_or, tq_beq, fq_beq, tq_bne, fq_bne, tq_dec, fq_dec, one1, V.tup.injEq, V.agg.injEq, List.cons.injEq, V.int.injEq, V.bool.injEq, true_and, and_true, decide_eq_true_eq, decide_eq_false_iff_not, Bool.and_eq_true, Bool.and_eq_false_iff, Bool.or_eq_true, Bool.or_eq_false_iff, Bool.not_eq_true', Bool.not_eq_false', beq_iff_eq, wrap_u32, wrap_i64, wrap_u8, beq_eq_false_iff_ne, ne_eq, bne_iff_ne, bne_eq_false_iff_eq, eq_self, and_self, splice, V.cells, List.take_succ_cons, List.take_zero, List.take_nil, List.drop_zero, List.drop_succ_cons, List.drop_nil, List.cons_append, List.nil_append, List.append_nil, List.length_cons, List.length_nil, Nat.zero_add, Nat.reduceAdd, if_true, if_false, Bool.false_eq_true, beq_self_eq_true, decide_eq_decide, Bool.true_eq_false, or_false, false_or, or_true, true_or, and_false, false_and, not_true_eq_false, not_false_eq_true, Bool.and_true, Bool.true_and, Bool.not_true, Bool.not_false] at *; omega)) ?_)
             | (refine Exists.intro _ (Exists.intro _ (And.intro rfl ?_)))
             | (refine Exists.intro _ (And.intro rfl ?_))
             | (refine Exists.intro _ (Exists.intro _ (Exists.intro _ (Exists.intro _ (And.intro rfl ?_)))))
             | (refine ld_step rfl (by assumption) rfl ?_)
             | (refine lds_step rfl (by assumption) rfl ?_)
             | (refine fL_mk ?_)
             | (refine fH_mk ?_)
             | (refine fN_mk ?_)
             | (refine fLB_mk ?_)
             | (refine And.intro (by repeat (first | assumption | refine GLB_app ?_)) ?_)
             | (refine ld_step rfl ((rd_x0 _ _ _ _ _).trans rfl) rfl ?_)
             | (refine ld_step rfl ((rd_x1 _ _ _ _ _ _).trans rfl) rfl ?_)
             | (refine ld_step rfl ((rd_x2 _ _ _ _ _ _ _).trans rfl) rfl ?_)
             | (refine lds_step rfl ((rd_x0 _ _ _ _ _).trans rfl) rfl ?_)
             | (refine lds_step rfl ((rd_x1 _ _ _ _ _ _).trans rfl) rfl ?_)
             | (refine lds_step rfl ((rd_x2 _ _ _ _ _ _ _).trans rfl) rfl ?_)
             | (refine mem_step (st_eq rfl rfl rfl rfl (wr_last _ _ _ _ rfl)) ?_)
             | (refine drec_yes (by omega) ?_)
             | (refine drec_no (by omega) ?_)
             | (intro _)
             | fail)
    all_goals
      conv => whnf
      refine leafE hq ?_
      clear hq
      first
      | rfl
      | (subst_vars
         simp only [Int.ofNat_eq_natCast, tq_not, fq_not, tq_and, fq_and, tq_or, fq_or, tq_beq, fq_beq, tq_bne, fq_bne, tq_dec, fq_dec, one1, V.tup.injEq, V.agg.injEq, List.cons.injEq, V.int.injEq, V.bool.injEq, true_and, and_true, decide_eq_true_eq, decide_eq_false_iff_not, Bool.and_eq_true, Bool.and_eq_false_iff, Bool.or_eq_true, Bool.or_eq_false_iff, Bool.not_eq_true', Bool.not_eq_false', beq_iff_eq, wrap_u32, wrap_i64, wrap_u8, beq_eq_false_iff_ne, ne_eq, bne_iff_ne, bne_eq_false_iff_eq, eq_self, and_self, splice, V.cells, List.take_succ_cons, List.take_zero, List.take_nil, List.drop_zero, List.drop_succ_cons, List.drop_nil, List.cons_append, List.nil_append, List.append_nil, List.length_cons, List.length_nil, Nat.zero_add, Nat.reduceAdd, if_true, if_false, Bool.false_eq_true, beq_self_eq_true, decide_eq_decide, Bool.true_eq_false, or_false, false_or, or_true, true_or, and_false, false_and, not_true_eq_false, not_false_eq_true, Bool.and_true, Bool.true_and, Bool.not_true, Bool.not_false] at *
         skip
         repeat' (first | refine And.intro ?_ ?_ | (split <;> skip))
         all_goals (first | omega | (rw [Bool.eq_iff_iff]; simp only [decide_eq_true_eq, true_iff, iff_true, false_iff, iff_false, Bool.false_eq_true, Bool.and_eq_true, Bool.or_eq_true, beq_iff_eq, and_true, bne_iff_ne, ne_eq, Bool.not_eq_true']; omega)))
  · exact hs.elim
def enc2 (r : Int × Int) : List V := [.int .u32 r.1, .int .u32 r.2]
theorem enc2_len (r : Int × Int) : (enc2 r).length = 2 := rfl
def meetB (r s : Int × Int) : Bool := decide (r.1 ≤ r.2 ∧ s.1 ≤ s.2 ∧ r.1 ≤ s.2 ∧ s.1 ≤ r.2)
def s48 : Sp := fun vs H Q => match vs with
  | [.sl (some (b, o)) n cp, .fn 59 [] [.ptr (some (q, 0))]] => ∃ (l : List (Int × Int)) (s : Int × Int), n = l.length ∧ l.length < 1099511627776 ∧ rd H b o (l.length * 2) = some (l.flatMap enc2) ∧ rd H q 0 2 = some (enc2 s) ∧ ∀ x : Int, (0 ≤ x ↔ l.any (fun r => meetB r s) = true) → Q (.int .i64 x) H false false
  | _ => False
def I37 (b o n cp q : Nat) (H0 : List B) (P : Nat → Prop)  (i : Nat) (tm : List SV) (L : List LB) (H : List B) (e g : Bool) : Prop :=
  ∃ (x : Int) (j2 j3 j5 j9 j10 j11 j12 j13 j14 j15 j16 j17 j18 : SV), (x = i ∧ P i) ∧ tm = SV.v (.sl (some (b, o)) n cp) :: SV.v (.fn 59 [] [.ptr (some (q, 0))]) :: j2 :: j3 :: SV.v (.int .i64 0) :: j5 :: SV.v (.sl (some (b, o)) n cp) :: SV.v (.int .i64 n) :: SV.v (.int .i64 x) :: j9 :: j10 :: j11 :: j12 :: j13 :: j14 :: j15 :: j16 :: j17 :: j18 :: [] ∧ L = [] ∧ H = H0 ∧ e = false ∧ g = false
theorem k48 : Snd Tryd.prog 1 48 s48 := by
  refine snd_of_ev (by kernel_rfl) (C := tab [(59, s59)]) (sndC_cons k59 (sndC_nil)) x48 n48 c48 1099511627776 ?_
  intro vs H Q hs
  unfold s48 at hs
  split at hs
  · rename_i b o n cp q
    obtain ⟨l, s, rfl, hl, hr, hc, hq⟩ := hs
    suffices hh : ∀ k, l.length < k → evFun (tab [(59, s59)]) k e48 [.sl (some (b, o)) l.length cp, .fn 59 [] [.ptr (some (q, 0))]] H Q from hh _ hl
    intro k hk
    repeat' (conv => whnf
             first
             | (refine Stop.mk ?_)
             | (refine fI_mk ?_)
             | (refine fO_mk ?_)
             | (refine fN_mk ?_)
             | fail)
    conv => whnf
    refine rLoop_for l.length (I37 b o l.length cp q H (fun i => ∀ j (h : j < i) (h' : j < l.length), meetB l[j] s = false)) ?_ l.length 0 k _ _ _ _ _ (by omega) hk ⟨_, _, _, _, _, _, _, _, _, _, _, _, _, _, ⟨rfl, fun j h => absurd h (Nat.not_lt_zero _)⟩, rfl, rfl, rfl, rfl, rfl⟩
    rintro i tm L H e g hi ⟨x, j2, j3, j5, j9, j10, j11, j12, j13, j14, j15, j16, j17, j18, ⟨rfl, hP⟩, rfl, rfl, rfl, rfl, rfl⟩ K kn kx kr
    repeat' (conv => whnf
             first
             | (refine Stop.mk ?_)
             | (refine fI_mk ?_)
             | (refine fO_mk ?_)
             | (refine fN_mk ?_)
             | fail)
    conv => whnf
    refine dec_split (fun h => ?_) (fun h => ?_)
    · have hlt : i < l.length := by simpa using h
      have hre : ∀ p, p = o + i * 2 → rd H b p 2 = some (enc2 l[i]) := fun p hp => rd_el enc2_len hr i hlt p hp
      repeat' (conv => whnf
               first
               | (refine Stop.mk ?_)
               | (refine fI_gen ?_; intro z hz)
               | (refine fO_gen ?_; intro z hz)
               | (refine Exists.intro _ (Exists.intro _ (And.intro hc ?_)))
               | (refine pure_step (ixs_eq rfl rfl (by omega) (by omega)) ?_)
               | (refine ld_step rfl (hre _ (by omega)) rfl ?_)
               | (refine dec_true (by assumption) ?_)
               | (refine dec_false (by assumption) ?_)
               | (refine dec_split (fun h => ?_) (fun h => ?_))
               | (apply silE)
               | (exact And.intro rfl (And.intro rfl (And.intro rfl rfl)))
               | (refine And.intro (by first | omega | ((simp only [decide_eq_true_eq, decide_eq_false_iff_not, Bool.and_eq_true, beq_iff_eq, Bool.not_eq_true', Bool.not_eq_false'] at *); omega) | (subst_vars; simp only [Int.ofNat_eq_natCast, tq_not, fq_not, tq_and, fq_and, tq_or, fq_or, tq_beq, fq_beq, tq_bne, fq_bne, tq_dec, fq_dec, one1, V.tup.injEq, V.agg.injEq, List.cons.injEq, V.int.injEq, V.bool.injEq, true_and, and_true, decide_eq_true_eq, decide_eq_false_iff_not, Bool.and_eq_true, Bool.and_eq_false_iff, Bool.or_eq_true, Bool.or_eq_false_iff, Bool.not_eq_true', Bool.not_eq_false', beq_iff_eq, wrap_u32, wrap_i64, wrap_u8, beq_eq_false_iff_ne, ne_eq, bne_iff_ne, bne_eq_false_iff_eq, eq_self, and_self, splice, V.cells, List.take_succ_cons, List.take_zero, List.take_nil, List.drop_zero, List.drop_succ_cons, List.drop_nil, List.cons_append, List.nil_append, List.append_nil, List.length_cons, List.length_nil, Nat.zero_add, Nat.reduceAdd, if_true, if_false, Bool.false_eq_true, beq_self_eq_true, decide_eq_decide, Bool.true_eq_false, or_false, false_or, or_true, true_or, and_false, false_and, not_true_eq_false, not_false_eq_true, Bool.and_true, Bool.true_and, Bool.not_true, Bool.not_false] at *; omega)) ?_)
               | (refine Exists.intro _ (Exists.intro _ (And.intro rfl ?_)))
               | (refine Exists.intro _ (And.intro rfl ?_))
               | (refine Exists.intro _ (Exists.intro _ (Exists.intro _ (Exists.intro _ (And.intro rfl ?_)))))
               | (refine ld_step rfl (by assumption) rfl ?_)
               | (refine lds_step rfl (by assumption) rfl ?_)
               | (refine fL_mk ?_)
               | (refine fH_mk ?_)
               | (refine fN_mk ?_)
               | (refine fLB_mk ?_)
               | (refine And.intro (by repeat (first | assumption | refine GLB_app ?_)) ?_)
               | (refine ld_step rfl ((rd_x0 _ _ _ _ _).trans rfl) rfl ?_)
               | (refine ld_step rfl ((rd_x1 _ _ _ _ _ _).trans rfl) rfl ?_)
               | (refine ld_step rfl ((rd_x2 _ _ _ _ _ _ _).trans rfl) rfl ?_)
               | (refine lds_step rfl ((rd_x0 _ _ _ _ _).trans rfl) rfl ?_)
               | (refine lds_step rfl ((rd_x1 _ _ _ _ _ _).trans rfl) rfl ?_)
               | (refine lds_step rfl ((rd_x2 _ _ _ _ _ _ _).trans rfl) rfl ?_)
               | (refine mem_step (st_eq rfl rfl rfl rfl (wr_last _ _ _ _ rfl)) ?_)
               | (refine drec_yes (by omega) ?_)
               | (refine drec_no (by omega) ?_)
               | (intro _)
               | fail)
      · subst_vars
        conv => whnf
        refine kr _ _ _ _ _ ?_
        conv => whnf
        refine hq _ ?_
        exact ⟨fun _ => List.any_eq_true.2 ⟨_, List.getElem_mem hlt, h⟩, fun _ => Int.natCast_nonneg i⟩
      · subst_vars
        conv => whnf
        refine kn hlt _ _ _ _ _ ⟨_, _, _, _, _, _, _, _, _, _, _, _, _, _, ⟨?_, ?_⟩, rfl, rfl, rfl, rfl, rfl⟩
        · rw [wrap_i64]; omega
        · intro j h1 h2
          by_cases hj : j < i
          · exact hP j hj h2
          · obtain rfl : j = i := by omega
            exact h
    clear kn
    repeat' (conv => whnf
             first
             | (refine Stop.mk ?_)
             | (refine kx _ _ _ _ _ _ ?_)
             | fail)
    conv => whnf
    refine hq _ ?_
    have hge : l.length ≤ i := by simpa using h
    refine ⟨fun h0 => absurd h0 (by decide), fun h0 => ?_⟩
    obtain ⟨r, h1, h2⟩ := List.any_eq_true.1 h0
    obtain ⟨j, h3, rfl⟩ := List.getElem_of_mem h1
    rw [hP j (by omega) h3] at h2
    cases h2
  · exact hs.elim

def s58 : Sp := fun vs H Q => match vs with
  | [.sl (some (b, o)) n cp, .fn 59 [] [.ptr (some (q, 0))]] => ∃ (l : List (Int × Int)) (s : Int × Int), n = l.length ∧ l.length < 1099511627776 ∧ rd H b o (l.length * 2) = some (l.flatMap enc2) ∧ rd H q 0 2 = some (enc2 s) ∧ Q (.bool (l.any (fun r => meetB r s))) H false false
  | _ => False
theorem k58 : Snd Tryd.prog 1 58 s58 := by
  refine snd_of_ev (by kernel_rfl) (C := tab [(48, s48)]) (sndC_cons k48 (sndC_nil)) x58 n58 c58 30 ?_
  intro vs H Q hs
  unfold s58 at hs
  split at hs
  · rename_i b o n cp q
    obtain ⟨l, s, rfl, hl, hr, hc, hq⟩ := hs
    conv => whnf
    refine ⟨l, s, rfl, hl, hr, hc, fun x hx => ?_⟩
    repeat' (conv => whnf
             first
             | (refine Stop.mk ?_)
             | (refine fI_gen ?_; intro z hz)
             | (refine fO_gen ?_; intro z hz)
             | (refine dec_true (by assumption) ?_)
             | (refine dec_false (by assumption) ?_)
             | (refine dec_split (fun h => ?_) (fun h => ?_))
             | (apply silE)
             | (exact And.intro rfl (And.intro rfl (And.intro rfl rfl)))
             | (refine And.intro (by first | omega | ((simp only [decide_eq_true_eq, decide_eq_false_iff_not, Bool.and_eq_true, beq_iff_eq, Bool.not_eq_true', Bool.not_eq_false'] at *); omega) | (subst_vars; simp only [Int.ofNat_eq_natCast, tq_not, fq_not, tq_and, fq_and, tq_or, fq_or, tq_beq, fq_beq, tq_bne, fq_bne, tq_dec, fq_dec, one1, V.tup.injEq, V.agg.injEq, List.cons.injEq, V.int.injEq, V.bool.injEq, true_and, and_true, decide_eq_true_eq, decide_eq_false_iff_not, Bool.and_eq_true, Bool.and_eq_false_iff, Bool.or_eq_true, Bool.or_eq_false_iff, Bool.not_eq_true', Bool.not_eq_false', beq_iff_eq, wrap_u32, wrap_i64, wrap_u8, beq_eq_false_iff_ne, ne_eq, bne_iff_ne, bne_eq_false_iff_eq, eq_self, and_self, splice, V.cells, List.take_succ_cons, List.take_zero, List.take_nil, List.drop_zero, List.drop_succ_cons, List.drop_nil, List.cons_append, List.nil_append, List.append_nil, List.length_cons, List.length_nil, Nat.zero_add, Nat.reduceAdd, if_true, if_false, Bool.false_eq_true, beq_self_eq_true, decide_eq_decide, Bool.true_eq_false, or_false, false_or, or_true, true_or, and_false, false_and, not_true_eq_false, not_false_eq_true, Bool.and_true, Bool.true_and, Bool.not_true, Bool.not_false] at *; omega)) ?_)
             | (refine Exists.intro _ (Exists.intro _ (And.intro rfl ?_)))
             | (refine Exists.intro _ (And.intro rfl ?_))
             | (refine Exists.intro _ (Exists.intro _ (Exists.intro _ (Exists.intro _ (And.intro rfl ?_)))))
             | (refine ld_step rfl (by assumption) rfl ?_)
             | (refine lds_step rfl (by assumption) rfl ?_)
             | (refine fL_mk ?_)
             | (refine fH_mk ?_)
             | (refine fN_mk ?_)
             | (refine fLB_mk ?_)
             | (refine And.intro (by repeat (first | assumption | refine GLB_app ?_)) ?_)
             | (refine ld_step rfl ((rd_x0 _ _ _ _ _).trans rfl) rfl ?_)
             | (refine ld_step rfl ((rd_x1 _ _ _ _ _ _).trans rfl) rfl ?_)
             | (refine ld_step rfl ((rd_x2 _ _ _ _ _ _ _).trans rfl) rfl ?_)
             | (refine lds_step rfl ((rd_x0 _ _ _ _ _).trans rfl) rfl ?_)
             | (refine lds_step rfl ((rd_x1 _ _ _ _ _ _).trans rfl) rfl ?_)
             | (refine lds_step rfl ((rd_x2 _ _ _ _ _ _ _).trans rfl) rfl ?_)
             | (refine mem_step (st_eq rfl rfl rfl rfl (wr_last _ _ _ _ rfl)) ?_)
             | (refine drec_yes (by omega) ?_)
             | (refine drec_no (by omega) ?_)
             | (intro _)
             | fail)
    conv => whnf
    refine leafE hq ?_
    subst_vars
    refine (congrArg V.bool ?_ : V.bool _ = V.bool _)
    rw [Bool.eq_iff_iff, ← hx, decide_eq_true_eq]
  · exact hs.elim

/-- all are right, no two meet. -/
def AP (l : List (Int × Int)) (n : Nat) : Prop := ∀ i (_ : i < n) (h : i < l.length), l[i].1 ≤ l[i].2 ∧ ∀ j (h' : j < i), meetB l[j] l[i] = false
def s47 : Sp := fun vs H Q => match vs with
  | [.sl (some (b, o)) n cp] => ∃ (l : List (Int × Int)), n = l.length ∧ n ≤ cp ∧ l.length < 1099511627776 ∧ rd H b o (l.length * 2) = some (l.flatMap enc2) ∧ ∀ x : Bool, (x = true ↔ AP l l.length) → Q (.bool x) H false false
  | _ => False
theorem m47 : Mono s47 := by
  intro vs H Q Q' hQ h
  unfold s47 at h ⊢
  split at h
  all_goals first
    | exact h.elim
    | (repeat' (first | exact hQ _ _ _ _ h | refine And.imp_right (fun h => ?_) h | refine Exists.imp (fun _ h => ?_) h | (intro z; replace h := h z)))
def I22 (b o n cp : Nat) (H0 : List B) (P : Nat → Prop)  (i : Nat) (tm : List SV) (L : List LB) (H : List B) (e g : Bool) : Prop :=
  ∃ (x : Int) (X : List B) (j1 j2 j3 j4 j8 j9 j10 j11 j12 j13 j14 j15 j16 j17 j18 j19 j20 j21 j22 : SV), (x = i ∧ P i) ∧ tm = SV.v (.sl (some (b, o)) n cp) :: j1 :: j2 :: j3 :: j4 :: SV.v (.sl (some (b, o)) n cp) :: SV.v (.int .i64 n) :: SV.v (.int .i64 x) :: j8 :: j9 :: j10 :: j11 :: j12 :: j13 :: j14 :: j15 :: j16 :: j17 :: j18 :: j19 :: j20 :: j21 :: j22 :: [] ∧ L = [] ∧ H = H0 ++ X ∧ e = false ∧ (g = true ∨ X = [])
theorem k47 : Snd Tryd.prog 1 47 s47 := by
  refine snd_of_ev (by kernel_rfl) (C := tab [(38, s38), (58, s58)]) (sndC_cons k38 (sndC_cons k58 (sndC_nil))) x47 n47 c47 1099511627776 ?_
  intro vs H Q hs
  unfold s47 at hs
  split at hs
  · rename_i b o n cp
    obtain ⟨l, rfl, hcp, hl, hr, hq⟩ := hs
    suffices hh : ∀ k, l.length < k → evFun (tab [(38, s38), (58, s58)]) k e47 [.sl (some (b, o)) l.length cp] H Q from hh _ hl
    intro k hk
    repeat' (conv => whnf
             first
             | (refine Stop.mk ?_)
             | (refine fI_mk ?_)
             | (refine fO_mk ?_)
             | (refine fN_mk ?_)
             | fail)
    conv => whnf
    refine rLoop_for l.length (I22 b o l.length cp H (AP l)) ?_ l.length 0 k _ _ _ _ _ (by omega) hk ⟨_, [], _, _, _, _, _, _, _, _, _, _, _, _, _, _, _, _, _, _, _, ⟨rfl, fun j h => absurd h (Nat.not_lt_zero _)⟩, rfl, rfl, (List.append_nil H).symm, rfl, Or.inr rfl⟩
    rintro i tm L H' e g hi ⟨x, X, j1, j2, j3, j4, j8, j9, j10, j11, j12, j13, j14, j15, j16, j17, j18, j19, j20, j21, j22, ⟨rfl, hP⟩, rfl, rfl, rfl, rfl, hg⟩ K kn kx kr
    repeat' (conv => whnf
             first
             | (refine Stop.mk ?_)
             | (refine fI_mk ?_)
             | (refine fO_mk ?_)
             | (refine fN_mk ?_)
             | fail)
    conv => whnf
    refine dec_split (fun h => ?_) (fun h => ?_)
    · have hlt : i < l.length := by simpa using h
      have hre : ∀ p, p = o + i * 2 → rd (H ++ X) b p 2 = some (enc2 l[i]) := fun p hp => rd_app (rd_el enc2_len hr i hlt p hp) X
      have hla : ∀ p, p = (H ++ X).length → rd (H ++ X ++ [.rw 41 (enc2 l[i])]) p 0 2 = some (enc2 l[i]) := fun p hp => hp ▸ rd_last _ _ _ _ rfl
      repeat' (conv => whnf
               first
               | (refine Stop.mk ?_)
               | (refine fI_gen ?_; intro z hz)
               | (refine fO_gen ?_; intro z hz)
               | (refine pure_step (ixs_eq rfl rfl (by omega) (by omega)) ?_)
               | (refine ld_step rfl (hre _ (by omega)) rfl ?_)
               | (refine mem_step (st_eq rfl rfl rfl rfl (wr_last (H ++ X) _ _ _ rfl)) ?_)
               | (refine ld_step rfl (hla _ rfl) rfl ?_)
               | (refine pure_step (slcH_eq rfl rfl (by omega) (by omega)) ?_)
               | (refine ⟨l.take i, l[i], by rw [List.length_take]; omega, by rw [List.length_take]; omega, rd_app (rd_app (rd_take enc2_len hr i hi) X) _, hla _ rfl, ?_⟩)
               | (refine dec_true (by assumption) ?_)
               | (refine dec_false (by assumption) ?_)
               | (refine dec_split (fun h => ?_) (fun h => ?_))
               | (apply silE)
               | (exact And.intro rfl (And.intro rfl (And.intro rfl rfl)))
               | (refine And.intro (by first | omega | ((simp only [decide_eq_true_eq, decide_eq_false_iff_not, Bool.and_eq_true, beq_iff_eq, Bool.not_eq_true', Bool.not_eq_false'] at *); omega) | (subst_vars; simp only [Int.ofNat_eq_natCast, tq_not, fq_not, tq_and, fq_and, tq_or, fq_or, tq_beq, fq_beq, tq_bne, fq_bne, tq_dec, fq_dec, one1, V.tup.injEq, V.agg.injEq, List.cons.injEq, V.int.injEq, V.bool.injEq, true_and, and_true, decide_eq_true_eq, decide_eq_false_iff_not, Bool.and_eq_true, Bool.and_eq_false_iff, Bool.or_eq_true, Bool.or_eq_false_iff, Bool.not_eq_true', Bool.not_eq_false', beq_iff_eq, wrap_u32, wrap_i64, wrap_u8, beq_eq_false_iff_ne, ne_eq, bne_iff_ne, bne_eq_false_iff_eq, eq_self, and_self, splice, V.cells, List.take_succ_cons, List.take_zero, List.take_nil, List.drop_zero, List.drop_succ_cons, List.drop_nil, List.cons_append, List.nil_append, List.append_nil, List.length_cons, List.length_nil, Nat.zero_add, Nat.reduceAdd, if_true, if_false, Bool.false_eq_true, beq_self_eq_true, decide_eq_decide, Bool.true_eq_false, or_false, false_or, or_true, true_or, and_false, false_and, not_true_eq_false, not_false_eq_true, Bool.and_true, Bool.true_and, Bool.not_true, Bool.not_false] at *; omega)) ?_)
               | (refine Exists.intro _ (Exists.intro _ (And.intro rfl ?_)))
               | (refine Exists.intro _ (And.intro rfl ?_))
               | (refine Exists.intro _ (Exists.intro _ (Exists.intro _ (Exists.intro _ (And.intro rfl ?_)))))
               | (refine ld_step rfl (by assumption) rfl ?_)
               | (refine lds_step rfl (by assumption) rfl ?_)
               | (refine fL_mk ?_)
               | (refine fH_mk ?_)
               | (refine fN_mk ?_)
               | (refine fLB_mk ?_)
               | (refine And.intro (by repeat (first | assumption | refine GLB_app ?_)) ?_)
               | (refine ld_step rfl ((rd_x0 _ _ _ _ _).trans rfl) rfl ?_)
               | (refine ld_step rfl ((rd_x1 _ _ _ _ _ _).trans rfl) rfl ?_)
               | (refine ld_step rfl ((rd_x2 _ _ _ _ _ _ _).trans rfl) rfl ?_)
               | (refine lds_step rfl ((rd_x0 _ _ _ _ _).trans rfl) rfl ?_)
               | (refine lds_step rfl ((rd_x1 _ _ _ _ _ _).trans rfl) rfl ?_)
               | (refine lds_step rfl ((rd_x2 _ _ _ _ _ _ _).trans rfl) rfl ?_)
               | (refine mem_step (st_eq rfl rfl rfl rfl (wr_last _ _ _ _ rfl)) ?_)
               | (refine drec_yes (by omega) ?_)
               | (refine drec_no (by omega) ?_)
               | (intro _)
               | fail)
      · have hri : ¬ l[i].1 ≤ l[i].2 := by clear kx kn kr hq hre hla; subst_vars; simp only [Int.ofNat_eq_natCast, tq_not, fq_not, tq_and, fq_and, tq_or, fq_or, tq_beq, fq_beq, tq_bne, fq_bne, tq_dec, fq_dec, one1, V.tup.injEq, V.agg.injEq, List.cons.injEq, V.int.injEq, V.bool.injEq, true_and, and_true, decide_eq_true_eq, decide_eq_false_iff_not, Bool.and_eq_true, Bool.and_eq_false_iff, Bool.or_eq_true, Bool.or_eq_false_iff, Bool.not_eq_true', Bool.not_eq_false', beq_iff_eq, wrap_u32, wrap_i64, wrap_u8, beq_eq_false_iff_ne, ne_eq, bne_iff_ne, bne_eq_false_iff_eq, eq_self, and_self, splice, V.cells, List.take_succ_cons, List.take_zero, List.take_nil, List.drop_zero, List.drop_succ_cons, List.drop_nil, List.cons_append, List.nil_append, List.append_nil, List.length_cons, List.length_nil, Nat.zero_add, Nat.reduceAdd, if_true, if_false, Bool.false_eq_true, beq_self_eq_true, decide_eq_decide, Bool.true_eq_false, or_false, false_or, or_true, true_or, and_false, false_and, not_true_eq_false, not_false_eq_true, Bool.and_true, Bool.true_and, Bool.not_true, Bool.not_false] at *; omega
        subst_vars
        conv => whnf
        refine kr _ _ _ _ _ ?_
        conv => whnf
        first | refine gH_mk ?_ | refine fH_mk ?_
        refine leafH (hq false ⟨fun h0 => (nomatch h0), fun h0 => ?_⟩) rfl (take_app2 H X _)
        have := (h0 i hlt hlt).1
        omega
      · have hk1 : (l.take i).any (fun r => meetB r l[i]) = true := (‹_ = (l.take i).any (fun r => meetB r l[i])›).symm.trans h
        subst_vars
        conv => whnf
        refine kr _ _ _ _ _ ?_
        conv => whnf
        first | refine gH_mk ?_ | refine fH_mk ?_
        refine leafH (hq false ⟨fun h0 => (nomatch h0), fun h0 => ?_⟩) rfl (take_app2 H X _)
        obtain ⟨r, h1, h2⟩ := List.any_eq_true.1 hk1
        obtain ⟨j, h3, rfl⟩ := List.getElem_of_mem h1
        rw [List.length_take] at h3
        rw [List.getElem_take, (h0 i hlt hlt).2 j (by omega)] at h2
        cases h2
      · have hri : l[i].1 ≤ l[i].2 := by clear kx kn kr hq hre hla; subst_vars; simp only [Int.ofNat_eq_natCast, tq_not, fq_not, tq_and, fq_and, tq_or, fq_or, tq_beq, fq_beq, tq_bne, fq_bne, tq_dec, fq_dec, one1, V.tup.injEq, V.agg.injEq, List.cons.injEq, V.int.injEq, V.bool.injEq, true_and, and_true, decide_eq_true_eq, decide_eq_false_iff_not, Bool.and_eq_true, Bool.and_eq_false_iff, Bool.or_eq_true, Bool.or_eq_false_iff, Bool.not_eq_true', Bool.not_eq_false', beq_iff_eq, wrap_u32, wrap_i64, wrap_u8, beq_eq_false_iff_ne, ne_eq, bne_iff_ne, bne_eq_false_iff_eq, eq_self, and_self, splice, V.cells, List.take_succ_cons, List.take_zero, List.take_nil, List.drop_zero, List.drop_succ_cons, List.drop_nil, List.cons_append, List.nil_append, List.append_nil, List.length_cons, List.length_nil, Nat.zero_add, Nat.reduceAdd, if_true, if_false, Bool.false_eq_true, beq_self_eq_true, decide_eq_decide, Bool.true_eq_false, or_false, false_or, or_true, true_or, and_false, false_and, not_true_eq_false, not_false_eq_true, Bool.and_true, Bool.true_and, Bool.not_true, Bool.not_false] at *; omega
        have hk1 : (l.take i).any (fun r => meetB r l[i]) = false := (‹_ = (l.take i).any (fun r => meetB r l[i])›).symm.trans h
        subst_vars
        conv => whnf
        refine kn hlt _ _ _ _ _ ⟨_, _, _, _, _, _, _, _, _, _, _, _, _, _, _, _, _, _, _, _, _, ⟨?_, ?_⟩, rfl, rfl, List.append_assoc _ _ _, rfl, Or.inl rfl⟩
        · rw [wrap_i64]; omega
        · intro j h1 h2
          by_cases hj : j < i
          · exact hP j hj h2
          · obtain rfl : j = i := by omega
            refine ⟨hri, fun m hm => ?_⟩
            cases hm2 : meetB l[m] l[j] with
            | false => rfl
            | true =>
              exfalso
              have h5 : m < (l.take j).length := by rw [List.length_take]; omega
              have h6 := List.getElem_mem h5
              rw [List.getElem_take] at h6
              have h7 : (l.take j).any (fun r => meetB r l[j]) = true := List.any_eq_true.2 ⟨l[m], h6, hm2⟩
              rw [h7] at hk1; cases hk1
    have hge : l.length ≤ i := by simpa using h
    obtain rfl : i = l.length := by omega
    rcases hg with rfl | rfl
    · skip
      repeat' (conv => whnf
               first
               | (refine Stop.mk ?_)
               | (refine kx _ _ _ _ _ _ ?_)
               | fail)
      conv => whnf
      first | refine gH_mk ?_ | refine fH_mk ?_
      exact leafH (hq true ⟨fun _ => hP, fun _ => rfl⟩) rfl (take_app1 H X)
    · cases g
      · skip
        repeat' (conv => whnf
                 first
                 | (refine Stop.mk ?_)
                 | (refine kx _ _ _ _ _ _ ?_)
                 | fail)
        conv => whnf
        exact leafH (hq true ⟨fun _ => hP, fun _ => rfl⟩) rfl (List.append_nil H).symm
      · skip
        repeat' (conv => whnf
                 first
                 | (refine Stop.mk ?_)
                 | (refine kx _ _ _ _ _ _ ?_)
                 | fail)
        conv => whnf
        first | refine gH_mk ?_ | refine fH_mk ?_
        exact leafH (hq true ⟨fun _ => hP, fun _ => rfl⟩) rfl (take_app1 H _)
  · exact hs.elim
end Go.Ev
