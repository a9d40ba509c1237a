/- dev: RegionEnds -/
import Derived.Test.YtidpndncnhdkiaaDoorKlaw
import Derived.Test.YtidpndncnhdkiaaDoorEvZ
set_option linter.all false
namespace Go.Ev
open Go Go.Proofs
set_option maxRecDepth 4000
set_option maxHeartbeats 4000000
def tOn (n : Int) : Bool := if n = 0 then false else if n = 8 then false else true
def tW (n v : Int) : Int := if n = 1 then v - 2 else if n = 8 then v else 1
def tF (n v : Int) : Int := if n = 2 then v * 64 else if n = 8 then 0 else 256
def tT (n v : Int) : Int := if n = 3 then v * 64 else if n = 8 then 0 else 511
def tR (n : Int) : Bool := if n = 4 then false else if n = 8 then false else true
def tWr (n v : Int) : Bool := if n = 5 then decide (v % 2 = 0) else false
def tRk (n v : Int) : Int := if n = 6 then v * 32 - 32 else if n = 8 then v else if n < 9 then 3 else 256 - v % 3
def tLk (n : Int) : Bool := if n = 7 then true else false
theorem tF_bd {n v : Int} (h : 0 ≤ v ∧ v < 100) : 0 ≤ tF n v ∧ tF n v < 4294967296 := by unfold tF; (repeat' split) <;> omega
theorem tT_bd {n v : Int} (h : 0 ≤ v ∧ v < 100) : 0 ≤ tT n v ∧ tT n v < 4294967296 := by unfold tT; (repeat' split) <;> omega
def s9 : Sp := fun vs H Q => match vs with
  | [.int .i64 n, .int .i64 v] => ((0 ≤ n ∧ n < 100) ∧ 0 ≤ v ∧ v < 100) ∧ Q (.agg [.bool (tOn n), .int .i64 (tW n v), .int .u32 (tF n v), .int .u32 (tT n v), .bool (tR n), .bool (tWr n v), .int .i64 (tRk n v), .bool (tLk n)]) H false false
  | _ => False
theorem m9 : Mono s9 := by
  intro vs H Q Q' hQ h
  unfold s9 at h ⊢
  split at h
  all_goals first
    | exact h.elim
    | (repeat' (first | exact hQ _ _ _ _ h | refine And.imp_right (fun h => ?_) h | refine Exists.imp (fun _ h => ?_) h | (intro z; replace h := h z)))
theorem k9 : Snd Tryd.prog 1 9 s9 := by
  refine snd_of_ev (by kernel_rfl) (C := tab [(10, s10)]) (sndC_cons k10 (sndC_nil)) x9 n9 c9 30 ?_
  intro vs H Q hs
  unfold s9 at hs
  split at hs
  · rename_i n v
    obtain ⟨hp, hs⟩ := hs
    have hq := hs; clear hs
    repeat' (conv => whnf
             first
             | (refine Stop.mk ?_)
             | (refine fI_i64 (by omega) ?_; intro z hz)
             | (refine fI_u32 (by omega) ?_; intro z hz)
             | (refine fI_u8 (by omega) ?_; intro z hz)
             | (refine fI_u64 (by omega) ?_; intro z hz)
             | (refine fI_tdiv (by omega) ?_; intro z hz)
             | (refine fI_tmod (by omega) ?_; intro z hz)
             | (refine fI_gen ?_; intro z hz)
             | (refine fO_gen ?_; intro z hz)
             | (refine dec_true (by assumption) ?_)
             | (refine dec_false (by assumption) ?_)
             | (refine dec_split (fun h => ?_) (fun h => ?_))
             | (apply silE)
             | (exact And.intro rfl (And.intro rfl (And.intro rfl rfl)))
             | (refine And.intro (by first | omega | ((simp only [decide_eq_true_eq, decide_eq_false_iff_not, Bool.and_eq_true, beq_iff_eq, Bool.not_eq_true', Bool.not_eq_false'] at *); omega) | (subst_vars; simp only [Int.ofNat_eq_natCast, tq_not, fq_not, tq_and, fq_and, tq_or, fq_or, tq_beq, fq_beq, tq_bne, fq_bne, tq_dec, fq_dec, one1, V.tup.injEq, V.agg.injEq, List.cons.injEq, V.int.injEq, V.bool.injEq, true_and, and_true, decide_eq_true_eq, decide_eq_false_iff_not, Bool.and_eq_true, Bool.and_eq_false_iff, Bool.or_eq_true, Bool.or_eq_false_iff, Bool.not_eq_true', Bool.not_eq_false', beq_iff_eq, wrap_u32, wrap_i64, wrap_u8, beq_eq_false_iff_ne, ne_eq, bne_iff_ne, bne_eq_false_iff_eq, eq_self, and_self, splice, V.cells, List.take_succ_cons, List.take_zero, List.take_nil, List.drop_zero, List.drop_succ_cons, List.drop_nil, List.cons_append, List.nil_append, List.append_nil, List.length_cons, List.length_nil, Nat.zero_add, Nat.reduceAdd, if_true, if_false, Bool.false_eq_true, beq_self_eq_true, decide_eq_decide, Bool.true_eq_false, or_false, false_or, or_true, true_or, and_false, false_and, not_true_eq_false, not_false_eq_true, Bool.and_true, Bool.true_and, Bool.not_true, Bool.not_false] at *; omega)) ?_)
             | (refine Exists.intro _ (Exists.intro _ (And.intro rfl ?_)))
             | (refine Exists.intro _ (And.intro rfl ?_))
             | (refine Exists.intro _ (Exists.intro _ (Exists.intro _ (Exists.intro _ (And.intro rfl ?_)))))
             | (refine ld_step rfl (by assumption) rfl ?_)
             | (refine lds_step rfl (by assumption) rfl ?_)
             | (refine fL_mk ?_)
             | (refine fH_mk ?_)
             | (refine fN_mk ?_)
             | (refine fLB_mk ?_)
             | (refine And.intro (by first | assumption | exact GLB_app (by assumption) | exact GLB_app (GLB_app (by assumption))) ?_)
             | (refine ld_step rfl ((rd_x0 _ _ _ _ _).trans rfl) rfl ?_)
             | (refine ld_step rfl ((rd_x1 _ _ _ _ _ _).trans rfl) rfl ?_)
             | (refine drec_yes (by omega) ?_)
             | (refine drec_no (by omega) ?_)
             | (intro _)
             | fail)
    all_goals
      conv => whnf
      refine leafE hq ?_
      clear hq
      simp only [one1, List.drop_zero, List.take_succ_cons, List.take_zero, V.agg.injEq, List.cons.injEq, V.bool.injEq, V.int.injEq, true_and, and_true, Int.ofNat_eq_natCast]
      (repeat' refine And.intro ?_ ?_) <;> grind [tOn, tW, tF, tT, tR, tWr, tRk, tLk]
  · exact hs.elim
def s4 : Sp := fun vs H Q => match vs with
  | [] => GLB H ∧ Q (.bool true) H false false
  | _ => False
theorem k4 : Snd Tryd.prog 1 4 s4 := by
  refine snd_of_ev (by kernel_rfl) (C := tab [(7, s7), (8, s8), (9, s9), (10, s10)]) (sndC_cons k7 (sndC_cons k8 (sndC_cons k9 (sndC_cons k10 (sndC_nil))))) x4 n4 c4 50 ?_
  have hC : MonoC (tab [(7, s7), (8, s8), (9, s9), (10, s10)]) := monoC_cons m7 (monoC_cons m8 (monoC_cons m9 (monoC_cons m10 (monoC_nil))))
  intro vs Hx Q hs
  unfold s4 at hs
  split at hs
  · obtain ⟨hg, hq⟩ := hs
    suffices hh : ∀ k, 40 < k → evFun (tab [(7, s7), (8, s8), (9, s9), (10, s10)]) k e4 [] Hx Q from hh _ (by omega)
    intro k hk
    repeat' (conv => whnf
             first
             | (refine Stop.mk ?_)
             | (refine fI_mk ?_)
             | (refine fO_mk ?_)
             | (refine fN_mk ?_)
             | fail)
    conv => whnf
    refine rLoop_ctr (c := rC (tab [(7, s7), (8, s8), (9, s9), (10, s10)]) k l4_0) 10 1 (true :: false :: true :: true :: true :: true :: false :: true :: true :: true :: true :: true :: true :: true :: true :: true :: true :: true :: true :: true :: true :: true :: true :: true :: true :: true :: true :: true :: true :: true :: true :: true :: true :: true :: true :: true :: true :: true :: true :: true :: true :: true :: true :: true :: true :: true :: true :: true :: true :: true :: true :: true :: true :: true :: true :: true :: true :: true :: true :: true :: true :: true :: true :: true :: false :: false :: false :: false :: false :: false :: false :: false :: false :: false :: false :: false :: false :: false :: false :: false :: []) (fun i tm L H e g => (∃ X, H = Hx ++ X ∧ (g = true ∨ X = [])) ∧ e = false) (by omega) rfl ⟨⟨[], (List.append_nil _).symm, Or.inr rfl⟩, rfl⟩ ?_
    intro i0 hi0
    conv => whnf
    intro j
    conv => whnf
    intro j
    conv => whnf
    intro j
    conv => whnf
    intro j
    conv => whnf
    intro j
    conv => whnf
    intro j
    conv => whnf
    intro j
    conv => whnf
    intro j
    conv => whnf
    intro j
    conv => whnf
    intro j
    conv => whnf
    intro j
    conv => whnf
    intro j
    conv => whnf
    intro j
    conv => whnf
    intro j
    conv => whnf
    intro j
    conv => whnf
    intro j
    conv => whnf
    intro j
    conv => whnf
    intro j
    conv => whnf
    intro j
    conv => whnf
    intro j
    conv => whnf
    intro j
    conv => whnf
    intro j
    conv => whnf
    intro j
    conv => whnf
    intro j
    conv => whnf
    intro j
    conv => whnf
    intro j
    conv => whnf
    intro j
    conv => whnf
    intro j
    conv => whnf
    intro j
    conv => whnf
    intro j
    conv => whnf
    intro j
    conv => whnf
    intro j
    conv => whnf
    intro j
    conv => whnf
    intro j
    conv => whnf
    intro j
    conv => whnf
    intro j
    conv => whnf
    intro j
    conv => whnf
    intro j
    conv => whnf
    intro j
    conv => whnf
    intro j
    conv => whnf
    intro j
    conv => whnf
    intro j
    conv => whnf
    intro j
    conv => whnf
    intro j
    conv => whnf
    intro j
    conv => whnf
    intro j
    conv => whnf
    intro j
    conv => whnf
    intro j
    conv => whnf
    intro j
    conv => whnf
    intro j
    conv => whnf
    intro j
    conv => whnf
    intro j
    conv => whnf
    intro j
    conv => whnf
    intro j
    conv => whnf
    intro j
    conv => whnf
    intro j
    conv => whnf
    intro j
    conv => whnf
    intro j
    conv => whnf
    intro j
    conv => whnf
    intro j
    conv => whnf
    intro j
    conv => whnf
    intro j
    conv => whnf
    refine Halt.mk ?_
    rintro L H' e g ⟨⟨X, rfl, hgx⟩, rfl⟩ K kn kx kr
    repeat' (conv => whnf
             first
             | (refine Stop.mk ?_)
             | (refine fI_mk ?_)
             | (refine fO_mk ?_)
             | (refine fN_mk ?_)
             | fail)
    conv => whnf
    refine dec_split (fun h => ?_) (fun h => ?_)
    · have hlt : i0 < 10 := by have := of_decide_eq_true h; omega
      repeat' (conv => whnf
               first
               | (refine Stop.mk ?_)
               | (refine fI_mk ?_)
               | (refine fO_mk ?_)
               | (refine fN_mk ?_)
               | fail)
      conv => whnf
      refine rLoop_ctr (c := rC (tab [(7, s7), (8, s8), (9, s9), (10, s10)]) k l4_1) 12 2 (true :: false :: false :: true :: true :: true :: false :: false :: false :: false :: false :: true :: true :: true :: true :: true :: true :: true :: true :: true :: true :: true :: true :: true :: true :: true :: true :: true :: true :: true :: true :: true :: true :: true :: true :: true :: true :: true :: true :: true :: true :: true :: true :: true :: true :: true :: true :: true :: true :: true :: true :: true :: true :: true :: true :: true :: true :: true :: true :: true :: true :: true :: true :: true :: false :: false :: false :: false :: false :: false :: false :: false :: false :: false :: false :: false :: false :: false :: false :: false :: []) (fun i tm L H e g => (∃ X, H = Hx ++ X ∧ (g = true ∨ X = [])) ∧ e = false) (by omega) rfl ⟨⟨X, rfl, by simpa using hgx⟩, rfl⟩ ?_
      intro i1 hi1
      conv => whnf
      intro j
      conv => whnf
      intro j
      conv => whnf
      intro j
      conv => whnf
      intro j
      conv => whnf
      intro j
      conv => whnf
      intro j
      conv => whnf
      intro j
      conv => whnf
      intro j
      conv => whnf
      intro j
      conv => whnf
      intro j
      conv => whnf
      intro j
      conv => whnf
      intro j
      conv => whnf
      intro j
      conv => whnf
      intro j
      conv => whnf
      intro j
      conv => whnf
      intro j
      conv => whnf
      intro j
      conv => whnf
      intro j
      conv => whnf
      intro j
      conv => whnf
      intro j
      conv => whnf
      intro j
      conv => whnf
      intro j
      conv => whnf
      intro j
      conv => whnf
      intro j
      conv => whnf
      intro j
      conv => whnf
      intro j
      conv => whnf
      intro j
      conv => whnf
      intro j
      conv => whnf
      intro j
      conv => whnf
      intro j
      conv => whnf
      intro j
      conv => whnf
      intro j
      conv => whnf
      intro j
      conv => whnf
      intro j
      conv => whnf
      intro j
      conv => whnf
      intro j
      conv => whnf
      intro j
      conv => whnf
      intro j
      conv => whnf
      intro j
      conv => whnf
      intro j
      conv => whnf
      intro j
      conv => whnf
      intro j
      conv => whnf
      intro j
      conv => whnf
      intro j
      conv => whnf
      intro j
      conv => whnf
      intro j
      conv => whnf
      intro j
      conv => whnf
      intro j
      conv => whnf
      intro j
      conv => whnf
      intro j
      conv => whnf
      intro j
      conv => whnf
      intro j
      conv => whnf
      intro j
      conv => whnf
      intro j
      conv => whnf
      intro j
      conv => whnf
      intro j
      conv => whnf
      intro j
      conv => whnf
      refine Halt.mk ?_
      rintro Lx H' e g ⟨⟨X, rfl, hgx⟩, rfl⟩ K1 kn1 kx1 kr1
      repeat' (conv => whnf
               first
               | (refine Stop.mk ?_)
               | (refine fI_mk ?_)
               | (refine fO_mk ?_)
               | (refine fN_mk ?_)
               | fail)
      conv => whnf
      refine dec_split (fun h1 => ?_) (fun h1 => ?_)
      · have hlt1 : i1 < 12 := by have := of_decide_eq_true h1; omega
        repeat' (conv => whnf
                 first
                 | (refine Stop.mk ?_)
                 | (refine fI_i64 (by omega) ?_; intro z hz)
                 | (refine fI_u32 (by omega) ?_; intro z hz)
                 | (refine fI_u8 (by omega) ?_; intro z hz)
                 | (refine fI_u64 (by omega) ?_; intro z hz)
                 | (refine fI_tdiv (by omega) ?_; intro z hz)
                 | (refine fI_tmod (by omega) ?_; intro z hz)
                 | (refine fI_gen ?_; intro z hz)
                 | (refine fO_gen ?_; intro z hz)
                 | (refine And.intro ⟨⟨by omega, by omega⟩, by omega, by omega⟩ ?_)
                 | (refine mem_step (stl0_eq rfl rfl rfl rfl (by decide)) ?_)
                 | (refine dec_true (by assumption) ?_)
                 | (refine dec_false (by assumption) ?_)
                 | (refine dec_split (fun h => ?_) (fun h => ?_))
                 | (apply silE)
                 | (exact And.intro rfl (And.intro rfl (And.intro rfl rfl)))
                 | (refine And.intro (by first | omega | ((simp only [decide_eq_true_eq, decide_eq_false_iff_not, Bool.and_eq_true, beq_iff_eq, Bool.not_eq_true', Bool.not_eq_false'] at *); omega) | (subst_vars; simp only [Int.ofNat_eq_natCast, tq_not, fq_not, tq_and, fq_and, tq_or, fq_or, tq_beq, fq_beq, tq_bne, fq_bne, tq_dec, fq_dec, one1, V.tup.injEq, V.agg.injEq, List.cons.injEq, V.int.injEq, V.bool.injEq, true_and, and_true, decide_eq_true_eq, decide_eq_false_iff_not, Bool.and_eq_true, Bool.and_eq_false_iff, Bool.or_eq_true, Bool.or_eq_false_iff, Bool.not_eq_true', Bool.not_eq_false', beq_iff_eq, wrap_u32, wrap_i64, wrap_u8, beq_eq_false_iff_ne, ne_eq, bne_iff_ne, bne_eq_false_iff_eq, eq_self, and_self, splice, V.cells, List.take_succ_cons, List.take_zero, List.take_nil, List.drop_zero, List.drop_succ_cons, List.drop_nil, List.cons_append, List.nil_append, List.append_nil, List.length_cons, List.length_nil, Nat.zero_add, Nat.reduceAdd, if_true, if_false, Bool.false_eq_true, beq_self_eq_true, decide_eq_decide, Bool.true_eq_false, or_false, false_or, or_true, true_or, and_false, false_and, not_true_eq_false, not_false_eq_true, Bool.and_true, Bool.true_and, Bool.not_true, Bool.not_false] at *; omega)) ?_)
                 | (refine Exists.intro _ (Exists.intro _ (And.intro rfl ?_)))
                 | (refine Exists.intro _ (And.intro rfl ?_))
                 | (refine Exists.intro _ (Exists.intro _ (Exists.intro _ (Exists.intro _ (And.intro rfl ?_)))))
                 | (refine ld_step rfl (by assumption) rfl ?_)
                 | (refine lds_step rfl (by assumption) rfl ?_)
                 | (refine fL_mk ?_)
                 | (refine fH_mk ?_)
                 | (refine fN_mk ?_)
                 | (refine fLB_mk ?_)
                 | (refine And.intro (by first | assumption | exact GLB_app (by assumption) | exact GLB_app (GLB_app (by assumption))) ?_)
                 | (refine ld_step rfl ((rd_x0 _ _ _ _ _).trans rfl) rfl ?_)
                 | (refine ld_step rfl ((rd_x1 _ _ _ _ _ _).trans rfl) rfl ?_)
                 | (refine drec_yes (by omega) ?_)
                 | (refine drec_no (by omega) ?_)
                 | (intro _)
                 | fail)
        repeat' (conv => whnf
                 first
                 | (refine Stop.mk ?_)
                 | (refine fI_mk ?_)
                 | (refine fO_mk ?_)
                 | (refine fN_mk ?_)
                 | fail)
        conv => whnf
        refine rLoop_ctr (c := rC (tab [(7, s7), (8, s8), (9, s9), (10, s10)]) k l4_2) 36 4 (true :: false :: false :: false :: false :: true :: false :: false :: false :: false :: false :: false :: false :: false :: false :: false :: false :: false :: true :: true :: true :: true :: true :: true :: true :: true :: true :: true :: true :: true :: true :: true :: true :: true :: true :: true :: true :: true :: true :: true :: true :: true :: true :: true :: true :: true :: true :: true :: true :: true :: true :: true :: true :: true :: true :: true :: true :: true :: true :: true :: true :: true :: true :: true :: false :: false :: false :: false :: false :: false :: false :: false :: false :: false :: false :: false :: false :: false :: false :: false :: []) (fun i tm L H e g => (∃ (on : Bool) (w f t : Int) (rr rw : Bool) (rk : Int) (lk : Bool) (L2 : List LB), ((0 ≤ f ∧ f < 4294967296) ∧ (0 ≤ t ∧ t < 4294967296)) ∧ L = Lx ++ [⟨26, [.bool on, .int .i64 w, .int .u32 f, .int .u32 t, .bool rr, .bool rw, .int .i64 rk, .bool lk]⟩] ++ L2) ∧ (∃ X, H = Hx ++ X ∧ (g = true ∨ X = [])) ∧ e = false) (by omega) rfl ⟨⟨_, _, _, _, _, _, _, _, [], by (have h1 := tF_bd (n := i0) (v := i1) ⟨by omega, by omega⟩); (have h2 := tT_bd (n := i0) (v := i1) ⟨by omega, by omega⟩); omega, (List.append_nil _).symm⟩, ⟨X, rfl, by simpa using hgx⟩, rfl⟩ ?_
        intro i2 hi2
        conv => whnf
        intro j
        conv => whnf
        intro j
        conv => whnf
        intro j
        conv => whnf
        intro j
        conv => whnf
        intro j
        conv => whnf
        intro j
        conv => whnf
        intro j
        conv => whnf
        intro j
        conv => whnf
        intro j
        conv => whnf
        intro j
        conv => whnf
        intro j
        conv => whnf
        intro j
        conv => whnf
        intro j
        conv => whnf
        intro j
        conv => whnf
        intro j
        conv => whnf
        intro j
        conv => whnf
        intro j
        conv => whnf
        intro j
        conv => whnf
        intro j
        conv => whnf
        intro j
        conv => whnf
        intro j
        conv => whnf
        intro j
        conv => whnf
        intro j
        conv => whnf
        intro j
        conv => whnf
        intro j
        conv => whnf
        intro j
        conv => whnf
        intro j
        conv => whnf
        intro j
        conv => whnf
        intro j
        conv => whnf
        intro j
        conv => whnf
        intro j
        conv => whnf
        intro j
        conv => whnf
        intro j
        conv => whnf
        intro j
        conv => whnf
        intro j
        conv => whnf
        intro j
        conv => whnf
        intro j
        conv => whnf
        intro j
        conv => whnf
        intro j
        conv => whnf
        intro j
        conv => whnf
        intro j
        conv => whnf
        intro j
        conv => whnf
        intro j
        conv => whnf
        intro j
        conv => whnf
        intro j
        conv => whnf
        intro j
        conv => whnf
        intro j
        conv => whnf
        intro j
        conv => whnf
        refine Halt.mk ?_
        rintro L H' e g ⟨⟨on, w, f, t, rr, rw, rk, lk, L2, hft, rfl⟩, ⟨X, rfl, hgx⟩, rfl⟩ K2 kn2 kx2 kr2
        show rC _ _ l4_2r0 _ _ _ _ _ _
        refine rC_seqH ?_
        repeat' (conv => whnf
                 first
                 | (refine Stop.mk ?_)
                 | (refine fI_gen ?_; intro z hz)
                 | (refine fO_gen ?_; intro z hz)
                 | (refine dec_true (by assumption) ?_)
                 | (refine dec_false (by assumption) ?_)
                 | (refine dec_split (fun h => ?_) (fun h => ?_))
                 | (apply silE)
                 | (exact And.intro rfl (And.intro rfl (And.intro rfl rfl)))
                 | (refine And.intro (by first | omega | ((simp only [decide_eq_true_eq, decide_eq_false_iff_not, Bool.and_eq_true, beq_iff_eq, Bool.not_eq_true', Bool.not_eq_false'] at *); omega) | (subst_vars; simp only [Int.ofNat_eq_natCast, tq_not, fq_not, tq_and, fq_and, tq_or, fq_or, tq_beq, fq_beq, tq_bne, fq_bne, tq_dec, fq_dec, one1, V.tup.injEq, V.agg.injEq, List.cons.injEq, V.int.injEq, V.bool.injEq, true_and, and_true, decide_eq_true_eq, decide_eq_false_iff_not, Bool.and_eq_true, Bool.and_eq_false_iff, Bool.or_eq_true, Bool.or_eq_false_iff, Bool.not_eq_true', Bool.not_eq_false', beq_iff_eq, wrap_u32, wrap_i64, wrap_u8, beq_eq_false_iff_ne, ne_eq, bne_iff_ne, bne_eq_false_iff_eq, eq_self, and_self, splice, V.cells, List.take_succ_cons, List.take_zero, List.take_nil, List.drop_zero, List.drop_succ_cons, List.drop_nil, List.cons_append, List.nil_append, List.append_nil, List.length_cons, List.length_nil, Nat.zero_add, Nat.reduceAdd, if_true, if_false, Bool.false_eq_true, beq_self_eq_true, decide_eq_decide, Bool.true_eq_false, or_false, false_or, or_true, true_or, and_false, false_and, not_true_eq_false, not_false_eq_true, Bool.and_true, Bool.true_and, Bool.not_true, Bool.not_false] at *; omega)) ?_)
                 | (refine Exists.intro _ (Exists.intro _ (And.intro rfl ?_)))
                 | (refine Exists.intro _ (And.intro rfl ?_))
                 | (refine Exists.intro _ (Exists.intro _ (Exists.intro _ (Exists.intro _ (And.intro rfl ?_)))))
                 | (refine ld_step rfl (by assumption) rfl ?_)
                 | (refine lds_step rfl (by assumption) rfl ?_)
                 | (refine fL_mk ?_)
                 | (refine fH_mk ?_)
                 | (refine fN_mk ?_)
                 | (refine fLB_mk ?_)
                 | (refine And.intro (by first | assumption | exact GLB_app (by assumption) | exact GLB_app (GLB_app (by assumption))) ?_)
                 | (refine ld_step rfl ((rd_x0 _ _ _ _ _).trans rfl) rfl ?_)
                 | (refine ld_step rfl ((rd_x1 _ _ _ _ _ _).trans rfl) rfl ?_)
                 | (refine drec_yes (by omega) ?_)
                 | (refine drec_no (by omega) ?_)
                 | (intro _)
                 | fail)
        any_goals refine Halt.mk ?_
        any_goals show rC _ _ l4_2r1 _ _ _ _ _ _
        · have hlt2 : i2 < 36 := by rw [h] at hz; have := of_decide_eq_true hz.symm; omega
          refine rC_cutG hC l4_2m1 ?_ ?_
          · clear kx kn kr kx1 kn1 kr1 kx2 kn2 kr2 hq
            repeat' (conv => whnf
                     first
                     | (refine Stop.mk ?_)
                     | (refine fI_wquo64 (by omega) ?_; intro z hz)
                     | (refine fI_wquo32 (by omega) ?_; intro z hz)
                     | (refine fI_i64 (by omega) ?_; intro z hz)
                     | (refine fI_u32 (by omega) ?_; intro z hz)
                     | (refine fI_u8 (by omega) ?_; intro z hz)
                     | (refine fI_u64 (by omega) ?_; intro z hz)
                     | (refine fI_tdiv (by omega) ?_; intro z hz)
                     | (refine fI_tmod (by omega) ?_; intro z hz)
                     | (refine fI_gen ?_; intro z hz)
                     | (refine fO_gen ?_; intro z hz)
                     | (refine pure_step (ixs_eq rfl rfl (by omega) (show _ < (4 : Int) by omega)) ?_)
                     | (refine ld_list0 (cs := [V.int .i64 1, V.int .i64 2, V.int .i64 4, V.int .i64 3]) rfl (by simp; omega) ?_; intro v hv; simp only [List.mem_cons, List.not_mem_nil, or_false] at hv; rcases hv with rfl | rfl | rfl | rfl)
                     | (refine mem_step (stl0_eq rfl rfl rfl rfl (by decide)) ?_)
                     | (refine lds_mem (ldl_eq rfl (lgetX1 _ _ _ _) rfl rfl) ?_)
                     | (refine lds_mem (ldl_eq rfl (lget0 _ _) rfl rfl) ?_)
                     | (refine And.intro (by subst_vars; (have q1 := tF_bd (n := (i2:Int) % 10) (v := (i2:Int) / 3) ⟨by omega, by omega⟩); (have q2 := tT_bd (n := (i2:Int) % 10) (v := (i2:Int) / 3) ⟨by omega, by omega⟩); omega) ?_)
                     | (refine dec_true (by assumption) ?_)
                     | (refine dec_false (by assumption) ?_)
                     | (refine dec_split (fun h => ?_) (fun h => ?_))
                     | (apply silE)
                     | (exact And.intro rfl (And.intro rfl (And.intro rfl rfl)))
                     | (refine And.intro (by first | omega | ((simp only [decide_eq_true_eq, decide_eq_false_iff_not, Bool.and_eq_true, beq_iff_eq, Bool.not_eq_true', Bool.not_eq_false'] at *); omega) | (subst_vars; simp only [Int.ofNat_eq_natCast, tq_not, fq_not, tq_and, fq_and, tq_or, fq_or, tq_beq, fq_beq, tq_bne, fq_bne, tq_dec, fq_dec, one1, V.tup.injEq, V.agg.injEq, List.cons.injEq, V.int.injEq, V.bool.injEq, true_and, and_true, decide_eq_true_eq, decide_eq_false_iff_not, Bool.and_eq_true, Bool.and_eq_false_iff, Bool.or_eq_true, Bool.or_eq_false_iff, Bool.not_eq_true', Bool.not_eq_false', beq_iff_eq, wrap_u32, wrap_i64, wrap_u8, beq_eq_false_iff_ne, ne_eq, bne_iff_ne, bne_eq_false_iff_eq, eq_self, and_self, splice, V.cells, List.take_succ_cons, List.take_zero, List.take_nil, List.drop_zero, List.drop_succ_cons, List.drop_nil, List.cons_append, List.nil_append, List.append_nil, List.length_cons, List.length_nil, Nat.zero_add, Nat.reduceAdd, if_true, if_false, Bool.false_eq_true, beq_self_eq_true, decide_eq_decide, Bool.true_eq_false, or_false, false_or, or_true, true_or, and_false, false_and, not_true_eq_false, not_false_eq_true, Bool.and_true, Bool.true_and, Bool.not_true, Bool.not_false] at *; omega)) ?_)
                     | (refine Exists.intro _ (Exists.intro _ (And.intro rfl ?_)))
                     | (refine Exists.intro _ (And.intro rfl ?_))
                     | (refine Exists.intro _ (Exists.intro _ (Exists.intro _ (Exists.intro _ (And.intro rfl ?_)))))
                     | (refine ld_step rfl (by assumption) rfl ?_)
                     | (refine lds_step rfl (by assumption) rfl ?_)
                     | (refine fL_mk ?_)
                     | (refine fH_mk ?_)
                     | (refine fN_mk ?_)
                     | (refine fLB_mk ?_)
                     | (refine And.intro (by first | assumption | exact GLB_app (by assumption) | exact GLB_app (GLB_app (by assumption))) ?_)
                     | (refine ld_step rfl ((rd_x0 _ _ _ _ _).trans rfl) rfl ?_)
                     | (refine ld_step rfl ((rd_x1 _ _ _ _ _ _).trans rfl) rfl ?_)
                     | (refine drec_yes (by omega) ?_)
                     | (refine drec_no (by omega) ?_)
                     | (intro _)
                     | fail)
            all_goals
              conv => whnf
              first
              | (refine ⟨⟨?_, ?_, rfl⟩, rfl⟩ <;> first | exact ⟨[], (List.append_nil _).symm⟩ | exact ⟨_, rfl⟩ | exact ⟨_, List.append_assoc _ _ _⟩ | exact ⟨[], (List.append_nil _).symm, Or.inr ⟨by simp, rfl⟩⟩ | exact ⟨_, rfl, Or.inl rfl⟩ | exact ⟨_, List.append_assoc _ _ _, Or.inl rfl⟩ | exact ⟨_, (List.append_assoc _ _ _).trans (List.append_assoc _ _ _), Or.inl rfl⟩)
              | (exfalso; omega)
          conv => whnf
          intro j
          conv => whnf
          intro j
          conv => whnf
          intro j
          conv => whnf
          intro j
          conv => whnf
          intro j
          conv => whnf
          intro j
          conv => whnf
          intro j
          conv => whnf
          intro j
          conv => whnf
          intro j
          conv => whnf
          intro j
          conv => whnf
          intro j
          conv => whnf
          intro j
          conv => whnf
          intro j
          conv => whnf
          intro j
          conv => whnf
          intro j
          conv => whnf
          intro j
          conv => whnf
          intro j
          conv => whnf
          intro j
          conv => whnf
          intro j
          conv => whnf
          intro j
          conv => whnf
          intro j
          conv => whnf
          intro j
          conv => whnf
          intro j
          conv => whnf
          intro j
          conv => whnf
          intro j
          conv => whnf
          intro j
          conv => whnf
          intro j
          conv => whnf
          intro j
          conv => whnf
          intro j
          conv => whnf
          intro j
          conv => whnf
          intro j
          conv => whnf
          intro j
          conv => whnf
          intro j
          conv => whnf
          intro j
          conv => whnf
          intro j
          conv => whnf
          intro j
          conv => whnf
          intro j
          conv => whnf
          intro j
          conv => whnf
          intro j
          conv => whnf
          intro j
          conv => whnf
          intro j
          conv => whnf
          intro j
          conv => whnf
          intro j
          conv => whnf
          intro j
          conv => whnf
          refine Halt.mk (fun M1 X1 g1 hg1 => ?_)
          all_goals show rC _ _ l4_2r2 _ _ _ _ _ _
          repeat' (conv => whnf
                   first
                   | (refine Stop.mk ?_)
                   | (refine fI_i64 (by omega) ?_; intro z hz)
                   | (refine fI_u32 (by omega) ?_; intro z hz)
                   | (refine fI_u8 (by omega) ?_; intro z hz)
                   | (refine fI_u64 (by omega) ?_; intro z hz)
                   | (refine fI_tdiv (by omega) ?_; intro z hz)
                   | (refine fI_tmod (by omega) ?_; intro z hz)
                   | (refine fI_gen ?_; intro z hz)
                   | (refine fO_gen ?_; intro z hz)
                   | (refine dec_true (by assumption) ?_)
                   | (refine dec_false (by assumption) ?_)
                   | (refine dec_split (fun h => ?_) (fun h => ?_))
                   | (apply silE)
                   | (exact And.intro rfl (And.intro rfl (And.intro rfl rfl)))
                   | (refine And.intro (by first | omega | ((simp only [decide_eq_true_eq, decide_eq_false_iff_not, Bool.and_eq_true, beq_iff_eq, Bool.not_eq_true', Bool.not_eq_false'] at *); omega) | (subst_vars; simp only [Int.ofNat_eq_natCast, tq_not, fq_not, tq_and, fq_and, tq_or, fq_or, tq_beq, fq_beq, tq_bne, fq_bne, tq_dec, fq_dec, one1, V.tup.injEq, V.agg.injEq, List.cons.injEq, V.int.injEq, V.bool.injEq, true_and, and_true, decide_eq_true_eq, decide_eq_false_iff_not, Bool.and_eq_true, Bool.and_eq_false_iff, Bool.or_eq_true, Bool.or_eq_false_iff, Bool.not_eq_true', Bool.not_eq_false', beq_iff_eq, wrap_u32, wrap_i64, wrap_u8, beq_eq_false_iff_ne, ne_eq, bne_iff_ne, bne_eq_false_iff_eq, eq_self, and_self, splice, V.cells, List.take_succ_cons, List.take_zero, List.take_nil, List.drop_zero, List.drop_succ_cons, List.drop_nil, List.cons_append, List.nil_append, List.append_nil, List.length_cons, List.length_nil, Nat.zero_add, Nat.reduceAdd, if_true, if_false, Bool.false_eq_true, beq_self_eq_true, decide_eq_decide, Bool.true_eq_false, or_false, false_or, or_true, true_or, and_false, false_and, not_true_eq_false, not_false_eq_true, Bool.and_true, Bool.true_and, Bool.not_true, Bool.not_false] at *; omega)) ?_)
                   | (refine Exists.intro _ (Exists.intro _ (And.intro rfl ?_)))
                   | (refine Exists.intro _ (And.intro rfl ?_))
                   | (refine Exists.intro _ (Exists.intro _ (Exists.intro _ (Exists.intro _ (And.intro rfl ?_)))))
                   | (refine ld_step rfl (by assumption) rfl ?_)
                   | (refine lds_step rfl (by assumption) rfl ?_)
                   | (refine fL_mk ?_)
                   | (refine fH_mk ?_)
                   | (refine fN_mk ?_)
                   | (refine fLB_mk ?_)
                   | (refine And.intro (by first | assumption | exact GLB_app (by assumption) | exact GLB_app (GLB_app (by assumption))) ?_)
                   | (refine ld_step rfl ((rd_x0 _ _ _ _ _).trans rfl) rfl ?_)
                   | (refine ld_step rfl ((rd_x1 _ _ _ _ _ _).trans rfl) rfl ?_)
                   | (refine drec_yes (by omega) ?_)
                   | (refine drec_no (by omega) ?_)
                   | (intro _)
                   | fail)
          conv => whnf
          subst hz
          refine kn2 hlt2 _ _ _ _ _ rfl ⟨⟨on, w, f, t, rr, rw, rk, lk, L2 ++ M1, hft, List.append_assoc _ _ _⟩, ⟨X ++ X1, List.append_assoc _ _ _, by simpa using grow2 hgx hg1⟩, rfl⟩
        · clear kn2
          repeat' (conv => whnf
                   first
                   | (refine Stop.mk ?_)
                   | (refine fI_i64 (by omega) ?_; intro z hz)
                   | (refine fI_u32 (by omega) ?_; intro z hz)
                   | (refine fI_u8 (by omega) ?_; intro z hz)
                   | (refine fI_u64 (by omega) ?_; intro z hz)
                   | (refine fI_tdiv (by omega) ?_; intro z hz)
                   | (refine fI_tmod (by omega) ?_; intro z hz)
                   | (refine fI_gen ?_; intro z hz)
                   | (refine fO_gen ?_; intro z hz)
                   | (refine kx2 _ _ _ _ _ _ ?_)
                   | (refine dec_true (by assumption) ?_)
                   | (refine dec_false (by assumption) ?_)
                   | (refine dec_split (fun h => ?_) (fun h => ?_))
                   | (apply silE)
                   | (exact And.intro rfl (And.intro rfl (And.intro rfl rfl)))
                   | (refine And.intro (by first | omega | ((simp only [decide_eq_true_eq, decide_eq_false_iff_not, Bool.and_eq_true, beq_iff_eq, Bool.not_eq_true', Bool.not_eq_false'] at *); omega) | (subst_vars; simp only [Int.ofNat_eq_natCast, tq_not, fq_not, tq_and, fq_and, tq_or, fq_or, tq_beq, fq_beq, tq_bne, fq_bne, tq_dec, fq_dec, one1, V.tup.injEq, V.agg.injEq, List.cons.injEq, V.int.injEq, V.bool.injEq, true_and, and_true, decide_eq_true_eq, decide_eq_false_iff_not, Bool.and_eq_true, Bool.and_eq_false_iff, Bool.or_eq_true, Bool.or_eq_false_iff, Bool.not_eq_true', Bool.not_eq_false', beq_iff_eq, wrap_u32, wrap_i64, wrap_u8, beq_eq_false_iff_ne, ne_eq, bne_iff_ne, bne_eq_false_iff_eq, eq_self, and_self, splice, V.cells, List.take_succ_cons, List.take_zero, List.take_nil, List.drop_zero, List.drop_succ_cons, List.drop_nil, List.cons_append, List.nil_append, List.append_nil, List.length_cons, List.length_nil, Nat.zero_add, Nat.reduceAdd, if_true, if_false, Bool.false_eq_true, beq_self_eq_true, decide_eq_decide, Bool.true_eq_false, or_false, false_or, or_true, true_or, and_false, false_and, not_true_eq_false, not_false_eq_true, Bool.and_true, Bool.true_and, Bool.not_true, Bool.not_false] at *; omega)) ?_)
                   | (refine Exists.intro _ (Exists.intro _ (And.intro rfl ?_)))
                   | (refine Exists.intro _ (And.intro rfl ?_))
                   | (refine Exists.intro _ (Exists.intro _ (Exists.intro _ (Exists.intro _ (And.intro rfl ?_)))))
                   | (refine ld_step rfl (by assumption) rfl ?_)
                   | (refine lds_step rfl (by assumption) rfl ?_)
                   | (refine fL_mk ?_)
                   | (refine fH_mk ?_)
                   | (refine fN_mk ?_)
                   | (refine fLB_mk ?_)
                   | (refine And.intro (by first | assumption | exact GLB_app (by assumption) | exact GLB_app (GLB_app (by assumption))) ?_)
                   | (refine ld_step rfl ((rd_x0 _ _ _ _ _).trans rfl) rfl ?_)
                   | (refine ld_step rfl ((rd_x1 _ _ _ _ _ _).trans rfl) rfl ?_)
                   | (refine drec_yes (by omega) ?_)
                   | (refine drec_no (by omega) ?_)
                   | (intro _)
                   | fail)
          conv => whnf
          subst hz
          exact kn1 hlt1 _ _ _ _ _ rfl ⟨⟨X, rfl, by simpa using hgx⟩, rfl⟩
      · clear kn1
        repeat' (conv => whnf
                 first
                 | (refine Stop.mk ?_)
                 | (refine fI_i64 (by omega) ?_; intro z hz)
                 | (refine fI_u32 (by omega) ?_; intro z hz)
                 | (refine fI_u8 (by omega) ?_; intro z hz)
                 | (refine fI_u64 (by omega) ?_; intro z hz)
                 | (refine fI_tdiv (by omega) ?_; intro z hz)
                 | (refine fI_tmod (by omega) ?_; intro z hz)
                 | (refine fI_gen ?_; intro z hz)
                 | (refine fO_gen ?_; intro z hz)
                 | (refine kx1 _ _ _ _ _ _ ?_)
                 | (refine dec_true (by assumption) ?_)
                 | (refine dec_false (by assumption) ?_)
                 | (refine dec_split (fun h => ?_) (fun h => ?_))
                 | (apply silE)
                 | (exact And.intro rfl (And.intro rfl (And.intro rfl rfl)))
                 | (refine And.intro (by first | omega | ((simp only [decide_eq_true_eq, decide_eq_false_iff_not, Bool.and_eq_true, beq_iff_eq, Bool.not_eq_true', Bool.not_eq_false'] at *); omega) | (subst_vars; simp only [Int.ofNat_eq_natCast, tq_not, fq_not, tq_and, fq_and, tq_or, fq_or, tq_beq, fq_beq, tq_bne, fq_bne, tq_dec, fq_dec, one1, V.tup.injEq, V.agg.injEq, List.cons.injEq, V.int.injEq, V.bool.injEq, true_and, and_true, decide_eq_true_eq, decide_eq_false_iff_not, Bool.and_eq_true, Bool.and_eq_false_iff, Bool.or_eq_true, Bool.or_eq_false_iff, Bool.not_eq_true', Bool.not_eq_false', beq_iff_eq, wrap_u32, wrap_i64, wrap_u8, beq_eq_false_iff_ne, ne_eq, bne_iff_ne, bne_eq_false_iff_eq, eq_self, and_self, splice, V.cells, List.take_succ_cons, List.take_zero, List.take_nil, List.drop_zero, List.drop_succ_cons, List.drop_nil, List.cons_append, List.nil_append, List.append_nil, List.length_cons, List.length_nil, Nat.zero_add, Nat.reduceAdd, if_true, if_false, Bool.false_eq_true, beq_self_eq_true, decide_eq_decide, Bool.true_eq_false, or_false, false_or, or_true, true_or, and_false, false_and, not_true_eq_false, not_false_eq_true, Bool.and_true, Bool.true_and, Bool.not_true, Bool.not_false] at *; omega)) ?_)
                 | (refine Exists.intro _ (Exists.intro _ (And.intro rfl ?_)))
                 | (refine Exists.intro _ (And.intro rfl ?_))
                 | (refine Exists.intro _ (Exists.intro _ (Exists.intro _ (Exists.intro _ (And.intro rfl ?_)))))
                 | (refine ld_step rfl (by assumption) rfl ?_)
                 | (refine lds_step rfl (by assumption) rfl ?_)
                 | (refine fL_mk ?_)
                 | (refine fH_mk ?_)
                 | (refine fN_mk ?_)
                 | (refine fLB_mk ?_)
                 | (refine And.intro (by first | assumption | exact GLB_app (by assumption) | exact GLB_app (GLB_app (by assumption))) ?_)
                 | (refine ld_step rfl ((rd_x0 _ _ _ _ _).trans rfl) rfl ?_)
                 | (refine ld_step rfl ((rd_x1 _ _ _ _ _ _).trans rfl) rfl ?_)
                 | (refine drec_yes (by omega) ?_)
                 | (refine drec_no (by omega) ?_)
                 | (intro _)
                 | fail)
        conv => whnf
        subst hz
        exact kn hlt _ _ _ _ _ rfl ⟨⟨X, rfl, by simpa using hgx⟩, rfl⟩
    · clear kn
      repeat' (conv => whnf
               first
               | (refine Stop.mk ?_)
               | (refine fI_i64 (by omega) ?_; intro z hz)
               | (refine fI_u32 (by omega) ?_; intro z hz)
               | (refine fI_u8 (by omega) ?_; intro z hz)
               | (refine fI_u64 (by omega) ?_; intro z hz)
               | (refine fI_tdiv (by omega) ?_; intro z hz)
               | (refine fI_tmod (by omega) ?_; intro z hz)
               | (refine fI_gen ?_; intro z hz)
               | (refine fO_gen ?_; intro z hz)
               | (refine kx _ _ _ _ _ _ ?_)
               | (refine mem_step (stl0_eq rfl rfl rfl rfl (by decide)) ?_)
               | (refine lds_mem (ldl_eq rfl (lget0 _ _) rfl rfl) ?_)
               | (refine dec_true (by assumption) ?_)
               | (refine dec_false (by assumption) ?_)
               | (refine dec_split (fun h => ?_) (fun h => ?_))
               | (apply silE)
               | (exact And.intro rfl (And.intro rfl (And.intro rfl rfl)))
               | (refine And.intro (by first | omega | ((simp only [decide_eq_true_eq, decide_eq_false_iff_not, Bool.and_eq_true, beq_iff_eq, Bool.not_eq_true', Bool.not_eq_false'] at *); omega) | (subst_vars; simp only [Int.ofNat_eq_natCast, tq_not, fq_not, tq_and, fq_and, tq_or, fq_or, tq_beq, fq_beq, tq_bne, fq_bne, tq_dec, fq_dec, one1, V.tup.injEq, V.agg.injEq, List.cons.injEq, V.int.injEq, V.bool.injEq, true_and, and_true, decide_eq_true_eq, decide_eq_false_iff_not, Bool.and_eq_true, Bool.and_eq_false_iff, Bool.or_eq_true, Bool.or_eq_false_iff, Bool.not_eq_true', Bool.not_eq_false', beq_iff_eq, wrap_u32, wrap_i64, wrap_u8, beq_eq_false_iff_ne, ne_eq, bne_iff_ne, bne_eq_false_iff_eq, eq_self, and_self, splice, V.cells, List.take_succ_cons, List.take_zero, List.take_nil, List.drop_zero, List.drop_succ_cons, List.drop_nil, List.cons_append, List.nil_append, List.append_nil, List.length_cons, List.length_nil, Nat.zero_add, Nat.reduceAdd, if_true, if_false, Bool.false_eq_true, beq_self_eq_true, decide_eq_decide, Bool.true_eq_false, or_false, false_or, or_true, true_or, and_false, false_and, not_true_eq_false, not_false_eq_true, Bool.and_true, Bool.true_and, Bool.not_true, Bool.not_false] at *; omega)) ?_)
               | (refine Exists.intro _ (Exists.intro _ (And.intro rfl ?_)))
               | (refine Exists.intro _ (And.intro rfl ?_))
               | (refine Exists.intro _ (Exists.intro _ (Exists.intro _ (Exists.intro _ (And.intro rfl ?_)))))
               | (refine ld_step rfl (by assumption) rfl ?_)
               | (refine lds_step rfl (by assumption) rfl ?_)
               | (refine fL_mk ?_)
               | (refine fH_mk ?_)
               | (refine fN_mk ?_)
               | (refine fLB_mk ?_)
               | (refine And.intro (by first | assumption | exact GLB_app (by assumption) | exact GLB_app (GLB_app (by assumption))) ?_)
               | (refine ld_step rfl ((rd_x0 _ _ _ _ _).trans rfl) rfl ?_)
               | (refine ld_step rfl ((rd_x1 _ _ _ _ _ _).trans rfl) rfl ?_)
               | (refine drec_yes (by omega) ?_)
               | (refine drec_no (by omega) ?_)
               | (intro _)
               | fail)
      conv => whnf
      have hgx' : (g || false) = true ∨ X = [] := by simpa using hgx
      exact fin_grow hgx' rfl hq
  · exact hs.elim
end Go.Ev
