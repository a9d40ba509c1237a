/- dev: windows: the chapter's example, one device -/
import Derived.Test.YtjigfpogfppidaaDoorKrefd
set_option linter.all false
namespace Go.Ev
open Go Go.Proofs
set_option maxRecDepth 4000
set_option maxHeartbeats 4000000
def exD : List D5 := [⟨1, 16, 8, -1, -1⟩, ⟨2, 24, 32, 0, 3⟩]
def s22 : Sp := fun vs H Q => match vs with
  | [] => Q (.sl (some (H.length, 0)) 2 2) (H ++ [.rw 26 (exD.flatMap encD)]) false true
  | _ => False
theorem k22 : Snd Tryd.prog 1 22 s22 := by
  refine snd_of_ev (by kernel_rfl) (C := tab []) (sndC_nil) x22 n22 c22 30 ?_
  intro vs H Q hs
  unfold s22 at hs
  split at hs
  · have hq := hs
    clear hs
    repeat' (conv => whnf
             first
             | (refine Stop.mk ?_)
             | (refine fI_gen ?_; intro z hz)
             | (refine fO_gen ?_; intro z hz)
             | (refine dec_true (by assumption) ?_)
             | (refine dec_false (by assumption) ?_)
             | (refine dec_split (fun h => ?_) (fun h => ?_))
             | (apply silE)
             | (refine Both.mk ?_ ?_)
             | (refine And.intro rfl ?_)
             | (exact And.intro rfl (And.intro rfl (And.intro rfl rfl)))
             | (refine And.intro (by first | omega | ((simp only [decide_eq_true_eq, decide_eq_false_iff_not, Bool.and_eq_true, beq_iff_eq, Bool.not_eq_true', Bool.not_eq_false'] at *); omega) | (subst_vars; simp only [Int.ofNat_eq_natCast, tq_not, fq_not, tq_and, fq_and, tq_or, fq_or, tq_beq, fq_beq, tq_bne, fq_bne, tq_dec, fq_dec, one1, V.tup.injEq, V.agg.injEq, List.cons.injEq, V.int.injEq, V.bool.injEq, true_and, and_true, decide_eq_true_eq, decide_eq_false_iff_not, Bool.and_eq_true, Bool.and_eq_false_iff, Bool.or_eq_true, Bool.or_eq_false_iff, Bool.not_eq_true', Bool.not_eq_false', beq_iff_eq, wrap_u32, wrap_i64, wrap_u8, beq_eq_false_iff_ne, ne_eq, bne_iff_ne, bne_eq_false_iff_eq, eq_self, and_self, splice, V.cells, List.take_succ_cons, List.take_zero, List.take_nil, List.drop_zero, List.drop_succ_cons, List.drop_nil, List.cons_append, List.nil_append, List.append_nil, List.length_cons, List.length_nil, Nat.zero_add, Nat.reduceAdd, if_true, if_false, Bool.false_eq_true, beq_self_eq_true, decide_eq_decide, Bool.true_eq_false, or_false, false_or, or_true, true_or, and_false, false_and, not_true_eq_false, not_false_eq_true, Bool.and_true, Bool.true_and, Bool.not_true, Bool.not_false] at *; omega)) ?_)
             | (refine Exists.intro _ (Exists.intro _ (And.intro rfl ?_)))
             | (refine Exists.intro _ (And.intro rfl ?_))
             | (refine Exists.intro _ (Exists.intro _ (Exists.intro _ (Exists.intro _ (And.intro rfl ?_)))))
             | (refine ld_step rfl (by assumption) rfl ?_)
             | (refine lds_step rfl (by assumption) rfl ?_)
             | (refine fL_mk ?_)
             | (refine fH_mk ?_)
             | (refine fN_mk ?_)
             | (refine fLB_mk ?_)
             | (refine And.intro (by repeat (first | assumption | refine GLB_app ?_)) ?_)
             | (refine ld_step rfl ((rd_x0 _ _ _ _ _).trans rfl) rfl ?_)
             | (refine ld_step rfl ((rd_x1 _ _ _ _ _ _).trans rfl) rfl ?_)
             | (refine ld_step rfl ((rd_x2 _ _ _ _ _ _ _).trans rfl) rfl ?_)
             | (refine lds_step rfl ((rd_x0 _ _ _ _ _).trans rfl) rfl ?_)
             | (refine lds_step rfl ((rd_x1 _ _ _ _ _ _).trans rfl) rfl ?_)
             | (refine lds_step rfl ((rd_x2 _ _ _ _ _ _ _).trans rfl) rfl ?_)
             | (refine mem_step (st_eq rfl rfl rfl rfl (wr_last _ _ _ _ rfl)) ?_)
             | (refine drec_yes (by omega) ?_)
             | (refine drec_no (by omega) ?_)
             | (intro _)
             | fail)
    all_goals (conv => whnf)
    all_goals
      refine drec_no (by simp [one1, V.lt]) ?_
      exact hq
  · exact hs.elim
theorem exD_ok : ∀ d, d ∈ exD → okD d := by
  intro d hd
  simp only [exD, List.mem_cons, List.not_mem_nil, or_false] at hd
  rcases hd with rfl | rfl <;> (unfold okD; decide)
theorem exD_right : rightL exD := by
  refine ⟨?_, by decide, ?_⟩
  · intro d hd
    simp only [exD, List.mem_cons, List.not_mem_nil, or_false] at hd
    rcases hd with rfl | rfl <;> decide
  · intro i hi h
    have : i = 0 ∨ i = 1 := by have : exD.length = 2 := rfl; omega
    rcases this with rfl | rfl
    · exact ⟨by show (16 : Int) ≤ 16 + 8 - 1; decide, fun j h => absurd h (Nat.not_lt_zero _)⟩
    · refine ⟨by show (24 : Int) ≤ 24 + 32 - 1; decide, fun j h => ?_⟩
      obtain rfl : j = 0 := by omega
      show meetB (16, 16 + 8 - 1) (24, 24 + 32 - 1) = false
      decide
theorem ex1 {i o : Int} {x : Bool} (hx : x = true ↔ accP 0 false 20 4 0 ∧ rightL exD ∧ 0 ≤ fstI (inP (20, 20 + 4 - 1)) (exD.map dR)) (hi : i = (if x then fstI (inP (20, 20 + 4 - 1)) (exD.map dR) else 0)) (ho : o = (if x then 20 - bAt exD i else 0)) : x = true ∧ i = 0 ∧ o = 4 := by
  obtain rfl : x = true := hx.2 ⟨by decide, exD_right, by decide⟩
  obtain rfl : i = 0 := hi.trans (by decide)
  exact ⟨rfl, rfl, ho.trans (by decide)⟩
theorem ex2 {i o : Int} {x : Bool} (hx : x = true ↔ accP 0 false 24 4 0 ∧ rightL exD ∧ 0 ≤ fstI (inP (24, 24 + 4 - 1)) (exD.map dR)) (hi : i = (if x then fstI (inP (24, 24 + 4 - 1)) (exD.map dR) else 0)) (ho : o = (if x then 24 - bAt exD i else 0)) : x = true ∧ i = 1 ∧ o = 0 := by
  obtain rfl : x = true := hx.2 ⟨by decide, exD_right, by decide⟩
  obtain rfl : i = 1 := hi.trans (by decide)
  exact ⟨rfl, rfl, ho.trans (by decide)⟩
theorem ex3 {i o : Int} {x : Bool} (hx : x = true ↔ accP 0 false 56 4 0 ∧ rightL exD ∧ 0 ≤ fstI (inP (56, 56 + 4 - 1)) (exD.map dR)) (hi : i = (if x then fstI (inP (56, 56 + 4 - 1)) (exD.map dR) else 0)) (ho : o = (if x then 56 - bAt exD i else 0)) : x = false ∧ i = 0 ∧ o = 0 := by
  cases x with
  | true => exact absurd (hx.1 rfl).2.2 (by decide)
  | false => exact ⟨rfl, hi, ho⟩
theorem exN : ¬ devP 1 18 8 0 0 := by decide
def s7 : Sp := fun vs H Q => match vs with
  | [] => GLB H ∧ Q (.bool true) H false false
  | _ => False
theorem m7 : Mono s7 := by
  intro vs H Q Q' hQ h
  unfold s7 at h ⊢
  split at h
  all_goals first
    | exact h.elim
    | (repeat' (first | exact hQ _ _ _ _ h | refine And.imp_right (fun h => ?_) h | refine Exists.imp (fun _ h => ?_) h | (intro z; replace h := h z)))
theorem k7 : Snd Tryd.prog 1 7 s7 := by
  refine snd_of_ev (by kernel_rfl) (C := tab [(14, s14), (22, s22), (23, s23)]) (sndC_cons k14 (sndC_cons k22 (sndC_cons k23 (sndC_nil)))) x7 n7 c7 30 ?_
  intro vs H Q hs
  unfold s7 at hs
  split at hs
  · obtain ⟨hg, hq⟩ := hs
    repeat' (conv => whnf
             first
             | (refine Stop.mk ?_)
             | (refine fO_is (decide_eq_false exN) ?_)
             | (refine fI_gen ?_; intro z hz)
             | (refine fO_gen ?_; intro z hz)
             | (refine And.intro (by decide) (And.intro (by repeat (first | assumption | refine GLB_app ?_)) (Exists.intro exD (And.intro rfl (And.intro (by decide) (And.intro exD_ok (And.intro ((rd_x0 _ _ _ _ _).trans rfl) ?_)))))); intro i1 o1 x1 hx hi ho; obtain ⟨rfl, rfl, rfl⟩ := ex1 hx hi ho)
             | (refine And.intro (by decide) (And.intro (by repeat (first | assumption | refine GLB_app ?_)) (Exists.intro exD (And.intro rfl (And.intro (by decide) (And.intro exD_ok (And.intro ((rd_x0 _ _ _ _ _).trans rfl) ?_)))))); intro i1 o1 x1 hx hi ho; obtain ⟨rfl, rfl, rfl⟩ := ex2 hx hi ho)
             | (refine And.intro (by decide) (And.intro (by repeat (first | assumption | refine GLB_app ?_)) (Exists.intro exD (And.intro rfl (And.intro (by decide) (And.intro exD_ok (And.intro ((rd_x0 _ _ _ _ _).trans rfl) ?_)))))); intro i1 o1 x1 hx hi ho; obtain ⟨rfl, rfl, rfl⟩ := ex3 hx hi ho)
             | (refine And.intro (by decide) ?_)
             | (refine dec_true (by assumption) ?_)
             | (refine dec_false (by assumption) ?_)
             | (refine dec_split (fun h => ?_) (fun h => ?_))
             | (apply silE)
             | (refine Both.mk ?_ ?_)
             | (refine And.intro rfl ?_)
             | (exact And.intro rfl (And.intro rfl (And.intro rfl rfl)))
             | (refine And.intro (by first | omega | ((simp only [decide_eq_true_eq, decide_eq_false_iff_not, Bool.and_eq_true, beq_iff_eq, Bool.not_eq_true', Bool.not_eq_false'] at *); omega) | (subst_vars; simp only [Int.ofNat_eq_natCast, tq_not, fq_not, tq_and, fq_and, tq_or, fq_or, tq_beq, fq_beq, tq_bne, fq_bne, tq_dec, fq_dec, one1, V.tup.injEq, V.agg.injEq, List.cons.injEq, V.int.injEq, V.bool.injEq, true_and, and_true, decide_eq_true_eq, decide_eq_false_iff_not, Bool.and_eq_true, Bool.and_eq_false_iff, Bool.or_eq_true, Bool.or_eq_false_iff, Bool.not_eq_true', Bool.not_eq_false', beq_iff_eq, wrap_u32, wrap_i64, wrap_u8, beq_eq_false_iff_ne, ne_eq, bne_iff_ne, bne_eq_false_iff_eq, eq_self, and_self, splice, V.cells, List.take_succ_cons, List.take_zero, List.take_nil, List.drop_zero, List.drop_succ_cons, List.drop_nil, List.cons_append, List.nil_append, List.append_nil, List.length_cons, List.length_nil, Nat.zero_add, Nat.reduceAdd, if_true, if_false, Bool.false_eq_true, beq_self_eq_true, decide_eq_decide, Bool.true_eq_false, or_false, false_or, or_true, true_or, and_false, false_and, not_true_eq_false, not_false_eq_true, Bool.and_true, Bool.true_and, Bool.not_true, Bool.not_false] at *; omega)) ?_)
             | (refine Exists.intro _ (Exists.intro _ (And.intro rfl ?_)))
             | (refine Exists.intro _ (And.intro rfl ?_))
             | (refine Exists.intro _ (Exists.intro _ (Exists.intro _ (Exists.intro _ (And.intro rfl ?_)))))
             | (refine ld_step rfl (by assumption) rfl ?_)
             | (refine lds_step rfl (by assumption) rfl ?_)
             | (refine fL_mk ?_)
             | (refine fH_mk ?_)
             | (refine fN_mk ?_)
             | (refine fLB_mk ?_)
             | (refine And.intro (by repeat (first | assumption | refine GLB_app ?_)) ?_)
             | (refine ld_step rfl ((rd_x0 _ _ _ _ _).trans rfl) rfl ?_)
             | (refine ld_step rfl ((rd_x1 _ _ _ _ _ _).trans rfl) rfl ?_)
             | (refine ld_step rfl ((rd_x2 _ _ _ _ _ _ _).trans rfl) rfl ?_)
             | (refine lds_step rfl ((rd_x0 _ _ _ _ _).trans rfl) rfl ?_)
             | (refine lds_step rfl ((rd_x1 _ _ _ _ _ _).trans rfl) rfl ?_)
             | (refine lds_step rfl ((rd_x2 _ _ _ _ _ _ _).trans rfl) rfl ?_)
             | (refine mem_step (st_eq rfl rfl rfl rfl (wr_last _ _ _ _ rfl)) ?_)
             | (refine drec_yes (by omega) ?_)
             | (refine drec_no (by omega) ?_)
             | (intro _)
             | fail)
    all_goals (conv => whnf)
    all_goals exact leafH hq rfl (take_app3 H _ _ _)
  · exact hs.elim
def s9 : Sp := fun vs H Q => match vs with
  | [.agg [.int .i64 k, .int .u32 b, .int .i64 n, .int .i64 ow, .int .i64 li]] => ((0 ≤ b ∧ b < 4294967296) ∧ (-9223372036854775808 ≤ n ∧ n < 9223372036854775808)) ∧ Q (.bool true) H false false
  | _ => False
theorem k9 : Snd Tryd.prog 1 9 s9 := by
  refine snd_of_ev (by kernel_rfl) (C := tab [(16, s16), (23, s23), (25, s25), (26, s26)]) (sndC_cons k16 (sndC_cons k23 (sndC_cons k25 (sndC_cons k26 (sndC_nil))))) x9 n9 c9 30 ?_
  intro vs H Q hs
  unfold s9 at hs
  split at hs
  · rename_i k b n ow li
    obtain ⟨hp, hs⟩ := hs
    have hq := hs; clear hs
    repeat' (conv => whnf
             first
             | (refine Stop.mk ?_)
             | (refine fI_gen ?_; intro z hz)
             | (refine fO_gen ?_; intro z hz)
             | (refine And.intro hp ?_)
             | (refine dec_true (by assumption) ?_)
             | (refine dec_false (by assumption) ?_)
             | ((with_reducible refine dec_trueH ?tst ?_); (case tst => (first | rfl | ((try clear hC); (try clear kn); (try clear kx); (try clear kr); (try clear kn1); (try clear kx1); (try clear kr1); (try clear kn2); (try clear kx2); (try clear kr2); (try clear kn3); (try clear kx3); (try clear kr3); subst_vars; simp only [Int.ofNat_eq_natCast, tq_not, fq_not, tq_and, fq_and, tq_or, fq_or, tq_beq, fq_beq, tq_bne, fq_bne, tq_dec, fq_dec, one1, V.tup.injEq, V.agg.injEq, List.cons.injEq, V.int.injEq, V.bool.injEq, true_and, and_true, decide_eq_true_eq, decide_eq_false_iff_not, Bool.and_eq_true, Bool.and_eq_false_iff, Bool.or_eq_true, Bool.or_eq_false_iff, Bool.not_eq_true', Bool.not_eq_false', beq_iff_eq, wrap_u32, wrap_i64, wrap_u8, beq_eq_false_iff_ne, ne_eq, bne_iff_ne, bne_eq_false_iff_eq, eq_self, and_self, splice, V.cells, List.take_succ_cons, List.take_zero, List.take_nil, List.drop_zero, List.drop_succ_cons, List.drop_nil, List.cons_append, List.nil_append, List.append_nil, List.length_cons, List.length_nil, Nat.zero_add, Nat.reduceAdd, if_true, if_false, Bool.false_eq_true, beq_self_eq_true, decide_eq_decide, Bool.true_eq_false, or_false, false_or, or_true, true_or, and_false, false_and, not_true_eq_false, not_false_eq_true, Bool.and_true, Bool.true_and, Bool.not_true, Bool.not_false] at *; first | done | assumption | omega))); intro h)
             | ((with_reducible refine dec_falseH ?tst ?_); (case tst => (first | rfl | ((try clear hC); (try clear kn); (try clear kx); (try clear kr); (try clear kn1); (try clear kx1); (try clear kr1); (try clear kn2); (try clear kx2); (try clear kr2); (try clear kn3); (try clear kx3); (try clear kr3); subst_vars; simp only [Int.ofNat_eq_natCast, tq_not, fq_not, tq_and, fq_and, tq_or, fq_or, tq_beq, fq_beq, tq_bne, fq_bne, tq_dec, fq_dec, one1, V.tup.injEq, V.agg.injEq, List.cons.injEq, V.int.injEq, V.bool.injEq, true_and, and_true, decide_eq_true_eq, decide_eq_false_iff_not, Bool.and_eq_true, Bool.and_eq_false_iff, Bool.or_eq_true, Bool.or_eq_false_iff, Bool.not_eq_true', Bool.not_eq_false', beq_iff_eq, wrap_u32, wrap_i64, wrap_u8, beq_eq_false_iff_ne, ne_eq, bne_iff_ne, bne_eq_false_iff_eq, eq_self, and_self, splice, V.cells, List.take_succ_cons, List.take_zero, List.take_nil, List.drop_zero, List.drop_succ_cons, List.drop_nil, List.cons_append, List.nil_append, List.append_nil, List.length_cons, List.length_nil, Nat.zero_add, Nat.reduceAdd, if_true, if_false, Bool.false_eq_true, beq_self_eq_true, decide_eq_decide, Bool.true_eq_false, or_false, false_or, or_true, true_or, and_false, false_and, not_true_eq_false, not_false_eq_true, Bool.and_true, Bool.true_and, Bool.not_true, Bool.not_false] at *; first | done | assumption | omega))); intro h)
             | (refine dec_split (fun h => ?_) (fun h => ?_))
             | (apply silE)
             | (refine Both.mk ?_ ?_)
             | (refine And.intro rfl ?_)
             | (exact And.intro rfl (And.intro rfl (And.intro rfl rfl)))
             | (refine And.intro (by first | omega | ((simp only [decide_eq_true_eq, decide_eq_false_iff_not, Bool.and_eq_true, beq_iff_eq, Bool.not_eq_true', Bool.not_eq_false'] at *); omega) | (subst_vars; simp only [Int.ofNat_eq_natCast, tq_not, fq_not, tq_and, fq_and, tq_or, fq_or, tq_beq, fq_beq, tq_bne, fq_bne, tq_dec, fq_dec, one1, V.tup.injEq, V.agg.injEq, List.cons.injEq, V.int.injEq, V.bool.injEq, true_and, and_true, decide_eq_true_eq, decide_eq_false_iff_not, Bool.and_eq_true, Bool.and_eq_false_iff, Bool.or_eq_true, Bool.or_eq_false_iff, Bool.not_eq_true', Bool.not_eq_false', beq_iff_eq, wrap_u32, wrap_i64, wrap_u8, beq_eq_false_iff_ne, ne_eq, bne_iff_ne, bne_eq_false_iff_eq, eq_self, and_self, splice, V.cells, List.take_succ_cons, List.take_zero, List.take_nil, List.drop_zero, List.drop_succ_cons, List.drop_nil, List.cons_append, List.nil_append, List.append_nil, List.length_cons, List.length_nil, Nat.zero_add, Nat.reduceAdd, if_true, if_false, Bool.false_eq_true, beq_self_eq_true, decide_eq_decide, Bool.true_eq_false, or_false, false_or, or_true, true_or, and_false, false_and, not_true_eq_false, not_false_eq_true, Bool.and_true, Bool.true_and, Bool.not_true, Bool.not_false] at *; omega)) ?_)
             | (refine Exists.intro _ (Exists.intro _ (And.intro rfl ?_)))
             | (refine Exists.intro _ (And.intro rfl ?_))
             | (refine Exists.intro _ (Exists.intro _ (Exists.intro _ (Exists.intro _ (And.intro rfl ?_)))))
             | (refine ld_step rfl (by assumption) rfl ?_)
             | (refine lds_step rfl (by assumption) rfl ?_)
             | (refine fL_mk ?_)
             | (refine fH_mk ?_)
             | (refine fN_mk ?_)
             | (refine fLB_mk ?_)
             | (refine And.intro (by repeat (first | assumption | refine GLB_app ?_)) ?_)
             | (refine ld_step rfl ((rd_x0 _ _ _ _ _).trans rfl) rfl ?_)
             | (refine ld_step rfl ((rd_x1 _ _ _ _ _ _).trans rfl) rfl ?_)
             | (refine ld_step rfl ((rd_x2 _ _ _ _ _ _ _).trans rfl) rfl ?_)
             | (refine lds_step rfl ((rd_x0 _ _ _ _ _).trans rfl) rfl ?_)
             | (refine lds_step rfl ((rd_x1 _ _ _ _ _ _).trans rfl) rfl ?_)
             | (refine lds_step rfl ((rd_x2 _ _ _ _ _ _ _).trans rfl) rfl ?_)
             | (refine mem_step (st_eq rfl rfl rfl rfl (wr_last _ _ _ _ rfl)) ?_)
             | (refine drec_yes (by omega) ?_)
             | (refine drec_no (by omega) ?_)
             | (intro _)
             | fail)
    all_goals (conv => whnf)
    all_goals
      refine leafE hq ?_
      subst_vars
      simp [one1]
  · exact hs.elim
end Go.Ev
