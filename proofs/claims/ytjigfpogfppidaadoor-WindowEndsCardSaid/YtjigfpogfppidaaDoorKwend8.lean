/- dev: WindowEnds -/
import Derived.Test.YtjigfpogfppidaaDoorKasks8
set_option linter.all false
namespace Go.Ev
open Go Go.Proofs
set_option maxRecDepth 4000
set_option maxHeartbeats 4000000
theorem u32_bd (a : Int) : 0 ≤ IntKind.u32.wrap a ∧ IntKind.u32.wrap a < 4294967296 := by rw [wrap_u32]; omega
theorem fI_u32b {f : Nat} {a : Int} {K : Int → Prop} (k : ∀ z, (0 ≤ z ∧ z < 4294967296) → K z) : fI f (IntKind.u32.wrap a) K := (fI_eq f _ K).mpr (k _ (u32_bd a))
def basE : List V := [V.int .u32 0, V.int .u32 1, V.int .u32 2, V.int .u32 4, V.int .u32 4294967292, V.int .u32 4294967264, V.int .u32 4294967268, V.int .u32 4294967295, V.int .u32 2147483648]
theorem basE_bd (v : V) (h : v ∈ basE) : ∃ s : Int, v = .int .u32 s ∧ (0 ≤ s ∧ s < 4294967296) := by
  simp only [basE, List.mem_cons, List.not_mem_nil, or_false] at h
  rcases h with rfl | rfl | rfl | rfl | rfl | rfl | rfl | rfl | rfl
  all_goals exact ⟨_, rfl, by decide, by decide⟩
def sizE : List V := [V.int .i64 (-9223372036854775808), V.int .i64 (-4), V.int .i64 0, V.int .i64 4, V.int .i64 5, V.int .i64 8, V.int .i64 28, V.int .i64 31, V.int .i64 32, V.int .i64 33, V.int .i64 36, V.int .i64 4096, V.int .i64 4100, V.int .i64 9223372036854775807]
theorem sizE_bd (v : V) (h : v ∈ sizE) : ∃ s : Int, v = .int .i64 s ∧ (-9223372036854775808 ≤ s ∧ s < 9223372036854775808) := by
  simp only [sizE, List.mem_cons, List.not_mem_nil, or_false] at h
  rcases h with rfl | rfl | rfl | rfl | rfl | rfl | rfl | rfl | rfl | rfl | rfl | rfl | rfl | rfl
  all_goals exact ⟨_, rfl, by decide, by decide⟩
theorem lit3 (v : V) (h : v ∈ [V.int .i64 1, V.int .i64 2, V.int .i64 4]) : ∃ s : Int, v = .int .i64 s ∧ 0 ≤ s ∧ s < 9 := by
  simp only [List.mem_cons, List.not_mem_nil, or_false] at h
  rcases h with rfl | rfl | rfl
  all_goals exact ⟨_, rfl, by decide, by decide⟩
theorem ok_addD {ds : List D5} {d : D5} (h : ∀ d, d ∈ ds → okD d) (h1 : okD d) : ∀ x, x ∈ ds ++ [d] → okD x := by
  intro x hx
  rcases List.mem_append.1 hx with hx | hx
  · exact h x hx
  · rw [List.mem_singleton.1 hx]; exact h1
theorem own_rowD {N : Nat} {H : List B} {v : V} {ds : List D5} (h : Own N H 26 5 v (ds.flatMap encD)) : ∃ p c, v = .sl p ds.length c ∧ ds.length ≤ c ∧ RdD H p ds := by
  obtain ⟨n, cap, h1, h2, h3⟩ := h
  rw [flat_len encD_len] at h1
  have hn : n = ds.length := by omega
  subst hn
  rcases h3 with ⟨rfl, h0⟩ | ⟨b, zs, rfl, h4, h5, h6, h7⟩
  · exact ⟨none, 0, by rw [h0], by omega, List.eq_nil_of_length_eq_zero h0⟩
  · exact ⟨_, _, rfl, h5, rd_block h7 (flat_len encD_len _)⟩
def s12 : Sp := fun vs H Q => match vs with
  | [.int .i64 n, .int .i64 v] => (0 ≤ n ∧ n < 60 ∧ 0 ≤ v ∧ v < 28) ∧ ∀ k b m ow li : Int, ((0 ≤ b ∧ b < 4294967296) ∧ (-9223372036854775808 ≤ m ∧ m < 9223372036854775808) ∧ (-9223372036854775808 ≤ k ∧ k < 9223372036854775808) ∧ (-9223372036854775808 ≤ ow ∧ ow < 9223372036854775808) ∧ (-9223372036854775808 ≤ li ∧ li < 9223372036854775808)) → Q (.agg [.int .i64 k, .int .u32 b, .int .i64 m, .int .i64 ow, .int .i64 li]) H false false
  | _ => False
theorem m12 : Mono s12 := by
  intro vs H Q Q' hQ h
  unfold s12 at h ⊢
  split at h
  · exact ⟨h.1, fun k b m ow li hb => hQ _ _ _ _ (h.2 k b m ow li hb)⟩
  · exact h.elim
theorem k12 : Snd Tryd.prog 1 12 s12 := by
  refine snd_of_ev (by kernel_rfl) (C := tab []) (sndC_nil) x12 n12 c12 60 ?_
  intro vs H Q hs
  unfold s12 at hs
  split at hs
  · rename_i n v
    obtain ⟨⟨n0, n1, v0, v1⟩, hq⟩ := hs
    repeat' (conv => whnf
             first
             | (refine Stop.mk ?_)
             | (refine fI_i64 (by first | omega | (simp only [Int.ofNat_eq_natCast] at *; omega)) ?_; intro z hz)
             | (refine fI_u32 (by first | omega | (simp only [Int.ofNat_eq_natCast] at *; omega)) ?_; intro z hz)
             | (refine fI_u8 (by first | omega | (simp only [Int.ofNat_eq_natCast] at *; omega)) ?_; intro z hz)
             | (refine fI_u64 (by first | omega | (simp only [Int.ofNat_eq_natCast] at *; omega)) ?_; intro z hz)
             | (refine fI_tdiv (by first | omega | (simp only [Int.ofNat_eq_natCast] at *; omega)) ?_; intro z hz)
             | (refine fI_tmod (by first | omega | (simp only [Int.ofNat_eq_natCast] at *; omega)) ?_; intro z hz)
             | (refine fI_gen ?_; intro z hz)
             | (refine fO_gen ?_; intro z hz)
             | (refine pure_step (ixs_eq rfl rfl (by omega) (show _ < (9 : Int) by omega)) ?_)
             | (refine pure_step (ixs_eq rfl rfl (by omega) (show _ < (14 : Int) by omega)) ?_)
             | (refine ld_list0 (cs := basE) rfl (by simp [basE]; omega) ?_; intro v hv; obtain ⟨sv, hsv, hsb⟩ := basE_bd v hv; subst hsv)
             | (refine ld_list0 (cs := sizE) rfl (by simp [sizE]; omega) ?_; intro v hv; obtain ⟨sv, hsv, hsb⟩ := sizE_bd v hv; subst hsv)
             | (refine dec_true (by assumption) ?_)
             | (refine dec_false (by assumption) ?_)
             | ((with_reducible refine dec_trueH ?tst ?_); (case tst => (first | rfl | ((try clear hC); (try clear kn); (try clear kx); (try clear kr); (try clear kn1); (try clear kx1); (try clear kr1); (try clear kn2); (try clear kx2); (try clear kr2); (try clear kn3); (try clear kx3); (try clear kr3); subst_vars; simp only [Int.ofNat_eq_natCast, tq_not, fq_not, tq_and, fq_and, tq_or, fq_or, tq_beq, fq_beq, tq_bne, fq_bne, tq_dec, fq_dec, one1, V.tup.injEq, V.agg.injEq, List.cons.injEq, V.int.injEq, V.bool.injEq, true_and, and_true, decide_eq_true_eq, decide_eq_false_iff_not, Bool.and_eq_true, Bool.and_eq_false_iff, Bool.or_eq_true, Bool.or_eq_false_iff, Bool.not_eq_true', Bool.not_eq_false', beq_iff_eq, wrap_u32, wrap_i64, wrap_u8, beq_eq_false_iff_ne, ne_eq, bne_iff_ne, bne_eq_false_iff_eq, eq_self, and_self, splice, V.cells, List.take_succ_cons, List.take_zero, List.take_nil, List.drop_zero, List.drop_succ_cons, List.drop_nil, List.cons_append, List.nil_append, List.append_nil, List.length_cons, List.length_nil, Nat.zero_add, Nat.reduceAdd, if_true, if_false, Bool.false_eq_true, beq_self_eq_true, decide_eq_decide, Bool.true_eq_false, or_false, false_or, or_true, true_or, and_false, false_and, not_true_eq_false, not_false_eq_true, Bool.and_true, Bool.true_and, Bool.not_true, Bool.not_false] at *; first | done | assumption | omega))); intro h)
             | ((with_reducible refine dec_falseH ?tst ?_); (case tst => (first | rfl | ((try clear hC); (try clear kn); (try clear kx); (try clear kr); (try clear kn1); (try clear kx1); (try clear kr1); (try clear kn2); (try clear kx2); (try clear kr2); (try clear kn3); (try clear kx3); (try clear kr3); subst_vars; simp only [Int.ofNat_eq_natCast, tq_not, fq_not, tq_and, fq_and, tq_or, fq_or, tq_beq, fq_beq, tq_bne, fq_bne, tq_dec, fq_dec, one1, V.tup.injEq, V.agg.injEq, List.cons.injEq, V.int.injEq, V.bool.injEq, true_and, and_true, decide_eq_true_eq, decide_eq_false_iff_not, Bool.and_eq_true, Bool.and_eq_false_iff, Bool.or_eq_true, Bool.or_eq_false_iff, Bool.not_eq_true', Bool.not_eq_false', beq_iff_eq, wrap_u32, wrap_i64, wrap_u8, beq_eq_false_iff_ne, ne_eq, bne_iff_ne, bne_eq_false_iff_eq, eq_self, and_self, splice, V.cells, List.take_succ_cons, List.take_zero, List.take_nil, List.drop_zero, List.drop_succ_cons, List.drop_nil, List.cons_append, List.nil_append, List.append_nil, List.length_cons, List.length_nil, Nat.zero_add, Nat.reduceAdd, if_true, if_false, Bool.false_eq_true, beq_self_eq_true, decide_eq_decide, Bool.true_eq_false, or_false, false_or, or_true, true_or, and_false, false_and, not_true_eq_false, not_false_eq_true, Bool.and_true, Bool.true_and, Bool.not_true, Bool.not_false] at *; first | done | assumption | omega))); intro h)
             | (refine dec_split (fun h => ?_) (fun h => ?_))
             | (apply silE)
             | (refine Both.mk ?_ ?_)
             | (refine And.intro rfl ?_)
             | (exact And.intro rfl (And.intro rfl (And.intro rfl rfl)))
             | (refine And.intro (by first | omega | ((simp only [decide_eq_true_eq, decide_eq_false_iff_not, Bool.and_eq_true, beq_iff_eq, Bool.not_eq_true', Bool.not_eq_false'] at *); omega) | (subst_vars; simp only [Int.ofNat_eq_natCast, tq_not, fq_not, tq_and, fq_and, tq_or, fq_or, tq_beq, fq_beq, tq_bne, fq_bne, tq_dec, fq_dec, one1, V.tup.injEq, V.agg.injEq, List.cons.injEq, V.int.injEq, V.bool.injEq, true_and, and_true, decide_eq_true_eq, decide_eq_false_iff_not, Bool.and_eq_true, Bool.and_eq_false_iff, Bool.or_eq_true, Bool.or_eq_false_iff, Bool.not_eq_true', Bool.not_eq_false', beq_iff_eq, wrap_u32, wrap_i64, wrap_u8, beq_eq_false_iff_ne, ne_eq, bne_iff_ne, bne_eq_false_iff_eq, eq_self, and_self, splice, V.cells, List.take_succ_cons, List.take_zero, List.take_nil, List.drop_zero, List.drop_succ_cons, List.drop_nil, List.cons_append, List.nil_append, List.append_nil, List.length_cons, List.length_nil, Nat.zero_add, Nat.reduceAdd, if_true, if_false, Bool.false_eq_true, beq_self_eq_true, decide_eq_decide, Bool.true_eq_false, or_false, false_or, or_true, true_or, and_false, false_and, not_true_eq_false, not_false_eq_true, Bool.and_true, Bool.true_and, Bool.not_true, Bool.not_false] at *; omega)) ?_)
             | (refine Exists.intro _ (Exists.intro _ (And.intro rfl ?_)))
             | (refine Exists.intro _ (And.intro rfl ?_))
             | (refine Exists.intro _ (Exists.intro _ (Exists.intro _ (Exists.intro _ (And.intro rfl ?_)))))
             | (refine ld_step rfl (by assumption) rfl ?_)
             | (refine lds_step rfl (by assumption) rfl ?_)
             | (refine fL_mk ?_)
             | (refine fH_mk ?_)
             | (refine fN_mk ?_)
             | (refine fLB_mk ?_)
             | (refine And.intro (by repeat (first | assumption | refine GLB_app ?_)) ?_)
             | (refine ld_step rfl ((rd_x0 _ _ _ _ _).trans rfl) rfl ?_)
             | (refine ld_step rfl ((rd_x1 _ _ _ _ _ _).trans rfl) rfl ?_)
             | (refine ld_step rfl ((rd_x2 _ _ _ _ _ _ _).trans rfl) rfl ?_)
             | (refine lds_step rfl ((rd_x0 _ _ _ _ _).trans rfl) rfl ?_)
             | (refine lds_step rfl ((rd_x1 _ _ _ _ _ _).trans rfl) rfl ?_)
             | (refine lds_step rfl ((rd_x2 _ _ _ _ _ _ _).trans rfl) rfl ?_)
             | (refine mem_step (st_eq rfl rfl rfl rfl (wr_last _ _ _ _ rfl)) ?_)
             | (refine drec_yes (by omega) ?_)
             | (refine drec_no (by omega) ?_)
             | (intro _)
             | fail)
    all_goals (conv => whnf)
    all_goals first
      | exact leafE (hq _ _ _ _ _ ⟨by omega, by omega, by omega, by omega, by omega⟩) rfl
      | exact leafH (hq _ _ _ _ _ ⟨by omega, by omega, by omega, by omega, by omega⟩) rfl (take_app1 H _)
      | trace_state
  · exact hs.elim
def s4 : Sp := fun vs H Q => match vs with
  | [] => GLB H ∧ ∀ X e g, Q (.bool true) (H ++ X) e g
  | _ => False
theorem k4 : Snd Tryd.prog 1 4 s4 := by
  refine snd_of_ev (by kernel_rfl) (C := tab [(7, s7), (9, s9), (10, s10), (12, s12)]) (sndC_cons k7 (sndC_cons k9 (sndC_cons k10 (sndC_cons k12 (sndC_nil))))) x4 n4 c4 200 ?_
  have hC : MonoC (tab [(7, s7), (9, s9), (10, s10), (12, s12)]) := monoC_cons m7 (monoC_cons m9 (monoC_cons m10 (monoC_cons m12 (monoC_nil))))
  intro vs Hx Q hs
  unfold s4 at hs
  split at hs
  · obtain ⟨hg, hq⟩ := hs
    suffices hh : ∀ k, 150 < k → evFun (tab [(7, s7), (9, s9), (10, s10), (12, s12)]) k e4 [] Hx Q from hh _ (by omega)
    intro k hk
    refine evFun_in (tm := undefV :: undefV :: undefV :: undefV :: undefV :: undefV :: undefV :: undefV :: undefV :: undefV :: undefV :: undefV :: undefV :: undefV :: undefV :: undefV :: undefV :: undefV :: undefV :: undefV :: undefV :: undefV :: undefV :: undefV :: undefV :: undefV :: undefV :: undefV :: undefV :: undefV :: undefV :: undefV :: undefV :: undefV :: undefV :: undefV :: undefV :: undefV :: undefV :: undefV :: undefV :: undefV :: undefV :: undefV :: undefV :: undefV :: undefV :: undefV :: undefV :: undefV :: undefV :: undefV :: undefV :: undefV :: undefV :: undefV :: undefV :: undefV :: undefV :: undefV :: undefV :: undefV :: undefV :: undefV :: undefV :: undefV :: undefV :: undefV :: undefV :: undefV :: undefV :: undefV :: undefV :: undefV :: undefV :: undefV :: undefV :: undefV :: undefV :: undefV :: undefV :: undefV :: []) rfl ?_
    show rC _ _ r4_0 _ _ _ _ _ _
    refine rC_seqH ?_
    repeat' (conv => whnf
             first
             | (refine Stop.mk ?_)
             | (refine fI_gen ?_; intro z hz)
             | (refine fO_gen ?_; intro z hz)
             | (refine dec_true (by assumption) ?_)
             | (refine dec_false (by assumption) ?_)
             | (refine dec_split (fun h => ?_) (fun h => ?_))
             | (apply silE)
             | (refine Both.mk ?_ ?_)
             | (refine And.intro rfl ?_)
             | (exact And.intro rfl (And.intro rfl (And.intro rfl rfl)))
             | (refine And.intro (by first | omega | ((simp only [decide_eq_true_eq, decide_eq_false_iff_not, Bool.and_eq_true, beq_iff_eq, Bool.not_eq_true', Bool.not_eq_false'] at *); omega) | (subst_vars; simp only [Int.ofNat_eq_natCast, tq_not, fq_not, tq_and, fq_and, tq_or, fq_or, tq_beq, fq_beq, tq_bne, fq_bne, tq_dec, fq_dec, one1, V.tup.injEq, V.agg.injEq, List.cons.injEq, V.int.injEq, V.bool.injEq, true_and, and_true, decide_eq_true_eq, decide_eq_false_iff_not, Bool.and_eq_true, Bool.and_eq_false_iff, Bool.or_eq_true, Bool.or_eq_false_iff, Bool.not_eq_true', Bool.not_eq_false', beq_iff_eq, wrap_u32, wrap_i64, wrap_u8, beq_eq_false_iff_ne, ne_eq, bne_iff_ne, bne_eq_false_iff_eq, eq_self, and_self, splice, V.cells, List.take_succ_cons, List.take_zero, List.take_nil, List.drop_zero, List.drop_succ_cons, List.drop_nil, List.cons_append, List.nil_append, List.append_nil, List.length_cons, List.length_nil, Nat.zero_add, Nat.reduceAdd, if_true, if_false, Bool.false_eq_true, beq_self_eq_true, decide_eq_decide, Bool.true_eq_false, or_false, false_or, or_true, true_or, and_false, false_and, not_true_eq_false, not_false_eq_true, Bool.and_true, Bool.true_and, Bool.not_true, Bool.not_false] at *; omega)) ?_)
             | (refine Exists.intro _ (Exists.intro _ (And.intro rfl ?_)))
             | (refine Exists.intro _ (And.intro rfl ?_))
             | (refine Exists.intro _ (Exists.intro _ (Exists.intro _ (Exists.intro _ (And.intro rfl ?_)))))
             | (refine ld_step rfl (by assumption) rfl ?_)
             | (refine lds_step rfl (by assumption) rfl ?_)
             | (refine fL_mk ?_)
             | (refine fH_mk ?_)
             | (refine fN_mk ?_)
             | (refine fLB_mk ?_)
             | (refine And.intro (by repeat (first | assumption | refine GLB_app ?_)) ?_)
             | (refine ld_step rfl ((rd_x0 _ _ _ _ _).trans rfl) rfl ?_)
             | (refine ld_step rfl ((rd_x1 _ _ _ _ _ _).trans rfl) rfl ?_)
             | (refine ld_step rfl ((rd_x2 _ _ _ _ _ _ _).trans rfl) rfl ?_)
             | (refine lds_step rfl ((rd_x0 _ _ _ _ _).trans rfl) rfl ?_)
             | (refine lds_step rfl ((rd_x1 _ _ _ _ _ _).trans rfl) rfl ?_)
             | (refine lds_step rfl ((rd_x2 _ _ _ _ _ _ _).trans rfl) rfl ?_)
             | (refine mem_step (st_eq rfl rfl rfl rfl (wr_last _ _ _ _ rfl)) ?_)
             | (refine drec_yes (by omega) ?_)
             | (refine drec_no (by omega) ?_)
             | (intro _)
             | fail)
    any_goals refine Halt.mk ?_
    any_goals show rC _ _ r4_1 _ _ _ _ _ _
    refine rC_seqH ?_
    repeat' (conv => whnf
             first
             | (refine Stop.mk ?_)
             | (refine fI_mk ?_)
             | (refine fO_mk ?_)
             | (refine fN_mk ?_)
             | fail)
    conv => whnf
    refine rLoop_ctr (c := rC (tab [(7, s7), (9, s9), (10, s10), (12, s12)]) k l4_0) 60 1 (true :: false :: true :: false :: false :: false :: false :: false :: true :: true :: true :: true :: true :: true :: true :: true :: true :: true :: true :: true :: true :: false :: false :: false :: false :: false :: false :: false :: false :: false :: false :: false :: false :: false :: false :: false :: false :: false :: false :: false :: false :: false :: false :: false :: false :: false :: false :: false :: false :: false :: false :: false :: false :: false :: false :: false :: false :: false :: false :: false :: false :: false :: false :: false :: false :: false :: false :: false :: false :: false :: false :: false :: false :: false :: false :: false :: false :: false :: false :: false :: false :: false :: []) (fun i tm L H e g => H = Hx ∧ L = [] ∧ e = false ∧ g = false) (by omega) rfl ⟨rfl, rfl, rfl, rfl⟩ ?_
    intro i0 hi0
    conv => whnf
    intro j
    conv => whnf
    intro j
    conv => whnf
    intro j
    conv => whnf
    intro j
    conv => whnf
    intro j
    conv => whnf
    intro j
    conv => whnf
    intro j
    conv => whnf
    intro j
    conv => whnf
    intro j
    conv => whnf
    intro j
    conv => whnf
    intro j
    conv => whnf
    intro j
    conv => whnf
    intro j
    conv => whnf
    intro j
    conv => whnf
    intro j
    conv => whnf
    refine Halt.mk ?_
    rintro L H1 e g ⟨rfl, rfl, rfl, rfl⟩ K kn kx kr
    repeat' (conv => whnf
             first
             | (refine Stop.mk ?_)
             | (refine fI_mk ?_)
             | (refine fO_mk ?_)
             | (refine fN_mk ?_)
             | fail)
    conv => whnf
    refine dec_split (fun h => ?_) (fun h => ?_)
    · have hlt : i0 < 60 := by have := of_decide_eq_true h; omega
      clear kx
      repeat' (conv => whnf
               first
               | (refine Stop.mk ?_)
               | (refine fI_mk ?_)
               | (refine fO_mk ?_)
               | (refine fN_mk ?_)
               | fail)
      conv => whnf
      refine rLoop_ctr (c := rC (tab [(7, s7), (9, s9), (10, s10), (12, s12)]) k l4_1) 28 2 (true :: false :: false :: false :: false :: false :: false :: false :: false :: false :: false :: false :: true :: true :: true :: true :: true :: true :: true :: true :: true :: false :: false :: false :: false :: false :: false :: false :: false :: false :: false :: false :: false :: false :: false :: false :: false :: false :: false :: false :: false :: false :: false :: false :: false :: false :: false :: false :: false :: false :: false :: false :: false :: false :: false :: false :: false :: false :: false :: false :: false :: false :: false :: false :: false :: false :: false :: false :: false :: false :: false :: false :: false :: false :: false :: false :: false :: false :: false :: false :: false :: false :: []) (fun i tm L H e g => H = H1 ∧ L = [] ∧ e = false ∧ g = false) (by omega) rfl ⟨rfl, rfl, rfl, rfl⟩ ?_
      intro i1 hi1
      conv => whnf
      intro j
      conv => whnf
      intro j
      conv => whnf
      intro j
      conv => whnf
      intro j
      conv => whnf
      intro j
      conv => whnf
      intro j
      conv => whnf
      intro j
      conv => whnf
      intro j
      conv => whnf
      intro j
      conv => whnf
      intro j
      conv => whnf
      refine Halt.mk ?_
      rintro L H2 e g ⟨rfl, rfl, rfl, rfl⟩ K1 kn1 kx1 kr1
      repeat' (conv => whnf
               first
               | (refine Stop.mk ?_)
               | (refine fI_mk ?_)
               | (refine fO_mk ?_)
               | (refine fN_mk ?_)
               | fail)
      conv => whnf
      refine dec_split (fun h1 => ?_) (fun h1 => ?_)
      · have hlt1 : i1 < 28 := by have := of_decide_eq_true h1; omega
        clear kx1 kr1 kr kn
        repeat' (conv => whnf
                 first
                 | (refine Stop.mk ?_)
                 | (refine fI_i64 (by first | omega | (simp only [Int.ofNat_eq_natCast] at *; omega)) ?_; intro z hz)
                 | (refine fI_u32 (by first | omega | (simp only [Int.ofNat_eq_natCast] at *; omega)) ?_; intro z hz)
                 | (refine fI_u8 (by first | omega | (simp only [Int.ofNat_eq_natCast] at *; omega)) ?_; intro z hz)
                 | (refine fI_u64 (by first | omega | (simp only [Int.ofNat_eq_natCast] at *; omega)) ?_; intro z hz)
                 | (refine fI_tdiv (by first | omega | (simp only [Int.ofNat_eq_natCast] at *; omega)) ?_; intro z hz)
                 | (refine fI_tmod (by first | omega | (simp only [Int.ofNat_eq_natCast] at *; omega)) ?_; intro z hz)
                 | (refine fI_gen ?_; intro z hz)
                 | (refine fO_gen ?_; intro z hz)
                 | (refine And.intro (show 0 ≤ _ ∧ _ < (60 : Int) ∧ 0 ≤ _ ∧ _ < (28 : Int) by omega) ?_; intro k b m ow li hb)
                 | (refine And.intro ⟨hb.1, hb.2.1⟩ ?_)
                 | (refine dec_true (by assumption) ?_)
                 | (refine dec_false (by assumption) ?_)
                 | ((with_reducible refine dec_trueH ?tst ?_); (case tst => (first | rfl | ((try clear hC); (try clear kn); (try clear kx); (try clear kr); (try clear kn1); (try clear kx1); (try clear kr1); (try clear kn2); (try clear kx2); (try clear kr2); (try clear kn3); (try clear kx3); (try clear kr3); subst_vars; simp only [Int.ofNat_eq_natCast, tq_not, fq_not, tq_and, fq_and, tq_or, fq_or, tq_beq, fq_beq, tq_bne, fq_bne, tq_dec, fq_dec, one1, V.tup.injEq, V.agg.injEq, List.cons.injEq, V.int.injEq, V.bool.injEq, true_and, and_true, decide_eq_true_eq, decide_eq_false_iff_not, Bool.and_eq_true, Bool.and_eq_false_iff, Bool.or_eq_true, Bool.or_eq_false_iff, Bool.not_eq_true', Bool.not_eq_false', beq_iff_eq, wrap_u32, wrap_i64, wrap_u8, beq_eq_false_iff_ne, ne_eq, bne_iff_ne, bne_eq_false_iff_eq, eq_self, and_self, splice, V.cells, List.take_succ_cons, List.take_zero, List.take_nil, List.drop_zero, List.drop_succ_cons, List.drop_nil, List.cons_append, List.nil_append, List.append_nil, List.length_cons, List.length_nil, Nat.zero_add, Nat.reduceAdd, if_true, if_false, Bool.false_eq_true, beq_self_eq_true, decide_eq_decide, Bool.true_eq_false, or_false, false_or, or_true, true_or, and_false, false_and, not_true_eq_false, not_false_eq_true, Bool.and_true, Bool.true_and, Bool.not_true, Bool.not_false] at *; first | done | assumption | omega))); intro h)
                 | ((with_reducible refine dec_falseH ?tst ?_); (case tst => (first | rfl | ((try clear hC); (try clear kn); (try clear kx); (try clear kr); (try clear kn1); (try clear kx1); (try clear kr1); (try clear kn2); (try clear kx2); (try clear kr2); (try clear kn3); (try clear kx3); (try clear kr3); subst_vars; simp only [Int.ofNat_eq_natCast, tq_not, fq_not, tq_and, fq_and, tq_or, fq_or, tq_beq, fq_beq, tq_bne, fq_bne, tq_dec, fq_dec, one1, V.tup.injEq, V.agg.injEq, List.cons.injEq, V.int.injEq, V.bool.injEq, true_and, and_true, decide_eq_true_eq, decide_eq_false_iff_not, Bool.and_eq_true, Bool.and_eq_false_iff, Bool.or_eq_true, Bool.or_eq_false_iff, Bool.not_eq_true', Bool.not_eq_false', beq_iff_eq, wrap_u32, wrap_i64, wrap_u8, beq_eq_false_iff_ne, ne_eq, bne_iff_ne, bne_eq_false_iff_eq, eq_self, and_self, splice, V.cells, List.take_succ_cons, List.take_zero, List.take_nil, List.drop_zero, List.drop_succ_cons, List.drop_nil, List.cons_append, List.nil_append, List.append_nil, List.length_cons, List.length_nil, Nat.zero_add, Nat.reduceAdd, if_true, if_false, Bool.false_eq_true, beq_self_eq_true, decide_eq_decide, Bool.true_eq_false, or_false, false_or, or_true, true_or, and_false, false_and, not_true_eq_false, not_false_eq_true, Bool.and_true, Bool.true_and, Bool.not_true, Bool.not_false] at *; first | done | assumption | omega))); intro h)
                 | (refine dec_split (fun h => ?_) (fun h => ?_))
                 | (apply silE)
                 | (refine Both.mk ?_ ?_)
                 | (refine And.intro rfl ?_)
                 | (exact And.intro rfl (And.intro rfl (And.intro rfl rfl)))
                 | (refine And.intro (by first | omega | ((simp only [decide_eq_true_eq, decide_eq_false_iff_not, Bool.and_eq_true, beq_iff_eq, Bool.not_eq_true', Bool.not_eq_false'] at *); omega) | (subst_vars; simp only [Int.ofNat_eq_natCast, tq_not, fq_not, tq_and, fq_and, tq_or, fq_or, tq_beq, fq_beq, tq_bne, fq_bne, tq_dec, fq_dec, one1, V.tup.injEq, V.agg.injEq, List.cons.injEq, V.int.injEq, V.bool.injEq, true_and, and_true, decide_eq_true_eq, decide_eq_false_iff_not, Bool.and_eq_true, Bool.and_eq_false_iff, Bool.or_eq_true, Bool.or_eq_false_iff, Bool.not_eq_true', Bool.not_eq_false', beq_iff_eq, wrap_u32, wrap_i64, wrap_u8, beq_eq_false_iff_ne, ne_eq, bne_iff_ne, bne_eq_false_iff_eq, eq_self, and_self, splice, V.cells, List.take_succ_cons, List.take_zero, List.take_nil, List.drop_zero, List.drop_succ_cons, List.drop_nil, List.cons_append, List.nil_append, List.append_nil, List.length_cons, List.length_nil, Nat.zero_add, Nat.reduceAdd, if_true, if_false, Bool.false_eq_true, beq_self_eq_true, decide_eq_decide, Bool.true_eq_false, or_false, false_or, or_true, true_or, and_false, false_and, not_true_eq_false, not_false_eq_true, Bool.and_true, Bool.true_and, Bool.not_true, Bool.not_false] at *; omega)) ?_)
                 | (refine Exists.intro _ (Exists.intro _ (And.intro rfl ?_)))
                 | (refine Exists.intro _ (And.intro rfl ?_))
                 | (refine Exists.intro _ (Exists.intro _ (Exists.intro _ (Exists.intro _ (And.intro rfl ?_)))))
                 | (refine ld_step rfl (by assumption) rfl ?_)
                 | (refine lds_step rfl (by assumption) rfl ?_)
                 | (refine fL_mk ?_)
                 | (refine fH_mk ?_)
                 | (refine fN_mk ?_)
                 | (refine fLB_mk ?_)
                 | (refine And.intro (by repeat (first | assumption | refine GLB_app ?_)) ?_)
                 | (refine ld_step rfl ((rd_x0 _ _ _ _ _).trans rfl) rfl ?_)
                 | (refine ld_step rfl ((rd_x1 _ _ _ _ _ _).trans rfl) rfl ?_)
                 | (refine ld_step rfl ((rd_x2 _ _ _ _ _ _ _).trans rfl) rfl ?_)
                 | (refine lds_step rfl ((rd_x0 _ _ _ _ _).trans rfl) rfl ?_)
                 | (refine lds_step rfl ((rd_x1 _ _ _ _ _ _).trans rfl) rfl ?_)
                 | (refine lds_step rfl ((rd_x2 _ _ _ _ _ _ _).trans rfl) rfl ?_)
                 | (refine mem_step (st_eq rfl rfl rfl rfl (wr_last _ _ _ _ rfl)) ?_)
                 | (refine drec_yes (by omega) ?_)
                 | (refine drec_no (by omega) ?_)
                 | (intro _)
                 | fail)
        conv => whnf
        subst hz
        exact kn1 hlt1 _ _ _ _ _ rfl ⟨rfl, rfl, rfl, rfl⟩
      · clear kn1 kr1
        repeat' (conv => whnf
                 first
                 | (refine Stop.mk ?_)
                 | (refine fI_i64 (by first | omega | (simp only [Int.ofNat_eq_natCast] at *; omega)) ?_; intro z hz)
                 | (refine fI_u32 (by first | omega | (simp only [Int.ofNat_eq_natCast] at *; omega)) ?_; intro z hz)
                 | (refine fI_u8 (by first | omega | (simp only [Int.ofNat_eq_natCast] at *; omega)) ?_; intro z hz)
                 | (refine fI_u64 (by first | omega | (simp only [Int.ofNat_eq_natCast] at *; omega)) ?_; intro z hz)
                 | (refine fI_tdiv (by first | omega | (simp only [Int.ofNat_eq_natCast] at *; omega)) ?_; intro z hz)
                 | (refine fI_tmod (by first | omega | (simp only [Int.ofNat_eq_natCast] at *; omega)) ?_; intro z hz)
                 | (refine fI_gen ?_; intro z hz)
                 | (refine fO_gen ?_; intro z hz)
                 | (refine kx1 _ _ _ _ _ _ ?_)
                 | (refine dec_true (by assumption) ?_)
                 | (refine dec_false (by assumption) ?_)
                 | (refine dec_split (fun h => ?_) (fun h => ?_))
                 | (apply silE)
                 | (refine Both.mk ?_ ?_)
                 | (refine And.intro rfl ?_)
                 | (exact And.intro rfl (And.intro rfl (And.intro rfl rfl)))
                 | (refine And.intro (by first | omega | ((simp only [decide_eq_true_eq, decide_eq_false_iff_not, Bool.and_eq_true, beq_iff_eq, Bool.not_eq_true', Bool.not_eq_false'] at *); omega) | (subst_vars; simp only [Int.ofNat_eq_natCast, tq_not, fq_not, tq_and, fq_and, tq_or, fq_or, tq_beq, fq_beq, tq_bne, fq_bne, tq_dec, fq_dec, one1, V.tup.injEq, V.agg.injEq, List.cons.injEq, V.int.injEq, V.bool.injEq, true_and, and_true, decide_eq_true_eq, decide_eq_false_iff_not, Bool.and_eq_true, Bool.and_eq_false_iff, Bool.or_eq_true, Bool.or_eq_false_iff, Bool.not_eq_true', Bool.not_eq_false', beq_iff_eq, wrap_u32, wrap_i64, wrap_u8, beq_eq_false_iff_ne, ne_eq, bne_iff_ne, bne_eq_false_iff_eq, eq_self, and_self, splice, V.cells, List.take_succ_cons, List.take_zero, List.take_nil, List.drop_zero, List.drop_succ_cons, List.drop_nil, List.cons_append, List.nil_append, List.append_nil, List.length_cons, List.length_nil, Nat.zero_add, Nat.reduceAdd, if_true, if_false, Bool.false_eq_true, beq_self_eq_true, decide_eq_decide, Bool.true_eq_false, or_false, false_or, or_true, true_or, and_false, false_and, not_true_eq_false, not_false_eq_true, Bool.and_true, Bool.true_and, Bool.not_true, Bool.not_false] at *; omega)) ?_)
                 | (refine Exists.intro _ (Exists.intro _ (And.intro rfl ?_)))
                 | (refine Exists.intro _ (And.intro rfl ?_))
                 | (refine Exists.intro _ (Exists.intro _ (Exists.intro _ (Exists.intro _ (And.intro rfl ?_)))))
                 | (refine ld_step rfl (by assumption) rfl ?_)
                 | (refine lds_step rfl (by assumption) rfl ?_)
                 | (refine fL_mk ?_)
                 | (refine fH_mk ?_)
                 | (refine fN_mk ?_)
                 | (refine fLB_mk ?_)
                 | (refine And.intro (by repeat (first | assumption | refine GLB_app ?_)) ?_)
                 | (refine ld_step rfl ((rd_x0 _ _ _ _ _).trans rfl) rfl ?_)
                 | (refine ld_step rfl ((rd_x1 _ _ _ _ _ _).trans rfl) rfl ?_)
                 | (refine ld_step rfl ((rd_x2 _ _ _ _ _ _ _).trans rfl) rfl ?_)
                 | (refine lds_step rfl ((rd_x0 _ _ _ _ _).trans rfl) rfl ?_)
                 | (refine lds_step rfl ((rd_x1 _ _ _ _ _ _).trans rfl) rfl ?_)
                 | (refine lds_step rfl ((rd_x2 _ _ _ _ _ _ _).trans rfl) rfl ?_)
                 | (refine mem_step (st_eq rfl rfl rfl rfl (wr_last _ _ _ _ rfl)) ?_)
                 | (refine drec_yes (by omega) ?_)
                 | (refine drec_no (by omega) ?_)
                 | (intro _)
                 | fail)
        conv => whnf
        subst hz
        exact kn hlt _ _ _ _ _ rfl ⟨rfl, rfl, rfl, rfl⟩
    · clear kn kr
      refine kx _ _ _ _ _ _ ?_
      conv => whnf
      refine Halt.mk ?_
      show rC _ _ r4_2 _ _ _ _ _ _
      clear kx
      refine rC_seqH ?_
      repeat' (conv => whnf
               first
               | (refine Stop.mk ?_)
               | (refine fI_gen ?_; intro z hz)
               | (refine fO_gen ?_; intro z hz)
               | (refine dec_true (by assumption) ?_)
               | (refine dec_false (by assumption) ?_)
               | (refine dec_split (fun h => ?_) (fun h => ?_))
               | (apply silE)
               | (refine Both.mk ?_ ?_)
               | (refine And.intro rfl ?_)
               | (exact And.intro rfl (And.intro rfl (And.intro rfl rfl)))
               | (refine And.intro (by first | omega | ((simp only [decide_eq_true_eq, decide_eq_false_iff_not, Bool.and_eq_true, beq_iff_eq, Bool.not_eq_true', Bool.not_eq_false'] at *); omega) | (subst_vars; simp only [Int.ofNat_eq_natCast, tq_not, fq_not, tq_and, fq_and, tq_or, fq_or, tq_beq, fq_beq, tq_bne, fq_bne, tq_dec, fq_dec, one1, V.tup.injEq, V.agg.injEq, List.cons.injEq, V.int.injEq, V.bool.injEq, true_and, and_true, decide_eq_true_eq, decide_eq_false_iff_not, Bool.and_eq_true, Bool.and_eq_false_iff, Bool.or_eq_true, Bool.or_eq_false_iff, Bool.not_eq_true', Bool.not_eq_false', beq_iff_eq, wrap_u32, wrap_i64, wrap_u8, beq_eq_false_iff_ne, ne_eq, bne_iff_ne, bne_eq_false_iff_eq, eq_self, and_self, splice, V.cells, List.take_succ_cons, List.take_zero, List.take_nil, List.drop_zero, List.drop_succ_cons, List.drop_nil, List.cons_append, List.nil_append, List.append_nil, List.length_cons, List.length_nil, Nat.zero_add, Nat.reduceAdd, if_true, if_false, Bool.false_eq_true, beq_self_eq_true, decide_eq_decide, Bool.true_eq_false, or_false, false_or, or_true, true_or, and_false, false_and, not_true_eq_false, not_false_eq_true, Bool.and_true, Bool.true_and, Bool.not_true, Bool.not_false] at *; omega)) ?_)
               | (refine Exists.intro _ (Exists.intro _ (And.intro rfl ?_)))
               | (refine Exists.intro _ (And.intro rfl ?_))
               | (refine Exists.intro _ (Exists.intro _ (Exists.intro _ (Exists.intro _ (And.intro rfl ?_)))))
               | (refine ld_step rfl (by assumption) rfl ?_)
               | (refine lds_step rfl (by assumption) rfl ?_)
               | (refine fL_mk ?_)
               | (refine fH_mk ?_)
               | (refine fN_mk ?_)
               | (refine fLB_mk ?_)
               | (refine And.intro (by repeat (first | assumption | refine GLB_app ?_)) ?_)
               | (refine ld_step rfl ((rd_x0 _ _ _ _ _).trans rfl) rfl ?_)
               | (refine ld_step rfl ((rd_x1 _ _ _ _ _ _).trans rfl) rfl ?_)
               | (refine ld_step rfl ((rd_x2 _ _ _ _ _ _ _).trans rfl) rfl ?_)
               | (refine lds_step rfl ((rd_x0 _ _ _ _ _).trans rfl) rfl ?_)
               | (refine lds_step rfl ((rd_x1 _ _ _ _ _ _).trans rfl) rfl ?_)
               | (refine lds_step rfl ((rd_x2 _ _ _ _ _ _ _).trans rfl) rfl ?_)
               | (refine mem_step (st_eq rfl rfl rfl rfl (wr_last _ _ _ _ rfl)) ?_)
               | (refine drec_yes (by omega) ?_)
               | (refine drec_no (by omega) ?_)
               | (intro _)
               | fail)
      any_goals refine Halt.mk ?_
      any_goals show rC _ _ r4_3 _ _ _ _ _ _
      refine rC_seqH ?_
      repeat' (conv => whnf
               first
               | (refine Stop.mk ?_)
               | (refine fI_mk ?_)
               | (refine fO_mk ?_)
               | (refine fN_mk ?_)
               | fail)
      conv => whnf
      refine rLoop_ctr (c := rC (tab [(7, s7), (9, s9), (10, s10), (12, s12)]) k l4_2) 18 4 (true :: false :: false :: true :: false :: true :: true :: false :: false :: false :: false :: false :: false :: false :: false :: false :: false :: false :: false :: false :: false :: true :: true :: true :: true :: true :: true :: true :: true :: true :: true :: true :: true :: true :: true :: true :: true :: true :: true :: true :: true :: true :: true :: true :: true :: true :: true :: true :: true :: true :: true :: true :: true :: true :: true :: true :: true :: true :: true :: false :: false :: false :: false :: false :: false :: false :: false :: false :: false :: false :: false :: false :: false :: false :: false :: false :: false :: false :: false :: false :: false :: false :: []) (fun i tm L H e g => (∃ w X ds, svAt tm 3 = .v w ∧ H = H1 ++ X ∧ Own H1.length H 26 5 w (ds.flatMap encD) ∧ (∀ d, d ∈ ds → okD d) ∧ ds.length = i) ∧ L = []) (by omega) rfl ⟨⟨_, [], [], rfl, (List.append_nil _).symm, Own.nil _ _ _ _, by simp, rfl⟩, rfl⟩ ?_
      intro i2 hi2
      conv => whnf
      intro j
      conv => whnf
      intro j
      conv => whnf
      intro j
      conv => whnf
      intro j
      conv => whnf
      intro j
      conv => whnf
      intro j
      conv => whnf
      intro j
      conv => whnf
      intro j
      conv => whnf
      intro j
      conv => whnf
      intro j
      conv => whnf
      intro j
      conv => whnf
      intro j
      conv => whnf
      intro j
      conv => whnf
      intro j
      conv => whnf
      intro j
      conv => whnf
      intro j
      conv => whnf
      intro j
      conv => whnf
      intro j
      conv => whnf
      intro j
      conv => whnf
      intro j
      conv => whnf
      intro j
      conv => whnf
      intro j
      conv => whnf
      intro j
      conv => whnf
      intro j
      conv => whnf
      intro j
      conv => whnf
      intro j
      conv => whnf
      intro j
      conv => whnf
      intro j
      conv => whnf
      intro j
      conv => whnf
      intro j
      conv => whnf
      intro j
      conv => whnf
      intro j
      conv => whnf
      intro j
      conv => whnf
      intro j
      conv => whnf
      intro j
      conv => whnf
      intro j
      conv => whnf
      intro j
      conv => whnf
      intro j
      conv => whnf
      intro j
      conv => whnf
      intro j
      conv => whnf
      intro j
      conv => whnf
      intro j
      conv => whnf
      refine Halt.mk ?_
      rintro L H' e g ⟨⟨w, Y, ds, h4, rfl, hown, hok, hdl⟩, rfl⟩ K kn kx kr
      conv at h4 => lhs; whnf
      subst h4
      repeat' (conv => whnf
               first
               | (refine Stop.mk ?_)
               | (refine fI_mk ?_)
               | (refine fO_mk ?_)
               | (refine fN_mk ?_)
               | fail)
      conv => whnf
      refine dec_split (fun h => ?_) (fun h => ?_)
      · have hlt : i2 < 18 := by have := of_decide_eq_true h; omega
        clear kx
        obtain ⟨p, c, rfl, hc, hr⟩ := own_rowD hown
        repeat' (conv => whnf
                 first
                 | (refine Stop.mk ?_)
                 | (refine fI_mk ?_)
                 | (refine fO_mk ?_)
                 | (refine fN_mk ?_)
                 | fail)
        conv => whnf
        refine rLoop_ctr (c := rC (tab [(7, s7), (9, s9), (10, s10), (12, s12)]) k l4_3) 12 5 (true :: false :: false :: false :: false :: false :: true :: false :: false :: false :: false :: false :: false :: false :: false :: false :: false :: false :: false :: false :: false :: false :: false :: false :: false :: true :: true :: true :: true :: true :: true :: true :: true :: true :: true :: true :: true :: true :: true :: true :: true :: true :: true :: true :: true :: true :: false :: false :: false :: false :: false :: false :: false :: false :: false :: false :: false :: false :: false :: false :: false :: false :: false :: false :: false :: false :: false :: false :: false :: false :: false :: false :: false :: false :: false :: false :: false :: false :: false :: false :: false :: false :: []) (fun i tm L H e g => (∃ Z, H = H1 ++ Y ++ Z) ∧ L = []) (by omega) rfl ⟨⟨[], (List.append_nil _).symm⟩, rfl⟩ ?_
        intro i3 hi3
        conv => whnf
        intro j
        conv => whnf
        intro j
        conv => whnf
        intro j
        conv => whnf
        intro j
        conv => whnf
        intro j
        conv => whnf
        intro j
        conv => whnf
        intro j
        conv => whnf
        intro j
        conv => whnf
        intro j
        conv => whnf
        intro j
        conv => whnf
        intro j
        conv => whnf
        intro j
        conv => whnf
        intro j
        conv => whnf
        intro j
        conv => whnf
        intro j
        conv => whnf
        intro j
        conv => whnf
        intro j
        conv => whnf
        intro j
        conv => whnf
        intro j
        conv => whnf
        intro j
        conv => whnf
        intro j
        conv => whnf
        intro j
        conv => whnf
        intro j
        conv => whnf
        refine Halt.mk ?_
        rintro L H' e g ⟨⟨Z, rfl⟩, rfl⟩ K1 kn1 kx1 kr1
        repeat' (conv => whnf
                 first
                 | (refine Stop.mk ?_)
                 | (refine fI_mk ?_)
                 | (refine fO_mk ?_)
                 | (refine fN_mk ?_)
                 | fail)
        conv => whnf
        refine dec_split (fun h1 => ?_) (fun h1 => ?_)
        · have hlt1 : i3 < 12 := by have := of_decide_eq_true h1; omega
          clear kx1 kr1 kr kn
          repeat' (conv => whnf
                   first
                   | (refine Stop.mk ?_)
                   | (refine fI_u32b ?_; intro z hz)
                   | (refine fI_i64 (by first | omega | (simp only [Int.ofNat_eq_natCast] at *; omega)) ?_; intro z hz)
                   | (refine fI_u32 (by first | omega | (simp only [Int.ofNat_eq_natCast] at *; omega)) ?_; intro z hz)
                   | (refine fI_u8 (by first | omega | (simp only [Int.ofNat_eq_natCast] at *; omega)) ?_; intro z hz)
                   | (refine fI_u64 (by first | omega | (simp only [Int.ofNat_eq_natCast] at *; omega)) ?_; intro z hz)
                   | (refine fI_tdiv (by first | omega | (simp only [Int.ofNat_eq_natCast] at *; omega)) ?_; intro z hz)
                   | (refine fI_tmod (by first | omega | (simp only [Int.ofNat_eq_natCast] at *; omega)) ?_; intro z hz)
                   | (refine fI_gen ?_; intro z hz)
                   | (refine fO_gen ?_; intro z hz)
                   | (refine pure_step (ixs_eq rfl rfl (by omega) (show _ < (3 : Int) by omega)) ?_)
                   | (refine ld_list0 (cs := [V.int .i64 1, V.int .i64 2, V.int .i64 4]) rfl (by simp; omega) ?_; intro v hv; obtain ⟨sv, hsv, hsb⟩ := lit3 v hv; subst hsv)
                   | (refine And.intro (show (0 ≤ _ ∧ _ < (4294967296 : Int)) ∧ (0 ≤ _ ∧ _ < (4294967296 : Int)) ∧ (-9223372036854775808 ≤ _ ∧ _ < (9223372036854775808 : Int)) by omega) (And.intro (by repeat (first | assumption | refine GLB_app ?_)) (Exists.intro ds (And.intro rfl (And.intro (by omega) (And.intro hok (And.intro ((hr.app _).app _) ?_)))))))
                   | (refine dec_true (by assumption) ?_)
                   | (refine dec_false (by assumption) ?_)
                   | ((with_reducible refine dec_trueH ?tst ?_); (case tst => (first | rfl | ((try clear hC); (try clear kn); (try clear kx); (try clear kr); (try clear kn1); (try clear kx1); (try clear kr1); (try clear kn2); (try clear kx2); (try clear kr2); (try clear kn3); (try clear kx3); (try clear kr3); subst_vars; simp only [Int.ofNat_eq_natCast, tq_not, fq_not, tq_and, fq_and, tq_or, fq_or, tq_beq, fq_beq, tq_bne, fq_bne, tq_dec, fq_dec, one1, V.tup.injEq, V.agg.injEq, List.cons.injEq, V.int.injEq, V.bool.injEq, true_and, and_true, decide_eq_true_eq, decide_eq_false_iff_not, Bool.and_eq_true, Bool.and_eq_false_iff, Bool.or_eq_true, Bool.or_eq_false_iff, Bool.not_eq_true', Bool.not_eq_false', beq_iff_eq, wrap_u32, wrap_i64, wrap_u8, beq_eq_false_iff_ne, ne_eq, bne_iff_ne, bne_eq_false_iff_eq, eq_self, and_self, splice, V.cells, List.take_succ_cons, List.take_zero, List.take_nil, List.drop_zero, List.drop_succ_cons, List.drop_nil, List.cons_append, List.nil_append, List.append_nil, List.length_cons, List.length_nil, Nat.zero_add, Nat.reduceAdd, if_true, if_false, Bool.false_eq_true, beq_self_eq_true, decide_eq_decide, Bool.true_eq_false, or_false, false_or, or_true, true_or, and_false, false_and, not_true_eq_false, not_false_eq_true, Bool.and_true, Bool.true_and, Bool.not_true, Bool.not_false] at *; first | done | assumption | omega))); intro h)
                   | ((with_reducible refine dec_falseH ?tst ?_); (case tst => (first | rfl | ((try clear hC); (try clear kn); (try clear kx); (try clear kr); (try clear kn1); (try clear kx1); (try clear kr1); (try clear kn2); (try clear kx2); (try clear kr2); (try clear kn3); (try clear kx3); (try clear kr3); subst_vars; simp only [Int.ofNat_eq_natCast, tq_not, fq_not, tq_and, fq_and, tq_or, fq_or, tq_beq, fq_beq, tq_bne, fq_bne, tq_dec, fq_dec, one1, V.tup.injEq, V.agg.injEq, List.cons.injEq, V.int.injEq, V.bool.injEq, true_and, and_true, decide_eq_true_eq, decide_eq_false_iff_not, Bool.and_eq_true, Bool.and_eq_false_iff, Bool.or_eq_true, Bool.or_eq_false_iff, Bool.not_eq_true', Bool.not_eq_false', beq_iff_eq, wrap_u32, wrap_i64, wrap_u8, beq_eq_false_iff_ne, ne_eq, bne_iff_ne, bne_eq_false_iff_eq, eq_self, and_self, splice, V.cells, List.take_succ_cons, List.take_zero, List.take_nil, List.drop_zero, List.drop_succ_cons, List.drop_nil, List.cons_append, List.nil_append, List.append_nil, List.length_cons, List.length_nil, Nat.zero_add, Nat.reduceAdd, if_true, if_false, Bool.false_eq_true, beq_self_eq_true, decide_eq_decide, Bool.true_eq_false, or_false, false_or, or_true, true_or, and_false, false_and, not_true_eq_false, not_false_eq_true, Bool.and_true, Bool.true_and, Bool.not_true, Bool.not_false] at *; first | done | assumption | omega))); intro h)
                   | (refine dec_split (fun h => ?_) (fun h => ?_))
                   | (apply silE)
                   | (refine Both.mk ?_ ?_)
                   | (refine And.intro rfl ?_)
                   | (exact And.intro rfl (And.intro rfl (And.intro rfl rfl)))
                   | (refine And.intro (by first | omega | ((simp only [decide_eq_true_eq, decide_eq_false_iff_not, Bool.and_eq_true, beq_iff_eq, Bool.not_eq_true', Bool.not_eq_false'] at *); omega) | (subst_vars; simp only [Int.ofNat_eq_natCast, tq_not, fq_not, tq_and, fq_and, tq_or, fq_or, tq_beq, fq_beq, tq_bne, fq_bne, tq_dec, fq_dec, one1, V.tup.injEq, V.agg.injEq, List.cons.injEq, V.int.injEq, V.bool.injEq, true_and, and_true, decide_eq_true_eq, decide_eq_false_iff_not, Bool.and_eq_true, Bool.and_eq_false_iff, Bool.or_eq_true, Bool.or_eq_false_iff, Bool.not_eq_true', Bool.not_eq_false', beq_iff_eq, wrap_u32, wrap_i64, wrap_u8, beq_eq_false_iff_ne, ne_eq, bne_iff_ne, bne_eq_false_iff_eq, eq_self, and_self, splice, V.cells, List.take_succ_cons, List.take_zero, List.take_nil, List.drop_zero, List.drop_succ_cons, List.drop_nil, List.cons_append, List.nil_append, List.append_nil, List.length_cons, List.length_nil, Nat.zero_add, Nat.reduceAdd, if_true, if_false, Bool.false_eq_true, beq_self_eq_true, decide_eq_decide, Bool.true_eq_false, or_false, false_or, or_true, true_or, and_false, false_and, not_true_eq_false, not_false_eq_true, Bool.and_true, Bool.true_and, Bool.not_true, Bool.not_false] at *; omega)) ?_)
                   | (refine Exists.intro _ (Exists.intro _ (And.intro rfl ?_)))
                   | (refine Exists.intro _ (And.intro rfl ?_))
                   | (refine Exists.intro _ (Exists.intro _ (Exists.intro _ (Exists.intro _ (And.intro rfl ?_)))))
                   | (refine ld_step rfl (by assumption) rfl ?_)
                   | (refine lds_step rfl (by assumption) rfl ?_)
                   | (refine fL_mk ?_)
                   | (refine fH_mk ?_)
                   | (refine fN_mk ?_)
                   | (refine fLB_mk ?_)
                   | (refine And.intro (by repeat (first | assumption | refine GLB_app ?_)) ?_)
                   | (refine ld_step rfl ((rd_x0 _ _ _ _ _).trans rfl) rfl ?_)
                   | (refine ld_step rfl ((rd_x1 _ _ _ _ _ _).trans rfl) rfl ?_)
                   | (refine ld_step rfl ((rd_x2 _ _ _ _ _ _ _).trans rfl) rfl ?_)
                   | (refine lds_step rfl ((rd_x0 _ _ _ _ _).trans rfl) rfl ?_)
                   | (refine lds_step rfl ((rd_x1 _ _ _ _ _ _).trans rfl) rfl ?_)
                   | (refine lds_step rfl ((rd_x2 _ _ _ _ _ _ _).trans rfl) rfl ?_)
                   | (refine mem_step (st_eq rfl rfl rfl rfl (wr_last _ _ _ _ rfl)) ?_)
                   | (refine drec_yes (by omega) ?_)
                   | (refine drec_no (by omega) ?_)
                   | (intro _)
                   | fail)
          conv => whnf
          subst hz
          exact kn1 hlt1 _ _ _ _ _ rfl ⟨⟨_, List.append_assoc _ _ _⟩, rfl⟩
        · clear kn1 kr1 kr
          repeat' (conv => whnf
                   first
                   | (refine Stop.mk ?_)
                   | (refine fI_u32b ?_; intro z hz)
                   | (refine fI_i64 (by first | omega | (simp only [Int.ofNat_eq_natCast] at *; omega)) ?_; intro z hz)
                   | (refine fI_u32 (by first | omega | (simp only [Int.ofNat_eq_natCast] at *; omega)) ?_; intro z hz)
                   | (refine fI_u8 (by first | omega | (simp only [Int.ofNat_eq_natCast] at *; omega)) ?_; intro z hz)
                   | (refine fI_u64 (by first | omega | (simp only [Int.ofNat_eq_natCast] at *; omega)) ?_; intro z hz)
                   | (refine fI_tdiv (by first | omega | (simp only [Int.ofNat_eq_natCast] at *; omega)) ?_; intro z hz)
                   | (refine fI_tmod (by first | omega | (simp only [Int.ofNat_eq_natCast] at *; omega)) ?_; intro z hz)
                   | (refine fI_gen ?_; intro z hz)
                   | (refine fO_gen ?_; intro z hz)
                   | (refine kx1 _ _ _ _ _ _ ?_)
                   | (refine app_own1 ((List.append_assoc _ _ _).trans ((List.append_assoc _ _ _))) rfl rfl ((hown.app _).app _) (news_eq (n := 1) ((rd_x0 _ _ _ _ _).trans rfl) rfl) rfl rfl rfl (by omega) (by omega) (by rw [flat_len encD_len, hdl]; show (i2 * 5 + 5) * 40 ≤ _; omega) (by rw [flat_len encD_len, hdl]; show i2 * 5 + 5 < _; omega) rfl ?_; intro w' X' g' hown' hg1 hX)
                   | (refine dec_true (by assumption) ?_)
                   | (refine dec_false (by assumption) ?_)
                   | (refine dec_split (fun h => ?_) (fun h => ?_))
                   | (apply silE)
                   | (refine Both.mk ?_ ?_)
                   | (refine And.intro rfl ?_)
                   | (exact And.intro rfl (And.intro rfl (And.intro rfl rfl)))
                   | (refine And.intro (by first | omega | ((simp only [decide_eq_true_eq, decide_eq_false_iff_not, Bool.and_eq_true, beq_iff_eq, Bool.not_eq_true', Bool.not_eq_false'] at *); omega) | (subst_vars; simp only [Int.ofNat_eq_natCast, tq_not, fq_not, tq_and, fq_and, tq_or, fq_or, tq_beq, fq_beq, tq_bne, fq_bne, tq_dec, fq_dec, one1, V.tup.injEq, V.agg.injEq, List.cons.injEq, V.int.injEq, V.bool.injEq, true_and, and_true, decide_eq_true_eq, decide_eq_false_iff_not, Bool.and_eq_true, Bool.and_eq_false_iff, Bool.or_eq_true, Bool.or_eq_false_iff, Bool.not_eq_true', Bool.not_eq_false', beq_iff_eq, wrap_u32, wrap_i64, wrap_u8, beq_eq_false_iff_ne, ne_eq, bne_iff_ne, bne_eq_false_iff_eq, eq_self, and_self, splice, V.cells, List.take_succ_cons, List.take_zero, List.take_nil, List.drop_zero, List.drop_succ_cons, List.drop_nil, List.cons_append, List.nil_append, List.append_nil, List.length_cons, List.length_nil, Nat.zero_add, Nat.reduceAdd, if_true, if_false, Bool.false_eq_true, beq_self_eq_true, decide_eq_decide, Bool.true_eq_false, or_false, false_or, or_true, true_or, and_false, false_and, not_true_eq_false, not_false_eq_true, Bool.and_true, Bool.true_and, Bool.not_true, Bool.not_false] at *; omega)) ?_)
                   | (refine Exists.intro _ (Exists.intro _ (And.intro rfl ?_)))
                   | (refine Exists.intro _ (And.intro rfl ?_))
                   | (refine Exists.intro _ (Exists.intro _ (Exists.intro _ (Exists.intro _ (And.intro rfl ?_)))))
                   | (refine ld_step rfl (by assumption) rfl ?_)
                   | (refine lds_step rfl (by assumption) rfl ?_)
                   | (refine fL_mk ?_)
                   | (refine fH_mk ?_)
                   | (refine fN_mk ?_)
                   | (refine fLB_mk ?_)
                   | (refine And.intro (by repeat (first | assumption | refine GLB_app ?_)) ?_)
                   | (refine ld_step rfl ((rd_x0 _ _ _ _ _).trans rfl) rfl ?_)
                   | (refine ld_step rfl ((rd_x1 _ _ _ _ _ _).trans rfl) rfl ?_)
                   | (refine ld_step rfl ((rd_x2 _ _ _ _ _ _ _).trans rfl) rfl ?_)
                   | (refine lds_step rfl ((rd_x0 _ _ _ _ _).trans rfl) rfl ?_)
                   | (refine lds_step rfl ((rd_x1 _ _ _ _ _ _).trans rfl) rfl ?_)
                   | (refine lds_step rfl ((rd_x2 _ _ _ _ _ _ _).trans rfl) rfl ?_)
                   | (refine mem_step (st_eq rfl rfl rfl rfl (wr_last _ _ _ _ rfl)) ?_)
                   | (refine drec_yes (by omega) ?_)
                   | (refine drec_no (by omega) ?_)
                   | (intro _)
                   | fail)
          conv => whnf
          subst hz
          refine kn hlt _ _ _ _ _ rfl ⟨⟨w', X', ds ++ [⟨2, _, 32, _, _⟩], rfl, rfl, (by rw [List.flatMap_append]; exact hown'), ok_addD hok (by unfold okD; dsimp only; omega), by simp [hdl]⟩, rfl⟩
      · clear kn kr
        have h18 : i2 = 18 := by have := of_decide_eq_false h; omega
        subst h18
        refine kx _ _ _ _ _ _ ?_
        clear kx
        conv => whnf
        refine Halt.mk ?_
        obtain ⟨p, c, rfl, hc, hr⟩ := own_rowD hown
        rw [hdl]
        show rC _ _ r4_4 _ _ _ _ _ _
        refine rC_seqH ?_
        repeat' (conv => whnf
                 first
                 | (refine Stop.mk ?_)
                 | (refine fI_mk ?_)
                 | (refine fO_mk ?_)
                 | (refine fN_mk ?_)
                 | fail)
        conv => whnf
        refine rLoop_ctr (c := rC (tab [(7, s7), (9, s9), (10, s10), (12, s12)]) k l4_4) 40 7 (true :: false :: false :: false :: false :: false :: false :: false :: false :: false :: false :: false :: false :: false :: false :: false :: false :: false :: false :: false :: false :: false :: false :: false :: false :: false :: false :: false :: false :: false :: false :: false :: false :: false :: false :: false :: false :: false :: false :: false :: false :: false :: false :: false :: false :: false :: false :: false :: false :: false :: false :: false :: false :: false :: false :: false :: false :: false :: false :: true :: true :: true :: true :: true :: true :: true :: true :: true :: true :: true :: true :: true :: true :: true :: true :: true :: true :: false :: false :: false :: false :: false :: []) (fun i tm L H e g => (∃ Z, H = H1 ++ Y ++ Z) ∧ L = []) (by omega) rfl ⟨⟨[], (List.append_nil _).symm⟩, rfl⟩ ?_
        intro i4 hi4
        conv => whnf
        intro j
        conv => whnf
        intro j
        conv => whnf
        intro j
        conv => whnf
        intro j
        conv => whnf
        intro j
        conv => whnf
        intro j
        conv => whnf
        intro j
        conv => whnf
        intro j
        conv => whnf
        intro j
        conv => whnf
        intro j
        conv => whnf
        intro j
        conv => whnf
        intro j
        conv => whnf
        intro j
        conv => whnf
        intro j
        conv => whnf
        intro j
        conv => whnf
        intro j
        conv => whnf
        intro j
        conv => whnf
        intro j
        conv => whnf
        intro j
        conv => whnf
        refine Halt.mk ?_
        rintro L H' e g ⟨⟨Z, rfl⟩, rfl⟩ K kn kx kr
        repeat' (conv => whnf
                 first
                 | (refine Stop.mk ?_)
                 | (refine fI_mk ?_)
                 | (refine fO_mk ?_)
                 | (refine fN_mk ?_)
                 | fail)
        conv => whnf
        refine dec_split (fun h => ?_) (fun h => ?_)
        · have hlt : i4 < 40 := by have := of_decide_eq_true h; omega
          clear kx kr
          obtain ⟨b, o, rfl⟩ := hr.some (show 2 < ds.length by omega)
          have ea : ∀ Z p, p = o + 2 * 5 → rd (H1 ++ Y ++ Z) b p 5 = some (encD (ds[2]'(by omega))) := fun Z p hp => rd_app (rd_el encD_len hr 2 (by omega) p hp) Z
          have hod := hok (ds[2]'(by omega)) (List.getElem_mem _)
          obtain ⟨d, hdd⟩ : ∃ d, d = ds[2]'(by omega) := ⟨_, rfl⟩
          rw [← hdd] at hod
          have ea' : ∀ Z p, p = o + 2 * 5 → rd (H1 ++ Y ++ Z) b p 5 = some (encD d) := fun Z p hp => hdd ▸ ea Z p hp
          obtain ⟨dk, db, dn, dow, dli⟩ := d
          clear ea hdd
          repeat' (conv => whnf
                   first
                   | (refine Stop.mk ?_)
                   | (refine fI_u32b ?_; intro z hz)
                   | (refine fI_i64 (by first | omega | (simp only [Int.ofNat_eq_natCast] at *; omega)) ?_; intro z hz)
                   | (refine fI_u32 (by first | omega | (simp only [Int.ofNat_eq_natCast] at *; omega)) ?_; intro z hz)
                   | (refine fI_u8 (by first | omega | (simp only [Int.ofNat_eq_natCast] at *; omega)) ?_; intro z hz)
                   | (refine fI_u64 (by first | omega | (simp only [Int.ofNat_eq_natCast] at *; omega)) ?_; intro z hz)
                   | (refine fI_tdiv (by first | omega | (simp only [Int.ofNat_eq_natCast] at *; omega)) ?_; intro z hz)
                   | (refine fI_tmod (by first | omega | (simp only [Int.ofNat_eq_natCast] at *; omega)) ?_; intro z hz)
                   | (refine fI_gen ?_; intro z hz)
                   | (refine fO_gen ?_; intro z hz)
                   | (refine pure_step (ixs_eq rfl rfl (by decide) (by decide)) ?_)
                   | (refine ld_step rfl (ea' _ _ (by first | omega | rfl)) rfl ?_)
                   | (refine And.intro (by omega) (And.intro (by repeat (first | assumption | refine GLB_app ?_)) (Exists.intro [⟨dk, db, dn, dow, dli⟩, ⟨1, _, 8, 0, 0⟩] (And.intro rfl (And.intro (by simp) (And.intro (by intro d hd; simp only [List.mem_cons, List.not_mem_nil, or_false] at hd; rcases hd with rfl | rfl; exact hod; (unfold okD; dsimp only; omega)) (And.intro ((rd_x0 _ _ _ _ _).trans rfl) ?_)))))))
                   | (refine dec_true (by assumption) ?_)
                   | (refine dec_false (by assumption) ?_)
                   | ((with_reducible refine dec_trueH ?tst ?_); (case tst => (first | rfl | ((try clear hC); (try clear kn); (try clear kx); (try clear kr); (try clear kn1); (try clear kx1); (try clear kr1); (try clear kn2); (try clear kx2); (try clear kr2); (try clear kn3); (try clear kx3); (try clear kr3); subst_vars; simp only [Int.ofNat_eq_natCast, tq_not, fq_not, tq_and, fq_and, tq_or, fq_or, tq_beq, fq_beq, tq_bne, fq_bne, tq_dec, fq_dec, one1, V.tup.injEq, V.agg.injEq, List.cons.injEq, V.int.injEq, V.bool.injEq, true_and, and_true, decide_eq_true_eq, decide_eq_false_iff_not, Bool.and_eq_true, Bool.and_eq_false_iff, Bool.or_eq_true, Bool.or_eq_false_iff, Bool.not_eq_true', Bool.not_eq_false', beq_iff_eq, wrap_u32, wrap_i64, wrap_u8, beq_eq_false_iff_ne, ne_eq, bne_iff_ne, bne_eq_false_iff_eq, eq_self, and_self, splice, V.cells, List.take_succ_cons, List.take_zero, List.take_nil, List.drop_zero, List.drop_succ_cons, List.drop_nil, List.cons_append, List.nil_append, List.append_nil, List.length_cons, List.length_nil, Nat.zero_add, Nat.reduceAdd, if_true, if_false, Bool.false_eq_true, beq_self_eq_true, decide_eq_decide, Bool.true_eq_false, or_false, false_or, or_true, true_or, and_false, false_and, not_true_eq_false, not_false_eq_true, Bool.and_true, Bool.true_and, Bool.not_true, Bool.not_false] at *; first | done | assumption | omega))); intro h)
                   | ((with_reducible refine dec_falseH ?tst ?_); (case tst => (first | rfl | ((try clear hC); (try clear kn); (try clear kx); (try clear kr); (try clear kn1); (try clear kx1); (try clear kr1); (try clear kn2); (try clear kx2); (try clear kr2); (try clear kn3); (try clear kx3); (try clear kr3); subst_vars; simp only [Int.ofNat_eq_natCast, tq_not, fq_not, tq_and, fq_and, tq_or, fq_or, tq_beq, fq_beq, tq_bne, fq_bne, tq_dec, fq_dec, one1, V.tup.injEq, V.agg.injEq, List.cons.injEq, V.int.injEq, V.bool.injEq, true_and, and_true, decide_eq_true_eq, decide_eq_false_iff_not, Bool.and_eq_true, Bool.and_eq_false_iff, Bool.or_eq_true, Bool.or_eq_false_iff, Bool.not_eq_true', Bool.not_eq_false', beq_iff_eq, wrap_u32, wrap_i64, wrap_u8, beq_eq_false_iff_ne, ne_eq, bne_iff_ne, bne_eq_false_iff_eq, eq_self, and_self, splice, V.cells, List.take_succ_cons, List.take_zero, List.take_nil, List.drop_zero, List.drop_succ_cons, List.drop_nil, List.cons_append, List.nil_append, List.append_nil, List.length_cons, List.length_nil, Nat.zero_add, Nat.reduceAdd, if_true, if_false, Bool.false_eq_true, beq_self_eq_true, decide_eq_decide, Bool.true_eq_false, or_false, false_or, or_true, true_or, and_false, false_and, not_true_eq_false, not_false_eq_true, Bool.and_true, Bool.true_and, Bool.not_true, Bool.not_false] at *; first | done | assumption | omega))); intro h)
                   | (refine dec_split (fun h => ?_) (fun h => ?_))
                   | (apply silE)
                   | (refine Both.mk ?_ ?_)
                   | (refine And.intro rfl ?_)
                   | (exact And.intro rfl (And.intro rfl (And.intro rfl rfl)))
                   | (refine And.intro (by first | omega | ((simp only [decide_eq_true_eq, decide_eq_false_iff_not, Bool.and_eq_true, beq_iff_eq, Bool.not_eq_true', Bool.not_eq_false'] at *); omega) | (subst_vars; simp only [Int.ofNat_eq_natCast, tq_not, fq_not, tq_and, fq_and, tq_or, fq_or, tq_beq, fq_beq, tq_bne, fq_bne, tq_dec, fq_dec, one1, V.tup.injEq, V.agg.injEq, List.cons.injEq, V.int.injEq, V.bool.injEq, true_and, and_true, decide_eq_true_eq, decide_eq_false_iff_not, Bool.and_eq_true, Bool.and_eq_false_iff, Bool.or_eq_true, Bool.or_eq_false_iff, Bool.not_eq_true', Bool.not_eq_false', beq_iff_eq, wrap_u32, wrap_i64, wrap_u8, beq_eq_false_iff_ne, ne_eq, bne_iff_ne, bne_eq_false_iff_eq, eq_self, and_self, splice, V.cells, List.take_succ_cons, List.take_zero, List.take_nil, List.drop_zero, List.drop_succ_cons, List.drop_nil, List.cons_append, List.nil_append, List.append_nil, List.length_cons, List.length_nil, Nat.zero_add, Nat.reduceAdd, if_true, if_false, Bool.false_eq_true, beq_self_eq_true, decide_eq_decide, Bool.true_eq_false, or_false, false_or, or_true, true_or, and_false, false_and, not_true_eq_false, not_false_eq_true, Bool.and_true, Bool.true_and, Bool.not_true, Bool.not_false] at *; omega)) ?_)
                   | (refine Exists.intro _ (Exists.intro _ (And.intro rfl ?_)))
                   | (refine Exists.intro _ (And.intro rfl ?_))
                   | (refine Exists.intro _ (Exists.intro _ (Exists.intro _ (Exists.intro _ (And.intro rfl ?_)))))
                   | (refine ld_step rfl (by assumption) rfl ?_)
                   | (refine lds_step rfl (by assumption) rfl ?_)
                   | (refine fL_mk ?_)
                   | (refine fH_mk ?_)
                   | (refine fN_mk ?_)
                   | (refine fLB_mk ?_)
                   | (refine And.intro (by repeat (first | assumption | refine GLB_app ?_)) ?_)
                   | (refine ld_step rfl ((rd_x0 _ _ _ _ _).trans rfl) rfl ?_)
                   | (refine ld_step rfl ((rd_x1 _ _ _ _ _ _).trans rfl) rfl ?_)
                   | (refine ld_step rfl ((rd_x2 _ _ _ _ _ _ _).trans rfl) rfl ?_)
                   | (refine lds_step rfl ((rd_x0 _ _ _ _ _).trans rfl) rfl ?_)
                   | (refine lds_step rfl ((rd_x1 _ _ _ _ _ _).trans rfl) rfl ?_)
                   | (refine lds_step rfl ((rd_x2 _ _ _ _ _ _ _).trans rfl) rfl ?_)
                   | (refine mem_step (st_eq rfl rfl rfl rfl (wr_last _ _ _ _ rfl)) ?_)
                   | (refine drec_yes (by omega) ?_)
                   | (refine drec_no (by omega) ?_)
                   | (intro _)
                   | fail)
          conv => whnf
          subst hz
          exact kn hlt _ _ _ _ _ rfl ⟨⟨_, List.append_assoc _ _ _⟩, rfl⟩
        · clear kn kr
          have hq0 : Q (.bool true) H1 false false := by have := hq [] false false; rwa [List.append_nil] at this
          have hqz : ∀ e g, Q (.bool true) (H1 ++ Y ++ Z) e g := fun e g => by have := hq (Y ++ Z) e g; rwa [← List.append_assoc] at this
          cases e
          all_goals cases g
          all_goals
            refine kx _ _ _ _ _ _ ?_
            conv => whnf
            refine Halt.mk ?_
            repeat' (conv => whnf
                     first
                     | (refine Stop.mk ?_)
                     | (refine fI_gen ?_; intro z hz)
                     | (refine fO_gen ?_; intro z hz)
                     | (refine And.intro (by omega) (And.intro (by repeat (first | assumption | refine GLB_app ?_)) (Exists.intro [] (And.intro rfl (And.intro (by simp) (And.intro (by simp) (And.intro rfl ?_)))))))
                     | (refine dec_true (by assumption) ?_)
                     | (refine dec_false (by assumption) ?_)
                     | ((with_reducible refine dec_trueH ?tst ?_); (case tst => (first | rfl | ((try clear hC); (try clear kn); (try clear kx); (try clear kr); (try clear kn1); (try clear kx1); (try clear kr1); (try clear kn2); (try clear kx2); (try clear kr2); (try clear kn3); (try clear kx3); (try clear kr3); subst_vars; simp only [Int.ofNat_eq_natCast, tq_not, fq_not, tq_and, fq_and, tq_or, fq_or, tq_beq, fq_beq, tq_bne, fq_bne, tq_dec, fq_dec, one1, V.tup.injEq, V.agg.injEq, List.cons.injEq, V.int.injEq, V.bool.injEq, true_and, and_true, decide_eq_true_eq, decide_eq_false_iff_not, Bool.and_eq_true, Bool.and_eq_false_iff, Bool.or_eq_true, Bool.or_eq_false_iff, Bool.not_eq_true', Bool.not_eq_false', beq_iff_eq, wrap_u32, wrap_i64, wrap_u8, beq_eq_false_iff_ne, ne_eq, bne_iff_ne, bne_eq_false_iff_eq, eq_self, and_self, splice, V.cells, List.take_succ_cons, List.take_zero, List.take_nil, List.drop_zero, List.drop_succ_cons, List.drop_nil, List.cons_append, List.nil_append, List.append_nil, List.length_cons, List.length_nil, Nat.zero_add, Nat.reduceAdd, if_true, if_false, Bool.false_eq_true, beq_self_eq_true, decide_eq_decide, Bool.true_eq_false, or_false, false_or, or_true, true_or, and_false, false_and, not_true_eq_false, not_false_eq_true, Bool.and_true, Bool.true_and, Bool.not_true, Bool.not_false] at *; first | done | assumption | omega))); intro h)
                     | ((with_reducible refine dec_falseH ?tst ?_); (case tst => (first | rfl | ((try clear hC); (try clear kn); (try clear kx); (try clear kr); (try clear kn1); (try clear kx1); (try clear kr1); (try clear kn2); (try clear kx2); (try clear kr2); (try clear kn3); (try clear kx3); (try clear kr3); subst_vars; simp only [Int.ofNat_eq_natCast, tq_not, fq_not, tq_and, fq_and, tq_or, fq_or, tq_beq, fq_beq, tq_bne, fq_bne, tq_dec, fq_dec, one1, V.tup.injEq, V.agg.injEq, List.cons.injEq, V.int.injEq, V.bool.injEq, true_and, and_true, decide_eq_true_eq, decide_eq_false_iff_not, Bool.and_eq_true, Bool.and_eq_false_iff, Bool.or_eq_true, Bool.or_eq_false_iff, Bool.not_eq_true', Bool.not_eq_false', beq_iff_eq, wrap_u32, wrap_i64, wrap_u8, beq_eq_false_iff_ne, ne_eq, bne_iff_ne, bne_eq_false_iff_eq, eq_self, and_self, splice, V.cells, List.take_succ_cons, List.take_zero, List.take_nil, List.drop_zero, List.drop_succ_cons, List.drop_nil, List.cons_append, List.nil_append, List.append_nil, List.length_cons, List.length_nil, Nat.zero_add, Nat.reduceAdd, if_true, if_false, Bool.false_eq_true, beq_self_eq_true, decide_eq_decide, Bool.true_eq_false, or_false, false_or, or_true, true_or, and_false, false_and, not_true_eq_false, not_false_eq_true, Bool.and_true, Bool.true_and, Bool.not_true, Bool.not_false] at *; first | done | assumption | omega))); intro h)
                     | (refine dec_split (fun h => ?_) (fun h => ?_))
                     | (apply silE)
                     | (refine Both.mk ?_ ?_)
                     | (refine And.intro rfl ?_)
                     | (exact And.intro rfl (And.intro rfl (And.intro rfl rfl)))
                     | (refine And.intro (by first | omega | ((simp only [decide_eq_true_eq, decide_eq_false_iff_not, Bool.and_eq_true, beq_iff_eq, Bool.not_eq_true', Bool.not_eq_false'] at *); omega) | (subst_vars; simp only [Int.ofNat_eq_natCast, tq_not, fq_not, tq_and, fq_and, tq_or, fq_or, tq_beq, fq_beq, tq_bne, fq_bne, tq_dec, fq_dec, one1, V.tup.injEq, V.agg.injEq, List.cons.injEq, V.int.injEq, V.bool.injEq, true_and, and_true, decide_eq_true_eq, decide_eq_false_iff_not, Bool.and_eq_true, Bool.and_eq_false_iff, Bool.or_eq_true, Bool.or_eq_false_iff, Bool.not_eq_true', Bool.not_eq_false', beq_iff_eq, wrap_u32, wrap_i64, wrap_u8, beq_eq_false_iff_ne, ne_eq, bne_iff_ne, bne_eq_false_iff_eq, eq_self, and_self, splice, V.cells, List.take_succ_cons, List.take_zero, List.take_nil, List.drop_zero, List.drop_succ_cons, List.drop_nil, List.cons_append, List.nil_append, List.append_nil, List.length_cons, List.length_nil, Nat.zero_add, Nat.reduceAdd, if_true, if_false, Bool.false_eq_true, beq_self_eq_true, decide_eq_decide, Bool.true_eq_false, or_false, false_or, or_true, true_or, and_false, false_and, not_true_eq_false, not_false_eq_true, Bool.and_true, Bool.true_and, Bool.not_true, Bool.not_false] at *; omega)) ?_)
                     | (refine Exists.intro _ (Exists.intro _ (And.intro rfl ?_)))
                     | (refine Exists.intro _ (And.intro rfl ?_))
                     | (refine Exists.intro _ (Exists.intro _ (Exists.intro _ (Exists.intro _ (And.intro rfl ?_)))))
                     | (refine ld_step rfl (by assumption) rfl ?_)
                     | (refine lds_step rfl (by assumption) rfl ?_)
                     | (refine fL_mk ?_)
                     | (refine fH_mk ?_)
                     | (refine fN_mk ?_)
                     | (refine fLB_mk ?_)
                     | (refine And.intro (by repeat (first | assumption | refine GLB_app ?_)) ?_)
                     | (refine ld_step rfl ((rd_x0 _ _ _ _ _).trans rfl) rfl ?_)
                     | (refine ld_step rfl ((rd_x1 _ _ _ _ _ _).trans rfl) rfl ?_)
                     | (refine ld_step rfl ((rd_x2 _ _ _ _ _ _ _).trans rfl) rfl ?_)
                     | (refine lds_step rfl ((rd_x0 _ _ _ _ _).trans rfl) rfl ?_)
                     | (refine lds_step rfl ((rd_x1 _ _ _ _ _ _).trans rfl) rfl ?_)
                     | (refine lds_step rfl ((rd_x2 _ _ _ _ _ _ _).trans rfl) rfl ?_)
                     | (refine mem_step (st_eq rfl rfl rfl rfl (wr_last _ _ _ _ rfl)) ?_)
                     | (refine drec_yes (by omega) ?_)
                     | (refine drec_no (by omega) ?_)
                     | (intro _)
                     | fail)
            conv => whnf
            first
            | exact leafE (hqz _ _) rfl
            | exact leafH hq0 rfl (take_app2 H1 Y Z)
  · exact hs.elim
end Go.Ev
