/- dev: LaneMasks -/
import Derived.Test.YtkheaekokmomhaaDoorKlawe
import Derived.Test.YtkheaekokmomhaaDoorKmasks
set_option linter.all false
namespace Go.Ev
open Go Go.Proofs
set_option maxRecDepth 4000
set_option maxHeartbeats 4000000
def svAt : List SV → Nat → SV
  | [], _ => undefV
  | x :: _, 0 => x
  | _ :: l, n + 1 => svAt l n
theorem pow_bd {v : Int} (h : 0 ≤ v ∧ v < 4294967296) (i : Nat) : 0 ≤ v % 256 ^ i ∧ v % 256 ^ i < 4294967296 := by
  have h1 : (0 : Int) < 256 ^ i := Int.pow_pos (by decide)
  have h2 := Int.emod_nonneg v (Int.ne_of_gt h1)
  have h3 : v % 256 ^ i ≤ v := by
    rw [Int.emod_def]
    have h4 := Int.ediv_nonneg h.1 (Int.le_of_lt h1)
    have h5 := Int.mul_nonneg (Int.le_of_lt h1) h4
    omega
  omega
theorem fI_u32w {f : Nat} {n : Int} {K : Int → Prop} (k : K (n % 4294967296)) : fI f (IntKind.u32.wrap n) K := (fI_eq f _ K).mpr k
theorem take_bd {i v : Int} (hv : 0 ≤ v ∧ v < 4294967296) : 0 ≤ takeV 1 i v ∧ takeV 1 i v < 4294967296 := by
  unfold takeV
  rw [show qn 1 = 256 from rfl]
  omega
theorem fI_is {f : Nat} {a b : Int} {K : Int → Prop} (h : a = b) (k : K b) : fI f a K := (fI_eq f a K).mpr (h ▸ k)
theorem fO_is {f : Nat} {a b : Bool} {K : Bool → Prop} (h : a = b) (k : K b) : fO f a K := (fO_eq f a K).mpr (h ▸ k)
theorem rd_ro (H : List B) (cs : List V) (x n : Nat) : rd (H ++ [.ro cs]) H.length x n = cut cs x n := by
  unfold rd; rw [List.getElem?_concat_length]; rfl
theorem ld_ro {tm : List SV} {L : List LB} {H : List B} {e g : Bool} {x : Opd} {K : KV} {cs : List V} {o : Nat} {v : V} (hx : x.ev tm = .v (.ptr (some (H.length, o)))) (hc : cs[o]? = some v) (hK : K (.v v) L (H ++ [.ro cs]) e g) :
    (match memOp tm L (H ++ [.ro cs]) e g (.ld false 1 x) with
      | some (v, L', H', e', g') => K v L' H' e' g'
      | none => False) := by
  obtain ⟨ho, rfl⟩ := List.getElem?_eq_some_iff.1 hc
  have h1 : rd (H ++ [.ro cs]) H.length o 1 = some [cs[o]] := by
    rw [rd_ro]
    unfold cut
    rw [if_pos (by omega), List.drop_eq_getElem_cons ho]
    rfl
  simp only [memOp, hx, h1, unV]
  exact hK
theorem lds_ro {tm : List SV} {L : List LB} {H : List B} {e g : Bool} {x : Opd} {K : SV → Prop} {cs : List V} {o : Nat} {v : V} (hx : x.ev tm = .v (.ptr (some (H.length, o)))) (hc : cs[o]? = some v) (hK : K (.v v)) :
    (match memOp tm L (H ++ [.ro cs]) e g (.ld false 1 x) with
      | some (v, _) => K v
      | none => False) := by
  have := ld_ro (L := L) (e := e) (g := g) (K := fun v _ _ _ _ => K v) hx hc hK
  split at this <;> simp_all
theorem al_one {i : Int} : alP 1 i := ⟨Or.inl rfl, by omega⟩
def s7 : Sp := fun vs H Q => match vs with
  | [.int .u32 v, .int .u32 a, .int .i64 n] => ((0 ≤ v ∧ v < 4294967296) ∧ (0 ≤ a ∧ a < 4294967296) ∧ (-9223372036854775808 ≤ n ∧ n < 9223372036854775808)) ∧ GLB H ∧ Q (.bool true) H false false
  | _ => False
theorem k7 : Snd Tryd.prog 2 7 s7 := by
  refine snd_of_ev (by kernel_rfl) (C := tab [(12, s12), (14, s14), (15, s15), (17, s17), (19, s19), (20, s20)]) (sndC_cons k12 (sndC_cons k14 (sndC_cons k15 (sndC_cons k17 (sndC_cons k19 (sndC_cons k20 (sndC_nil))))))) x7 n7 c7 50 ?_
  have hC : MonoC (tab [(12, s12), (14, s14), (15, s15), (17, s17), (19, s19), (20, s20)]) := monoC_cons m12 (monoC_cons m14 (monoC_cons m15 (monoC_cons m17 (monoC_cons m19 (monoC_cons m20 (monoC_nil))))))
  intro vs Hx Q hs
  unfold s7 at hs
  split at hs
  · rename_i v a n
    obtain ⟨hp, hg, hq⟩ := hs
    suffices hh : ∀ k, 10 < k → evFun (tab [(12, s12), (14, s14), (15, s15), (17, s17), (19, s19), (20, s20)]) k e7 [.int .u32 v, .int .u32 a, .int .i64 n] Hx Q from hh _ (by omega)
    intro k hk
    refine evFun_in (tm := SV.v (.int .u32 v) :: SV.v (.int .u32 a) :: SV.v (.int .i64 n) :: undefV :: undefV :: undefV :: undefV :: undefV :: undefV :: undefV :: undefV :: undefV :: undefV :: undefV :: undefV :: undefV :: undefV :: undefV :: undefV :: undefV :: undefV :: undefV :: undefV :: undefV :: undefV :: undefV :: undefV :: undefV :: undefV :: undefV :: undefV :: undefV :: undefV :: undefV :: undefV :: undefV :: undefV :: undefV :: undefV :: undefV :: undefV :: undefV :: undefV :: undefV :: undefV :: undefV :: undefV :: undefV :: undefV :: undefV :: undefV :: undefV :: undefV :: undefV :: undefV :: undefV :: undefV :: undefV :: undefV :: undefV :: undefV :: undefV :: undefV :: undefV :: undefV :: undefV :: undefV :: undefV :: undefV :: undefV :: undefV :: undefV :: undefV :: undefV :: undefV :: undefV :: undefV :: undefV :: undefV :: undefV :: undefV :: undefV :: undefV :: undefV :: undefV :: undefV :: undefV :: undefV :: undefV :: undefV :: undefV :: undefV :: undefV :: undefV :: undefV :: undefV :: undefV :: undefV :: undefV :: undefV :: undefV :: undefV :: undefV :: undefV :: undefV :: undefV :: undefV :: undefV :: undefV :: undefV :: []) rfl ?_
    show rC _ _ r7_0 _ _ _ _ _ _
    by_cases ha : alP n a
    · have f5 : 0 ≤ lanesV n a ∧ lanesV n a < 4294967296 := by unfold lanesV; (repeat' split) <;> omega
      obtain ⟨f1, f2, f3, f4, f6, f7⟩ := masks_facts ha hp.2.1.1
      have hb : alP n ((a + 4) % 4294967296) := (al_next hp.2.1).2 ha
      have hl : lanesV n ((a + 4) % 4294967296) = lanesV n a := lanes_next hp.2.1
      have hv : (if alP n ((a + 4) % 4294967296) then lanesV n ((a + 4) % 4294967296) else 0) = lanesV n a := (if_pos hb).trans hl
      have hgt : decide (lanesV n a > 15) = false := decide_eq_false (by omega)
      refine rC_seqH ?_
      repeat' (conv => whnf
               first
               | (refine Stop.mk ?_)
               | (refine fI_gen ?_; intro z hz)
               | (refine fO_gen ?_; intro z hz)
               | (refine dec_true (by assumption) ?_)
               | (refine dec_false (by assumption) ?_)
               | (refine dec_split (fun h => ?_) (fun h => ?_))
               | (apply silE)
               | (exact And.intro rfl (And.intro rfl (And.intro rfl rfl)))
               | (refine And.intro (by first | omega | ((simp only [decide_eq_true_eq, decide_eq_false_iff_not, Bool.and_eq_true, beq_iff_eq, Bool.not_eq_true', Bool.not_eq_false'] at *); omega) | (subst_vars; simp only [Int.ofNat_eq_natCast, tq_not, fq_not, tq_and, fq_and, tq_or, fq_or, tq_beq, fq_beq, tq_bne, fq_bne, tq_dec, fq_dec, one1, V.tup.injEq, V.agg.injEq, List.cons.injEq, V.int.injEq, V.bool.injEq, true_and, and_true, decide_eq_true_eq, decide_eq_false_iff_not, Bool.and_eq_true, Bool.and_eq_false_iff, Bool.or_eq_true, Bool.or_eq_false_iff, Bool.not_eq_true', Bool.not_eq_false', beq_iff_eq, wrap_u32, wrap_i64, wrap_u8, beq_eq_false_iff_ne, ne_eq, bne_iff_ne, bne_eq_false_iff_eq, eq_self, and_self, splice, V.cells, List.take_succ_cons, List.take_zero, List.take_nil, List.drop_zero, List.drop_succ_cons, List.drop_nil, List.cons_append, List.nil_append, List.append_nil, List.length_cons, List.length_nil, Nat.zero_add, Nat.reduceAdd, if_true, if_false, Bool.false_eq_true, beq_self_eq_true, decide_eq_decide, Bool.true_eq_false, or_false, false_or, or_true, true_or, and_false, false_and, not_true_eq_false, not_false_eq_true, Bool.and_true, Bool.true_and, Bool.not_true, Bool.not_false] at *; omega)) ?_)
               | (refine Exists.intro _ (Exists.intro _ (And.intro rfl ?_)))
               | (refine Exists.intro _ (And.intro rfl ?_))
               | (refine Exists.intro _ (Exists.intro _ (Exists.intro _ (Exists.intro _ (And.intro rfl ?_)))))
               | (refine ld_step rfl (by assumption) rfl ?_)
               | (refine lds_step rfl (by assumption) rfl ?_)
               | (refine fL_mk ?_)
               | (refine fH_mk ?_)
               | (refine fN_mk ?_)
               | (refine fLB_mk ?_)
               | (refine And.intro (by repeat (first | assumption | refine GLB_app ?_)) ?_)
               | (refine ld_step rfl ((rd_x0 _ _ _ _ _).trans rfl) rfl ?_)
               | (refine ld_step rfl ((rd_x1 _ _ _ _ _ _).trans rfl) rfl ?_)
               | (refine ld_step rfl ((rd_x2 _ _ _ _ _ _ _).trans rfl) rfl ?_)
               | (refine lds_step rfl ((rd_x0 _ _ _ _ _).trans rfl) rfl ?_)
               | (refine lds_step rfl ((rd_x1 _ _ _ _ _ _).trans rfl) rfl ?_)
               | (refine lds_step rfl ((rd_x2 _ _ _ _ _ _ _).trans rfl) rfl ?_)
               | (refine mem_step (st_eq rfl rfl rfl rfl (wr_last _ _ _ _ rfl)) ?_)
               | (refine drec_yes (by omega) ?_)
               | (refine drec_no (by omega) ?_)
               | (intro _)
               | fail)
      any_goals refine Halt.mk ?_
      any_goals show rC _ _ r7_1 _ _ _ _ _ _
      refine rC_seqH ?_
      repeat' (conv => whnf
               first
               | (refine Stop.mk ?_)
               | (refine fI_gen ?_; intro z hz)
               | (refine fO_gen ?_; intro z hz)
               | (refine dec_true (by assumption) ?_)
               | (refine dec_false (by assumption) ?_)
               | (refine dec_split (fun h => ?_) (fun h => ?_))
               | (apply silE)
               | (exact And.intro rfl (And.intro rfl (And.intro rfl rfl)))
               | (refine And.intro (by first | omega | ((simp only [decide_eq_true_eq, decide_eq_false_iff_not, Bool.and_eq_true, beq_iff_eq, Bool.not_eq_true', Bool.not_eq_false'] at *); omega) | (subst_vars; simp only [Int.ofNat_eq_natCast, tq_not, fq_not, tq_and, fq_and, tq_or, fq_or, tq_beq, fq_beq, tq_bne, fq_bne, tq_dec, fq_dec, one1, V.tup.injEq, V.agg.injEq, List.cons.injEq, V.int.injEq, V.bool.injEq, true_and, and_true, decide_eq_true_eq, decide_eq_false_iff_not, Bool.and_eq_true, Bool.and_eq_false_iff, Bool.or_eq_true, Bool.or_eq_false_iff, Bool.not_eq_true', Bool.not_eq_false', beq_iff_eq, wrap_u32, wrap_i64, wrap_u8, beq_eq_false_iff_ne, ne_eq, bne_iff_ne, bne_eq_false_iff_eq, eq_self, and_self, splice, V.cells, List.take_succ_cons, List.take_zero, List.take_nil, List.drop_zero, List.drop_succ_cons, List.drop_nil, List.cons_append, List.nil_append, List.append_nil, List.length_cons, List.length_nil, Nat.zero_add, Nat.reduceAdd, if_true, if_false, Bool.false_eq_true, beq_self_eq_true, decide_eq_decide, Bool.true_eq_false, or_false, false_or, or_true, true_or, and_false, false_and, not_true_eq_false, not_false_eq_true, Bool.and_true, Bool.true_and, Bool.not_true, Bool.not_false] at *; omega)) ?_)
               | (refine Exists.intro _ (Exists.intro _ (And.intro rfl ?_)))
               | (refine Exists.intro _ (And.intro rfl ?_))
               | (refine Exists.intro _ (Exists.intro _ (Exists.intro _ (Exists.intro _ (And.intro rfl ?_)))))
               | (refine ld_step rfl (by assumption) rfl ?_)
               | (refine lds_step rfl (by assumption) rfl ?_)
               | (refine fL_mk ?_)
               | (refine fH_mk ?_)
               | (refine fN_mk ?_)
               | (refine fLB_mk ?_)
               | (refine And.intro (by repeat (first | assumption | refine GLB_app ?_)) ?_)
               | (refine ld_step rfl ((rd_x0 _ _ _ _ _).trans rfl) rfl ?_)
               | (refine ld_step rfl ((rd_x1 _ _ _ _ _ _).trans rfl) rfl ?_)
               | (refine ld_step rfl ((rd_x2 _ _ _ _ _ _ _).trans rfl) rfl ?_)
               | (refine lds_step rfl ((rd_x0 _ _ _ _ _).trans rfl) rfl ?_)
               | (refine lds_step rfl ((rd_x1 _ _ _ _ _ _).trans rfl) rfl ?_)
               | (refine lds_step rfl ((rd_x2 _ _ _ _ _ _ _).trans rfl) rfl ?_)
               | (refine mem_step (st_eq rfl rfl rfl rfl (wr_last _ _ _ _ rfl)) ?_)
               | (refine drec_yes (by omega) ?_)
               | (refine drec_no (by omega) ?_)
               | (intro _)
               | fail)
      any_goals refine Halt.mk ?_
      any_goals show rC _ _ r7_2 _ _ _ _ _ _
      refine rC_seqH ?_
      repeat' (conv => whnf
               first
               | (refine Stop.mk ?_)
               | (refine fI_is (if_pos ha) ?_)
               | (refine fO_is (decide_eq_true ha) ?_)
               | (refine fI_gen ?_; intro z hz)
               | (refine fO_gen ?_; intro z hz)
               | (refine dec_true (by assumption) ?_)
               | (refine dec_false (by assumption) ?_)
               | (refine dec_split (fun h => ?_) (fun h => ?_))
               | (apply silE)
               | (exact And.intro rfl (And.intro rfl (And.intro rfl rfl)))
               | (refine And.intro (by first | omega | ((simp only [decide_eq_true_eq, decide_eq_false_iff_not, Bool.and_eq_true, beq_iff_eq, Bool.not_eq_true', Bool.not_eq_false'] at *); omega) | (subst_vars; simp only [Int.ofNat_eq_natCast, tq_not, fq_not, tq_and, fq_and, tq_or, fq_or, tq_beq, fq_beq, tq_bne, fq_bne, tq_dec, fq_dec, one1, V.tup.injEq, V.agg.injEq, List.cons.injEq, V.int.injEq, V.bool.injEq, true_and, and_true, decide_eq_true_eq, decide_eq_false_iff_not, Bool.and_eq_true, Bool.and_eq_false_iff, Bool.or_eq_true, Bool.or_eq_false_iff, Bool.not_eq_true', Bool.not_eq_false', beq_iff_eq, wrap_u32, wrap_i64, wrap_u8, beq_eq_false_iff_ne, ne_eq, bne_iff_ne, bne_eq_false_iff_eq, eq_self, and_self, splice, V.cells, List.take_succ_cons, List.take_zero, List.take_nil, List.drop_zero, List.drop_succ_cons, List.drop_nil, List.cons_append, List.nil_append, List.append_nil, List.length_cons, List.length_nil, Nat.zero_add, Nat.reduceAdd, if_true, if_false, Bool.false_eq_true, beq_self_eq_true, decide_eq_decide, Bool.true_eq_false, or_false, false_or, or_true, true_or, and_false, false_and, not_true_eq_false, not_false_eq_true, Bool.and_true, Bool.true_and, Bool.not_true, Bool.not_false] at *; omega)) ?_)
               | (refine Exists.intro _ (Exists.intro _ (And.intro rfl ?_)))
               | (refine Exists.intro _ (And.intro rfl ?_))
               | (refine Exists.intro _ (Exists.intro _ (Exists.intro _ (Exists.intro _ (And.intro rfl ?_)))))
               | (refine ld_step rfl (by assumption) rfl ?_)
               | (refine lds_step rfl (by assumption) rfl ?_)
               | (refine fL_mk ?_)
               | (refine fH_mk ?_)
               | (refine fN_mk ?_)
               | (refine fLB_mk ?_)
               | (refine And.intro (by repeat (first | assumption | refine GLB_app ?_)) ?_)
               | (refine ld_step rfl ((rd_x0 _ _ _ _ _).trans rfl) rfl ?_)
               | (refine ld_step rfl ((rd_x1 _ _ _ _ _ _).trans rfl) rfl ?_)
               | (refine ld_step rfl ((rd_x2 _ _ _ _ _ _ _).trans rfl) rfl ?_)
               | (refine lds_step rfl ((rd_x0 _ _ _ _ _).trans rfl) rfl ?_)
               | (refine lds_step rfl ((rd_x1 _ _ _ _ _ _).trans rfl) rfl ?_)
               | (refine lds_step rfl ((rd_x2 _ _ _ _ _ _ _).trans rfl) rfl ?_)
               | (refine mem_step (st_eq rfl rfl rfl rfl (wr_last _ _ _ _ rfl)) ?_)
               | (refine drec_yes (by omega) ?_)
               | (refine drec_no (by omega) ?_)
               | (intro _)
               | fail)
      any_goals refine Halt.mk ?_
      any_goals show rC _ _ r7_3 _ _ _ _ _ _
      refine rC_seqH ?_
      repeat' (conv => whnf
               first
               | (refine Stop.mk ?_)
               | (refine fI_is hv ?_)
               | (refine fO_is (decide_eq_true hb) ?_)
               | (with_reducible refine fI_u32w ?_)
               | (refine fI_gen ?_; intro z hz)
               | (refine fO_gen ?_; intro z hz)
               | (refine And.intro ⟨by omega, by omega⟩ ?_)
               | (refine dec_true (by assumption) ?_)
               | (refine dec_false (by assumption) ?_)
               | (refine dec_split (fun h => ?_) (fun h => ?_))
               | (apply silE)
               | (exact And.intro rfl (And.intro rfl (And.intro rfl rfl)))
               | (refine And.intro (by first | omega | ((simp only [decide_eq_true_eq, decide_eq_false_iff_not, Bool.and_eq_true, beq_iff_eq, Bool.not_eq_true', Bool.not_eq_false'] at *); omega) | (subst_vars; simp only [Int.ofNat_eq_natCast, tq_not, fq_not, tq_and, fq_and, tq_or, fq_or, tq_beq, fq_beq, tq_bne, fq_bne, tq_dec, fq_dec, one1, V.tup.injEq, V.agg.injEq, List.cons.injEq, V.int.injEq, V.bool.injEq, true_and, and_true, decide_eq_true_eq, decide_eq_false_iff_not, Bool.and_eq_true, Bool.and_eq_false_iff, Bool.or_eq_true, Bool.or_eq_false_iff, Bool.not_eq_true', Bool.not_eq_false', beq_iff_eq, wrap_u32, wrap_i64, wrap_u8, beq_eq_false_iff_ne, ne_eq, bne_iff_ne, bne_eq_false_iff_eq, eq_self, and_self, splice, V.cells, List.take_succ_cons, List.take_zero, List.take_nil, List.drop_zero, List.drop_succ_cons, List.drop_nil, List.cons_append, List.nil_append, List.append_nil, List.length_cons, List.length_nil, Nat.zero_add, Nat.reduceAdd, if_true, if_false, Bool.false_eq_true, beq_self_eq_true, decide_eq_decide, Bool.true_eq_false, or_false, false_or, or_true, true_or, and_false, false_and, not_true_eq_false, not_false_eq_true, Bool.and_true, Bool.true_and, Bool.not_true, Bool.not_false] at *; omega)) ?_)
               | (refine Exists.intro _ (Exists.intro _ (And.intro rfl ?_)))
               | (refine Exists.intro _ (And.intro rfl ?_))
               | (refine Exists.intro _ (Exists.intro _ (Exists.intro _ (Exists.intro _ (And.intro rfl ?_)))))
               | (refine ld_step rfl (by assumption) rfl ?_)
               | (refine lds_step rfl (by assumption) rfl ?_)
               | (refine fL_mk ?_)
               | (refine fH_mk ?_)
               | (refine fN_mk ?_)
               | (refine fLB_mk ?_)
               | (refine And.intro (by repeat (first | assumption | refine GLB_app ?_)) ?_)
               | (refine ld_step rfl ((rd_x0 _ _ _ _ _).trans rfl) rfl ?_)
               | (refine ld_step rfl ((rd_x1 _ _ _ _ _ _).trans rfl) rfl ?_)
               | (refine ld_step rfl ((rd_x2 _ _ _ _ _ _ _).trans rfl) rfl ?_)
               | (refine lds_step rfl ((rd_x0 _ _ _ _ _).trans rfl) rfl ?_)
               | (refine lds_step rfl ((rd_x1 _ _ _ _ _ _).trans rfl) rfl ?_)
               | (refine lds_step rfl ((rd_x2 _ _ _ _ _ _ _).trans rfl) rfl ?_)
               | (refine mem_step (st_eq rfl rfl rfl rfl (wr_last _ _ _ _ rfl)) ?_)
               | (refine drec_yes (by omega) ?_)
               | (refine drec_no (by omega) ?_)
               | (intro _)
               | fail)
      any_goals refine Halt.mk ?_
      any_goals show rC _ _ r7_4 _ _ _ _ _ _
      refine rC_seqH ?_
      repeat' (conv => whnf
               first
               | (refine Stop.mk ?_)
               | (refine fO_is hgt ?_)
               | (refine fO_is (bne_self_eq_false _) ?_)
               | (refine fI_gen ?_; intro z hz)
               | (refine fO_gen ?_; intro z hz)
               | (refine dec_true (by assumption) ?_)
               | (refine dec_false (by assumption) ?_)
               | (refine dec_split (fun h => ?_) (fun h => ?_))
               | (apply silE)
               | (exact And.intro rfl (And.intro rfl (And.intro rfl rfl)))
               | (refine And.intro (by first | omega | ((simp only [decide_eq_true_eq, decide_eq_false_iff_not, Bool.and_eq_true, beq_iff_eq, Bool.not_eq_true', Bool.not_eq_false'] at *); omega) | (subst_vars; simp only [Int.ofNat_eq_natCast, tq_not, fq_not, tq_and, fq_and, tq_or, fq_or, tq_beq, fq_beq, tq_bne, fq_bne, tq_dec, fq_dec, one1, V.tup.injEq, V.agg.injEq, List.cons.injEq, V.int.injEq, V.bool.injEq, true_and, and_true, decide_eq_true_eq, decide_eq_false_iff_not, Bool.and_eq_true, Bool.and_eq_false_iff, Bool.or_eq_true, Bool.or_eq_false_iff, Bool.not_eq_true', Bool.not_eq_false', beq_iff_eq, wrap_u32, wrap_i64, wrap_u8, beq_eq_false_iff_ne, ne_eq, bne_iff_ne, bne_eq_false_iff_eq, eq_self, and_self, splice, V.cells, List.take_succ_cons, List.take_zero, List.take_nil, List.drop_zero, List.drop_succ_cons, List.drop_nil, List.cons_append, List.nil_append, List.append_nil, List.length_cons, List.length_nil, Nat.zero_add, Nat.reduceAdd, if_true, if_false, Bool.false_eq_true, beq_self_eq_true, decide_eq_decide, Bool.true_eq_false, or_false, false_or, or_true, true_or, and_false, false_and, not_true_eq_false, not_false_eq_true, Bool.and_true, Bool.true_and, Bool.not_true, Bool.not_false] at *; omega)) ?_)
               | (refine Exists.intro _ (Exists.intro _ (And.intro rfl ?_)))
               | (refine Exists.intro _ (And.intro rfl ?_))
               | (refine Exists.intro _ (Exists.intro _ (Exists.intro _ (Exists.intro _ (And.intro rfl ?_)))))
               | (refine ld_step rfl (by assumption) rfl ?_)
               | (refine lds_step rfl (by assumption) rfl ?_)
               | (refine fL_mk ?_)
               | (refine fH_mk ?_)
               | (refine fN_mk ?_)
               | (refine fLB_mk ?_)
               | (refine And.intro (by repeat (first | assumption | refine GLB_app ?_)) ?_)
               | (refine ld_step rfl ((rd_x0 _ _ _ _ _).trans rfl) rfl ?_)
               | (refine ld_step rfl ((rd_x1 _ _ _ _ _ _).trans rfl) rfl ?_)
               | (refine ld_step rfl ((rd_x2 _ _ _ _ _ _ _).trans rfl) rfl ?_)
               | (refine lds_step rfl ((rd_x0 _ _ _ _ _).trans rfl) rfl ?_)
               | (refine lds_step rfl ((rd_x1 _ _ _ _ _ _).trans rfl) rfl ?_)
               | (refine lds_step rfl ((rd_x2 _ _ _ _ _ _ _).trans rfl) rfl ?_)
               | (refine mem_step (st_eq rfl rfl rfl rfl (wr_last _ _ _ _ rfl)) ?_)
               | (refine drec_yes (by omega) ?_)
               | (refine drec_no (by omega) ?_)
               | (intro _)
               | fail)
      any_goals refine Halt.mk ?_
      any_goals show rC _ _ r7_5 _ _ _ _ _ _
      have hn : 1 ≤ n ∧ n ≤ 4 := by rcases ha.1 with rfl | rfl | rfl <;> omega

      have e2 : Int.tmod a 4 = a % 4 := Int.tmod_eq_emod_of_nonneg hp.2.1.1
      have e3 : IntKind.i64.wrap (a % 4) = a % 4 := wrap_i64_id (by omega) (by omega)
      have e4 : IntKind.i64.wrap (n - 1) = n - 1 := wrap_i64_id (by omega) (by omega)
      have e5 : IntKind.i64.wrap (a % 4 + n) = a % 4 + n := wrap_i64_id (by omega) (by omega)
      have e6 : IntKind.i64.wrap (a % 4 + n - 1) = a % 4 + n - 1 := wrap_i64_id (by omega) (by omega)
      have e7 : 0 + (n - 1).toNat * 1 = (onesL (lanesV n a) 32).length - 1 := by omega
      have e8 : ((onesL (lanesV n a) 32).map (V.int .i64))[0 + (n - 1).toNat * 1]? = some (V.int .i64 (a % 4 + n - 1)) := by rw [e7, List.getElem?_map, f6]; rfl
      refine rC_seqH ?_
      repeat' (conv => whnf
               first
               | (refine Stop.mk ?_)
               | (with_reducible refine fI_is f2 ?_)
               | (with_reducible refine fO_is f1 ?_)
               | (with_reducible refine fI_is e2 ?_)
               | (with_reducible refine fI_is e3 ?_)
               | (with_reducible refine fI_is e4 ?_)
               | (with_reducible refine fI_is e5 ?_)
               | (with_reducible refine fI_is e6 ?_)
               | (refine fI_is f4 ?_)
               | (with_reducible refine fO_is (bne_self_eq_false _) ?_)
               | (refine And.intro (fun hn => absurd hn f3) (fun _ cap hc => ?_))
               | (refine fI_gen ?_; intro z hz)
               | (refine fO_gen ?_; intro z hz)
               | (refine pure_step (ixs_eq rfl rfl (by omega) (show _ < ((onesL (lanesV n a) 32).length : Int) by omega)) ?_)
               | (refine ld_ro rfl e8 ?_)
               | (refine lds_ro rfl e8 ?_)
               | (refine dec_true (by assumption) ?_)
               | (refine dec_false (by assumption) ?_)
               | (refine dec_split (fun h => ?_) (fun h => ?_))
               | (apply silE)
               | (exact And.intro rfl (And.intro rfl (And.intro rfl rfl)))
               | (refine And.intro (by first | omega | ((simp only [decide_eq_true_eq, decide_eq_false_iff_not, Bool.and_eq_true, beq_iff_eq, Bool.not_eq_true', Bool.not_eq_false'] at *); omega) | (subst_vars; simp only [Int.ofNat_eq_natCast, tq_not, fq_not, tq_and, fq_and, tq_or, fq_or, tq_beq, fq_beq, tq_bne, fq_bne, tq_dec, fq_dec, one1, V.tup.injEq, V.agg.injEq, List.cons.injEq, V.int.injEq, V.bool.injEq, true_and, and_true, decide_eq_true_eq, decide_eq_false_iff_not, Bool.and_eq_true, Bool.and_eq_false_iff, Bool.or_eq_true, Bool.or_eq_false_iff, Bool.not_eq_true', Bool.not_eq_false', beq_iff_eq, wrap_u32, wrap_i64, wrap_u8, beq_eq_false_iff_ne, ne_eq, bne_iff_ne, bne_eq_false_iff_eq, eq_self, and_self, splice, V.cells, List.take_succ_cons, List.take_zero, List.take_nil, List.drop_zero, List.drop_succ_cons, List.drop_nil, List.cons_append, List.nil_append, List.append_nil, List.length_cons, List.length_nil, Nat.zero_add, Nat.reduceAdd, if_true, if_false, Bool.false_eq_true, beq_self_eq_true, decide_eq_decide, Bool.true_eq_false, or_false, false_or, or_true, true_or, and_false, false_and, not_true_eq_false, not_false_eq_true, Bool.and_true, Bool.true_and, Bool.not_true, Bool.not_false] at *; omega)) ?_)
               | (refine Exists.intro _ (Exists.intro _ (And.intro rfl ?_)))
               | (refine Exists.intro _ (And.intro rfl ?_))
               | (refine Exists.intro _ (Exists.intro _ (Exists.intro _ (Exists.intro _ (And.intro rfl ?_)))))
               | (refine ld_step rfl (by assumption) rfl ?_)
               | (refine lds_step rfl (by assumption) rfl ?_)
               | (refine fL_mk ?_)
               | (refine fH_mk ?_)
               | (refine fN_mk ?_)
               | (refine fLB_mk ?_)
               | (refine And.intro (by repeat (first | assumption | refine GLB_app ?_)) ?_)
               | (refine ld_step rfl ((rd_x0 _ _ _ _ _).trans rfl) rfl ?_)
               | (refine ld_step rfl ((rd_x1 _ _ _ _ _ _).trans rfl) rfl ?_)
               | (refine ld_step rfl ((rd_x2 _ _ _ _ _ _ _).trans rfl) rfl ?_)
               | (refine lds_step rfl ((rd_x0 _ _ _ _ _).trans rfl) rfl ?_)
               | (refine lds_step rfl ((rd_x1 _ _ _ _ _ _).trans rfl) rfl ?_)
               | (refine lds_step rfl ((rd_x2 _ _ _ _ _ _ _).trans rfl) rfl ?_)
               | (refine mem_step (st_eq rfl rfl rfl rfl (wr_last _ _ _ _ rfl)) ?_)
               | (refine drec_yes (by omega) ?_)
               | (refine drec_no (by omega) ?_)
               | (intro _)
               | fail)
      any_goals refine Halt.mk ?_
      any_goals show rC _ _ r7_6 _ _ _ _ _ _
      refine rC_seqH ?_
      repeat' (conv => whnf
               first
               | (refine Stop.mk ?_)
               | (refine fI_gen ?_; intro z hz)
               | (refine fO_gen ?_; intro z hz)
               | (refine dec_true (by assumption) ?_)
               | (refine dec_false (by assumption) ?_)
               | (refine dec_split (fun h => ?_) (fun h => ?_))
               | (apply silE)
               | (exact And.intro rfl (And.intro rfl (And.intro rfl rfl)))
               | (refine And.intro (by first | omega | ((simp only [decide_eq_true_eq, decide_eq_false_iff_not, Bool.and_eq_true, beq_iff_eq, Bool.not_eq_true', Bool.not_eq_false'] at *); omega) | (subst_vars; simp only [Int.ofNat_eq_natCast, tq_not, fq_not, tq_and, fq_and, tq_or, fq_or, tq_beq, fq_beq, tq_bne, fq_bne, tq_dec, fq_dec, one1, V.tup.injEq, V.agg.injEq, List.cons.injEq, V.int.injEq, V.bool.injEq, true_and, and_true, decide_eq_true_eq, decide_eq_false_iff_not, Bool.and_eq_true, Bool.and_eq_false_iff, Bool.or_eq_true, Bool.or_eq_false_iff, Bool.not_eq_true', Bool.not_eq_false', beq_iff_eq, wrap_u32, wrap_i64, wrap_u8, beq_eq_false_iff_ne, ne_eq, bne_iff_ne, bne_eq_false_iff_eq, eq_self, and_self, splice, V.cells, List.take_succ_cons, List.take_zero, List.take_nil, List.drop_zero, List.drop_succ_cons, List.drop_nil, List.cons_append, List.nil_append, List.append_nil, List.length_cons, List.length_nil, Nat.zero_add, Nat.reduceAdd, if_true, if_false, Bool.false_eq_true, beq_self_eq_true, decide_eq_decide, Bool.true_eq_false, or_false, false_or, or_true, true_or, and_false, false_and, not_true_eq_false, not_false_eq_true, Bool.and_true, Bool.true_and, Bool.not_true, Bool.not_false] at *; omega)) ?_)
               | (refine Exists.intro _ (Exists.intro _ (And.intro rfl ?_)))
               | (refine Exists.intro _ (And.intro rfl ?_))
               | (refine Exists.intro _ (Exists.intro _ (Exists.intro _ (Exists.intro _ (And.intro rfl ?_)))))
               | (refine ld_step rfl (by assumption) rfl ?_)
               | (refine lds_step rfl (by assumption) rfl ?_)
               | (refine fL_mk ?_)
               | (refine fH_mk ?_)
               | (refine fN_mk ?_)
               | (refine fLB_mk ?_)
               | (refine And.intro (by repeat (first | assumption | refine GLB_app ?_)) ?_)
               | (refine ld_step rfl ((rd_x0 _ _ _ _ _).trans rfl) rfl ?_)
               | (refine ld_step rfl ((rd_x1 _ _ _ _ _ _).trans rfl) rfl ?_)
               | (refine ld_step rfl ((rd_x2 _ _ _ _ _ _ _).trans rfl) rfl ?_)
               | (refine lds_step rfl ((rd_x0 _ _ _ _ _).trans rfl) rfl ?_)
               | (refine lds_step rfl ((rd_x1 _ _ _ _ _ _).trans rfl) rfl ?_)
               | (refine lds_step rfl ((rd_x2 _ _ _ _ _ _ _).trans rfl) rfl ?_)
               | (refine mem_step (st_eq rfl rfl rfl rfl (wr_last _ _ _ _ rfl)) ?_)
               | (refine drec_yes (by omega) ?_)
               | (refine drec_no (by omega) ?_)
               | (intro _)
               | fail)
      any_goals refine Halt.mk ?_
      any_goals show rC _ _ r7_7 _ _ _ _ _ _
      repeat' (conv => whnf
               first
               | (refine Stop.mk ?_)
               | (refine fI_mk ?_)
               | (refine fO_mk ?_)
               | (refine fN_mk ?_)
               | fail)
      conv => whnf
      refine rLoop_ctrU (c := rC (tab [(12, s12), (14, s14), (15, s15), (17, s17), (19, s19), (20, s20)]) k l7_0) 4 15 (false :: false :: false :: false :: false :: false :: true :: false :: false :: false :: false :: false :: false :: false :: true :: false :: true :: true :: true :: true :: false :: false :: false :: false :: false :: false :: false :: false :: false :: false :: false :: false :: false :: false :: false :: false :: false :: false :: false :: false :: false :: false :: false :: false :: false :: false :: false :: false :: false :: false :: false :: false :: false :: false :: false :: false :: false :: false :: false :: false :: false :: false :: false :: false :: false :: false :: false :: false :: false :: false :: false :: false :: false :: false :: false :: false :: false :: false :: false :: false :: false :: false :: false :: true :: true :: true :: true :: true :: true :: true :: true :: true :: true :: true :: true :: true :: true :: true :: true :: true :: true :: true :: true :: true :: true :: true :: true :: false :: false :: false :: []) (fun i tm L H e g => svAt tm 14 = .v (.int .u32 (v % 256 ^ i)) ∧ L = [] ∧ H = Hx ++ [B.ro ((onesL (lanesV n a) 32).map (V.int .i64))] ∧ e = false ∧ g = true) (by omega) rfl ⟨congrArg (fun x => SV.v (.int .u32 x)) (show (0 : Int) = v % 256 ^ 0 by omega), rfl, rfl, rfl, rfl⟩ ?_
      intro i0 hi0
      conv => whnf
      intro j
      conv => whnf
      intro j
      conv => whnf
      intro j
      conv => whnf
      intro j
      conv => whnf
      intro j
      conv => whnf
      intro j
      conv => whnf
      intro j
      conv => whnf
      intro j
      conv => whnf
      intro j
      conv => whnf
      intro j
      conv => whnf
      intro j
      conv => whnf
      intro j
      conv => whnf
      intro j
      conv => whnf
      intro j
      conv => whnf
      intro j
      conv => whnf
      intro j
      conv => whnf
      intro j
      conv => whnf
      intro j
      conv => whnf
      intro j
      conv => whnf
      intro j
      conv => whnf
      intro j
      conv => whnf
      intro j
      conv => whnf
      intro j
      conv => whnf
      intro j
      conv => whnf
      intro j
      conv => whnf
      intro j
      conv => whnf
      intro j
      conv => whnf
      intro j
      conv => whnf
      intro j
      conv => whnf
      intro j
      conv => whnf
      refine Halt.mk ?_
      rintro L H' e g ⟨h14, rfl, rfl, rfl, rfl⟩ K kn kx kr
      conv at h14 => lhs; whnf
      subst h14
      have b1 : 0 ≤ v % 256 ^ i0 ∧ v % 256 ^ i0 < 4294967296 := pow_bd hp.1 i0
      repeat' (conv => whnf
               first
               | (refine Stop.mk ?_)
               | (refine fI_mk ?_)
               | (refine fO_mk ?_)
               | (refine fN_mk ?_)
               | fail)
      conv => whnf
      refine dec_split (fun h => ?_) (fun h => ?_)
      · have hlt : i0 < 4 := by have := of_decide_eq_true h; omega
        have g1 : alP 1 (i0 : Int) := al_one
        have b2 := take_bd (i := (i0 : Int)) hp.1
        have b3 := put_bytes i0 hlt hp.1 rfl
        clear kx kr
        repeat' (conv => whnf
                 first
                 | (refine Stop.mk ?_)
                 | (refine fI_is (if_pos g1) ?_)
                 | (refine fO_is (decide_eq_true g1) ?_)
                 | (refine fI_i64 (by first | omega | (simp only [Int.ofNat_eq_natCast] at *; omega)) ?_; intro z hz)
                 | (refine fI_u32 (by first | omega | (simp only [Int.ofNat_eq_natCast] at *; omega)) ?_; intro z hz)
                 | (refine fI_u8 (by first | omega | (simp only [Int.ofNat_eq_natCast] at *; omega)) ?_; intro z hz)
                 | (refine fI_u64 (by first | omega | (simp only [Int.ofNat_eq_natCast] at *; omega)) ?_; intro z hz)
                 | (refine fI_tdiv (by first | omega | (simp only [Int.ofNat_eq_natCast] at *; omega)) ?_; intro z hz)
                 | (refine fI_tmod (by first | omega | (simp only [Int.ofNat_eq_natCast] at *; omega)) ?_; intro z hz)
                 | (refine fI_gen ?_; intro z hz)
                 | (refine fO_gen ?_; intro z hz)
                 | (refine dec_true (by assumption) ?_)
                 | (refine dec_false (by assumption) ?_)
                 | (refine dec_split (fun h => ?_) (fun h => ?_))
                 | (apply silE)
                 | (exact And.intro rfl (And.intro rfl (And.intro rfl rfl)))
                 | (refine And.intro (by first | omega | ((simp only [decide_eq_true_eq, decide_eq_false_iff_not, Bool.and_eq_true, beq_iff_eq, Bool.not_eq_true', Bool.not_eq_false'] at *); omega) | (subst_vars; simp only [Int.ofNat_eq_natCast, tq_not, fq_not, tq_and, fq_and, tq_or, fq_or, tq_beq, fq_beq, tq_bne, fq_bne, tq_dec, fq_dec, one1, V.tup.injEq, V.agg.injEq, List.cons.injEq, V.int.injEq, V.bool.injEq, true_and, and_true, decide_eq_true_eq, decide_eq_false_iff_not, Bool.and_eq_true, Bool.and_eq_false_iff, Bool.or_eq_true, Bool.or_eq_false_iff, Bool.not_eq_true', Bool.not_eq_false', beq_iff_eq, wrap_u32, wrap_i64, wrap_u8, beq_eq_false_iff_ne, ne_eq, bne_iff_ne, bne_eq_false_iff_eq, eq_self, and_self, splice, V.cells, List.take_succ_cons, List.take_zero, List.take_nil, List.drop_zero, List.drop_succ_cons, List.drop_nil, List.cons_append, List.nil_append, List.append_nil, List.length_cons, List.length_nil, Nat.zero_add, Nat.reduceAdd, if_true, if_false, Bool.false_eq_true, beq_self_eq_true, decide_eq_decide, Bool.true_eq_false, or_false, false_or, or_true, true_or, and_false, false_and, not_true_eq_false, not_false_eq_true, Bool.and_true, Bool.true_and, Bool.not_true, Bool.not_false] at *; omega)) ?_)
                 | (refine Exists.intro _ (Exists.intro _ (And.intro rfl ?_)))
                 | (refine Exists.intro _ (And.intro rfl ?_))
                 | (refine Exists.intro _ (Exists.intro _ (Exists.intro _ (Exists.intro _ (And.intro rfl ?_)))))
                 | (refine ld_step rfl (by assumption) rfl ?_)
                 | (refine lds_step rfl (by assumption) rfl ?_)
                 | (refine fL_mk ?_)
                 | (refine fH_mk ?_)
                 | (refine fN_mk ?_)
                 | (refine fLB_mk ?_)
                 | (refine And.intro (by repeat (first | assumption | refine GLB_app ?_)) ?_)
                 | (refine ld_step rfl ((rd_x0 _ _ _ _ _).trans rfl) rfl ?_)
                 | (refine ld_step rfl ((rd_x1 _ _ _ _ _ _).trans rfl) rfl ?_)
                 | (refine ld_step rfl ((rd_x2 _ _ _ _ _ _ _).trans rfl) rfl ?_)
                 | (refine lds_step rfl ((rd_x0 _ _ _ _ _).trans rfl) rfl ?_)
                 | (refine lds_step rfl ((rd_x1 _ _ _ _ _ _).trans rfl) rfl ?_)
                 | (refine lds_step rfl ((rd_x2 _ _ _ _ _ _ _).trans rfl) rfl ?_)
                 | (refine mem_step (st_eq rfl rfl rfl rfl (wr_last _ _ _ _ rfl)) ?_)
                 | (refine drec_yes (by omega) ?_)
                 | (refine drec_no (by omega) ?_)
                 | (intro _)
                 | fail)
        conv => whnf
        subst hz
        have h15 : SV.v (.int .u32 (putV 1 (i0 : Int) (v % 256 ^ i0) (takeV 1 (i0 : Int) v))) = SV.v (.int .u32 (v % 256 ^ (i0 + 1))) := by rw [b3]
        refine kn hlt _ _ _ _ _ ?_ ?_
        · skip
          rfl
        · skip
          refine ⟨?_, ?_, ?_, ?_, ?_⟩
          · skip
            exact h15
          · rfl
          · skip
            rfl
          · rfl
          · skip
            rfl
      · have hge : i0 = 4 := by have := of_decide_eq_false h; omega
        have b4 : v % 256 ^ i0 = v := by subst hge; omega
        clear kn
        repeat' (conv => whnf
                 first
                 | (refine Stop.mk ?_)
                 | (refine fO_is (beq_iff_eq.2 b4) ?_)
                 | (refine fI_gen ?_; intro z hz)
                 | (refine fO_gen ?_; intro z hz)
                 | (refine kx _ _ _ _ _ _ ?_)
                 | (refine dec_true (by assumption) ?_)
                 | (refine dec_false (by assumption) ?_)
                 | (refine dec_split (fun h => ?_) (fun h => ?_))
                 | (apply silE)
                 | (exact And.intro rfl (And.intro rfl (And.intro rfl rfl)))
                 | (refine And.intro (by first | omega | ((simp only [decide_eq_true_eq, decide_eq_false_iff_not, Bool.and_eq_true, beq_iff_eq, Bool.not_eq_true', Bool.not_eq_false'] at *); omega) | (subst_vars; simp only [Int.ofNat_eq_natCast, tq_not, fq_not, tq_and, fq_and, tq_or, fq_or, tq_beq, fq_beq, tq_bne, fq_bne, tq_dec, fq_dec, one1, V.tup.injEq, V.agg.injEq, List.cons.injEq, V.int.injEq, V.bool.injEq, true_and, and_true, decide_eq_true_eq, decide_eq_false_iff_not, Bool.and_eq_true, Bool.and_eq_false_iff, Bool.or_eq_true, Bool.or_eq_false_iff, Bool.not_eq_true', Bool.not_eq_false', beq_iff_eq, wrap_u32, wrap_i64, wrap_u8, beq_eq_false_iff_ne, ne_eq, bne_iff_ne, bne_eq_false_iff_eq, eq_self, and_self, splice, V.cells, List.take_succ_cons, List.take_zero, List.take_nil, List.drop_zero, List.drop_succ_cons, List.drop_nil, List.cons_append, List.nil_append, List.append_nil, List.length_cons, List.length_nil, Nat.zero_add, Nat.reduceAdd, if_true, if_false, Bool.false_eq_true, beq_self_eq_true, decide_eq_decide, Bool.true_eq_false, or_false, false_or, or_true, true_or, and_false, false_and, not_true_eq_false, not_false_eq_true, Bool.and_true, Bool.true_and, Bool.not_true, Bool.not_false] at *; omega)) ?_)
                 | (refine Exists.intro _ (Exists.intro _ (And.intro rfl ?_)))
                 | (refine Exists.intro _ (And.intro rfl ?_))
                 | (refine Exists.intro _ (Exists.intro _ (Exists.intro _ (Exists.intro _ (And.intro rfl ?_)))))
                 | (refine ld_step rfl (by assumption) rfl ?_)
                 | (refine lds_step rfl (by assumption) rfl ?_)
                 | (refine fL_mk ?_)
                 | (refine fH_mk ?_)
                 | (refine fN_mk ?_)
                 | (refine fLB_mk ?_)
                 | (refine And.intro (by repeat (first | assumption | refine GLB_app ?_)) ?_)
                 | (refine ld_step rfl ((rd_x0 _ _ _ _ _).trans rfl) rfl ?_)
                 | (refine ld_step rfl ((rd_x1 _ _ _ _ _ _).trans rfl) rfl ?_)
                 | (refine ld_step rfl ((rd_x2 _ _ _ _ _ _ _).trans rfl) rfl ?_)
                 | (refine lds_step rfl ((rd_x0 _ _ _ _ _).trans rfl) rfl ?_)
                 | (refine lds_step rfl ((rd_x1 _ _ _ _ _ _).trans rfl) rfl ?_)
                 | (refine lds_step rfl ((rd_x2 _ _ _ _ _ _ _).trans rfl) rfl ?_)
                 | (refine mem_step (st_eq rfl rfl rfl rfl (wr_last _ _ _ _ rfl)) ?_)
                 | (refine drec_yes (by omega) ?_)
                 | (refine drec_no (by omega) ?_)
                 | (intro _)
                 | fail)
        conv => whnf

        exact leafH hq rfl (take_app1 Hx _)
    · have hb : ¬ alP n ((a + 4) % 4294967296) := fun h => ha ((al_next hp.2.1).1 h)
      refine rC_seqH ?_
      repeat' (conv => whnf
               first
               | (refine Stop.mk ?_)
               | (refine fI_gen ?_; intro z hz)
               | (refine fO_gen ?_; intro z hz)
               | (refine dec_true (by assumption) ?_)
               | (refine dec_false (by assumption) ?_)
               | (refine dec_split (fun h => ?_) (fun h => ?_))
               | (apply silE)
               | (exact And.intro rfl (And.intro rfl (And.intro rfl rfl)))
               | (refine And.intro (by first | omega | ((simp only [decide_eq_true_eq, decide_eq_false_iff_not, Bool.and_eq_true, beq_iff_eq, Bool.not_eq_true', Bool.not_eq_false'] at *); omega) | (subst_vars; simp only [Int.ofNat_eq_natCast, tq_not, fq_not, tq_and, fq_and, tq_or, fq_or, tq_beq, fq_beq, tq_bne, fq_bne, tq_dec, fq_dec, one1, V.tup.injEq, V.agg.injEq, List.cons.injEq, V.int.injEq, V.bool.injEq, true_and, and_true, decide_eq_true_eq, decide_eq_false_iff_not, Bool.and_eq_true, Bool.and_eq_false_iff, Bool.or_eq_true, Bool.or_eq_false_iff, Bool.not_eq_true', Bool.not_eq_false', beq_iff_eq, wrap_u32, wrap_i64, wrap_u8, beq_eq_false_iff_ne, ne_eq, bne_iff_ne, bne_eq_false_iff_eq, eq_self, and_self, splice, V.cells, List.take_succ_cons, List.take_zero, List.take_nil, List.drop_zero, List.drop_succ_cons, List.drop_nil, List.cons_append, List.nil_append, List.append_nil, List.length_cons, List.length_nil, Nat.zero_add, Nat.reduceAdd, if_true, if_false, Bool.false_eq_true, beq_self_eq_true, decide_eq_decide, Bool.true_eq_false, or_false, false_or, or_true, true_or, and_false, false_and, not_true_eq_false, not_false_eq_true, Bool.and_true, Bool.true_and, Bool.not_true, Bool.not_false] at *; omega)) ?_)
               | (refine Exists.intro _ (Exists.intro _ (And.intro rfl ?_)))
               | (refine Exists.intro _ (And.intro rfl ?_))
               | (refine Exists.intro _ (Exists.intro _ (Exists.intro _ (Exists.intro _ (And.intro rfl ?_)))))
               | (refine ld_step rfl (by assumption) rfl ?_)
               | (refine lds_step rfl (by assumption) rfl ?_)
               | (refine fL_mk ?_)
               | (refine fH_mk ?_)
               | (refine fN_mk ?_)
               | (refine fLB_mk ?_)
               | (refine And.intro (by repeat (first | assumption | refine GLB_app ?_)) ?_)
               | (refine ld_step rfl ((rd_x0 _ _ _ _ _).trans rfl) rfl ?_)
               | (refine ld_step rfl ((rd_x1 _ _ _ _ _ _).trans rfl) rfl ?_)
               | (refine ld_step rfl ((rd_x2 _ _ _ _ _ _ _).trans rfl) rfl ?_)
               | (refine lds_step rfl ((rd_x0 _ _ _ _ _).trans rfl) rfl ?_)
               | (refine lds_step rfl ((rd_x1 _ _ _ _ _ _).trans rfl) rfl ?_)
               | (refine lds_step rfl ((rd_x2 _ _ _ _ _ _ _).trans rfl) rfl ?_)
               | (refine mem_step (st_eq rfl rfl rfl rfl (wr_last _ _ _ _ rfl)) ?_)
               | (refine drec_yes (by omega) ?_)
               | (refine drec_no (by omega) ?_)
               | (intro _)
               | fail)
      any_goals refine Halt.mk ?_
      any_goals show rC _ _ r7_1 _ _ _ _ _ _
      refine rC_seqH ?_
      repeat' (conv => whnf
               first
               | (refine Stop.mk ?_)
               | (refine fI_gen ?_; intro z hz)
               | (refine fO_gen ?_; intro z hz)
               | (refine dec_true (by assumption) ?_)
               | (refine dec_false (by assumption) ?_)
               | (refine dec_split (fun h => ?_) (fun h => ?_))
               | (apply silE)
               | (exact And.intro rfl (And.intro rfl (And.intro rfl rfl)))
               | (refine And.intro (by first | omega | ((simp only [decide_eq_true_eq, decide_eq_false_iff_not, Bool.and_eq_true, beq_iff_eq, Bool.not_eq_true', Bool.not_eq_false'] at *); omega) | (subst_vars; simp only [Int.ofNat_eq_natCast, tq_not, fq_not, tq_and, fq_and, tq_or, fq_or, tq_beq, fq_beq, tq_bne, fq_bne, tq_dec, fq_dec, one1, V.tup.injEq, V.agg.injEq, List.cons.injEq, V.int.injEq, V.bool.injEq, true_and, and_true, decide_eq_true_eq, decide_eq_false_iff_not, Bool.and_eq_true, Bool.and_eq_false_iff, Bool.or_eq_true, Bool.or_eq_false_iff, Bool.not_eq_true', Bool.not_eq_false', beq_iff_eq, wrap_u32, wrap_i64, wrap_u8, beq_eq_false_iff_ne, ne_eq, bne_iff_ne, bne_eq_false_iff_eq, eq_self, and_self, splice, V.cells, List.take_succ_cons, List.take_zero, List.take_nil, List.drop_zero, List.drop_succ_cons, List.drop_nil, List.cons_append, List.nil_append, List.append_nil, List.length_cons, List.length_nil, Nat.zero_add, Nat.reduceAdd, if_true, if_false, Bool.false_eq_true, beq_self_eq_true, decide_eq_decide, Bool.true_eq_false, or_false, false_or, or_true, true_or, and_false, false_and, not_true_eq_false, not_false_eq_true, Bool.and_true, Bool.true_and, Bool.not_true, Bool.not_false] at *; omega)) ?_)
               | (refine Exists.intro _ (Exists.intro _ (And.intro rfl ?_)))
               | (refine Exists.intro _ (And.intro rfl ?_))
               | (refine Exists.intro _ (Exists.intro _ (Exists.intro _ (Exists.intro _ (And.intro rfl ?_)))))
               | (refine ld_step rfl (by assumption) rfl ?_)
               | (refine lds_step rfl (by assumption) rfl ?_)
               | (refine fL_mk ?_)
               | (refine fH_mk ?_)
               | (refine fN_mk ?_)
               | (refine fLB_mk ?_)
               | (refine And.intro (by repeat (first | assumption | refine GLB_app ?_)) ?_)
               | (refine ld_step rfl ((rd_x0 _ _ _ _ _).trans rfl) rfl ?_)
               | (refine ld_step rfl ((rd_x1 _ _ _ _ _ _).trans rfl) rfl ?_)
               | (refine ld_step rfl ((rd_x2 _ _ _ _ _ _ _).trans rfl) rfl ?_)
               | (refine lds_step rfl ((rd_x0 _ _ _ _ _).trans rfl) rfl ?_)
               | (refine lds_step rfl ((rd_x1 _ _ _ _ _ _).trans rfl) rfl ?_)
               | (refine lds_step rfl ((rd_x2 _ _ _ _ _ _ _).trans rfl) rfl ?_)
               | (refine mem_step (st_eq rfl rfl rfl rfl (wr_last _ _ _ _ rfl)) ?_)
               | (refine drec_yes (by omega) ?_)
               | (refine drec_no (by omega) ?_)
               | (intro _)
               | fail)
      any_goals refine Halt.mk ?_
      any_goals show rC _ _ r7_2 _ _ _ _ _ _
      refine rC_seqH ?_
      repeat' (conv => whnf
               first
               | (refine Stop.mk ?_)
               | (refine fI_is (if_neg ha) ?_)
               | (refine fO_is (decide_eq_false ha) ?_)
               | (refine fI_gen ?_; intro z hz)
               | (refine fO_gen ?_; intro z hz)
               | (refine dec_true (by assumption) ?_)
               | (refine dec_false (by assumption) ?_)
               | (refine dec_split (fun h => ?_) (fun h => ?_))
               | (apply silE)
               | (exact And.intro rfl (And.intro rfl (And.intro rfl rfl)))
               | (refine And.intro (by first | omega | ((simp only [decide_eq_true_eq, decide_eq_false_iff_not, Bool.and_eq_true, beq_iff_eq, Bool.not_eq_true', Bool.not_eq_false'] at *); omega) | (subst_vars; simp only [Int.ofNat_eq_natCast, tq_not, fq_not, tq_and, fq_and, tq_or, fq_or, tq_beq, fq_beq, tq_bne, fq_bne, tq_dec, fq_dec, one1, V.tup.injEq, V.agg.injEq, List.cons.injEq, V.int.injEq, V.bool.injEq, true_and, and_true, decide_eq_true_eq, decide_eq_false_iff_not, Bool.and_eq_true, Bool.and_eq_false_iff, Bool.or_eq_true, Bool.or_eq_false_iff, Bool.not_eq_true', Bool.not_eq_false', beq_iff_eq, wrap_u32, wrap_i64, wrap_u8, beq_eq_false_iff_ne, ne_eq, bne_iff_ne, bne_eq_false_iff_eq, eq_self, and_self, splice, V.cells, List.take_succ_cons, List.take_zero, List.take_nil, List.drop_zero, List.drop_succ_cons, List.drop_nil, List.cons_append, List.nil_append, List.append_nil, List.length_cons, List.length_nil, Nat.zero_add, Nat.reduceAdd, if_true, if_false, Bool.false_eq_true, beq_self_eq_true, decide_eq_decide, Bool.true_eq_false, or_false, false_or, or_true, true_or, and_false, false_and, not_true_eq_false, not_false_eq_true, Bool.and_true, Bool.true_and, Bool.not_true, Bool.not_false] at *; omega)) ?_)
               | (refine Exists.intro _ (Exists.intro _ (And.intro rfl ?_)))
               | (refine Exists.intro _ (And.intro rfl ?_))
               | (refine Exists.intro _ (Exists.intro _ (Exists.intro _ (Exists.intro _ (And.intro rfl ?_)))))
               | (refine ld_step rfl (by assumption) rfl ?_)
               | (refine lds_step rfl (by assumption) rfl ?_)
               | (refine fL_mk ?_)
               | (refine fH_mk ?_)
               | (refine fN_mk ?_)
               | (refine fLB_mk ?_)
               | (refine And.intro (by repeat (first | assumption | refine GLB_app ?_)) ?_)
               | (refine ld_step rfl ((rd_x0 _ _ _ _ _).trans rfl) rfl ?_)
               | (refine ld_step rfl ((rd_x1 _ _ _ _ _ _).trans rfl) rfl ?_)
               | (refine ld_step rfl ((rd_x2 _ _ _ _ _ _ _).trans rfl) rfl ?_)
               | (refine lds_step rfl ((rd_x0 _ _ _ _ _).trans rfl) rfl ?_)
               | (refine lds_step rfl ((rd_x1 _ _ _ _ _ _).trans rfl) rfl ?_)
               | (refine lds_step rfl ((rd_x2 _ _ _ _ _ _ _).trans rfl) rfl ?_)
               | (refine mem_step (st_eq rfl rfl rfl rfl (wr_last _ _ _ _ rfl)) ?_)
               | (refine drec_yes (by omega) ?_)
               | (refine drec_no (by omega) ?_)
               | (intro _)
               | fail)
      any_goals refine Halt.mk ?_
      any_goals show rC _ _ r7_3 _ _ _ _ _ _
      refine rC_seqH ?_
      repeat' (conv => whnf
               first
               | (refine Stop.mk ?_)
               | (refine fI_is (if_neg hb) ?_)
               | (refine fO_is (decide_eq_false hb) ?_)
               | (with_reducible refine fI_u32w ?_)
               | (refine fI_gen ?_; intro z hz)
               | (refine fO_gen ?_; intro z hz)
               | (refine And.intro ⟨by omega, by omega⟩ ?_)
               | (refine dec_true (by assumption) ?_)
               | (refine dec_false (by assumption) ?_)
               | (refine dec_split (fun h => ?_) (fun h => ?_))
               | (apply silE)
               | (exact And.intro rfl (And.intro rfl (And.intro rfl rfl)))
               | (refine And.intro (by first | omega | ((simp only [decide_eq_true_eq, decide_eq_false_iff_not, Bool.and_eq_true, beq_iff_eq, Bool.not_eq_true', Bool.not_eq_false'] at *); omega) | (subst_vars; simp only [Int.ofNat_eq_natCast, tq_not, fq_not, tq_and, fq_and, tq_or, fq_or, tq_beq, fq_beq, tq_bne, fq_bne, tq_dec, fq_dec, one1, V.tup.injEq, V.agg.injEq, List.cons.injEq, V.int.injEq, V.bool.injEq, true_and, and_true, decide_eq_true_eq, decide_eq_false_iff_not, Bool.and_eq_true, Bool.and_eq_false_iff, Bool.or_eq_true, Bool.or_eq_false_iff, Bool.not_eq_true', Bool.not_eq_false', beq_iff_eq, wrap_u32, wrap_i64, wrap_u8, beq_eq_false_iff_ne, ne_eq, bne_iff_ne, bne_eq_false_iff_eq, eq_self, and_self, splice, V.cells, List.take_succ_cons, List.take_zero, List.take_nil, List.drop_zero, List.drop_succ_cons, List.drop_nil, List.cons_append, List.nil_append, List.append_nil, List.length_cons, List.length_nil, Nat.zero_add, Nat.reduceAdd, if_true, if_false, Bool.false_eq_true, beq_self_eq_true, decide_eq_decide, Bool.true_eq_false, or_false, false_or, or_true, true_or, and_false, false_and, not_true_eq_false, not_false_eq_true, Bool.and_true, Bool.true_and, Bool.not_true, Bool.not_false] at *; omega)) ?_)
               | (refine Exists.intro _ (Exists.intro _ (And.intro rfl ?_)))
               | (refine Exists.intro _ (And.intro rfl ?_))
               | (refine Exists.intro _ (Exists.intro _ (Exists.intro _ (Exists.intro _ (And.intro rfl ?_)))))
               | (refine ld_step rfl (by assumption) rfl ?_)
               | (refine lds_step rfl (by assumption) rfl ?_)
               | (refine fL_mk ?_)
               | (refine fH_mk ?_)
               | (refine fN_mk ?_)
               | (refine fLB_mk ?_)
               | (refine And.intro (by repeat (first | assumption | refine GLB_app ?_)) ?_)
               | (refine ld_step rfl ((rd_x0 _ _ _ _ _).trans rfl) rfl ?_)
               | (refine ld_step rfl ((rd_x1 _ _ _ _ _ _).trans rfl) rfl ?_)
               | (refine ld_step rfl ((rd_x2 _ _ _ _ _ _ _).trans rfl) rfl ?_)
               | (refine lds_step rfl ((rd_x0 _ _ _ _ _).trans rfl) rfl ?_)
               | (refine lds_step rfl ((rd_x1 _ _ _ _ _ _).trans rfl) rfl ?_)
               | (refine lds_step rfl ((rd_x2 _ _ _ _ _ _ _).trans rfl) rfl ?_)
               | (refine mem_step (st_eq rfl rfl rfl rfl (wr_last _ _ _ _ rfl)) ?_)
               | (refine drec_yes (by omega) ?_)
               | (refine drec_no (by omega) ?_)
               | (intro _)
               | fail)
      any_goals refine Halt.mk ?_
      any_goals show rC _ _ r7_4 _ _ _ _ _ _
      refine rC_seqH ?_
      repeat' (conv => whnf
               first
               | (refine Stop.mk ?_)
               | (refine fI_gen ?_; intro z hz)
               | (refine fO_gen ?_; intro z hz)
               | (refine dec_true (by assumption) ?_)
               | (refine dec_false (by assumption) ?_)
               | (refine dec_split (fun h => ?_) (fun h => ?_))
               | (apply silE)
               | (exact And.intro rfl (And.intro rfl (And.intro rfl rfl)))
               | (refine And.intro (by first | omega | ((simp only [decide_eq_true_eq, decide_eq_false_iff_not, Bool.and_eq_true, beq_iff_eq, Bool.not_eq_true', Bool.not_eq_false'] at *); omega) | (subst_vars; simp only [Int.ofNat_eq_natCast, tq_not, fq_not, tq_and, fq_and, tq_or, fq_or, tq_beq, fq_beq, tq_bne, fq_bne, tq_dec, fq_dec, one1, V.tup.injEq, V.agg.injEq, List.cons.injEq, V.int.injEq, V.bool.injEq, true_and, and_true, decide_eq_true_eq, decide_eq_false_iff_not, Bool.and_eq_true, Bool.and_eq_false_iff, Bool.or_eq_true, Bool.or_eq_false_iff, Bool.not_eq_true', Bool.not_eq_false', beq_iff_eq, wrap_u32, wrap_i64, wrap_u8, beq_eq_false_iff_ne, ne_eq, bne_iff_ne, bne_eq_false_iff_eq, eq_self, and_self, splice, V.cells, List.take_succ_cons, List.take_zero, List.take_nil, List.drop_zero, List.drop_succ_cons, List.drop_nil, List.cons_append, List.nil_append, List.append_nil, List.length_cons, List.length_nil, Nat.zero_add, Nat.reduceAdd, if_true, if_false, Bool.false_eq_true, beq_self_eq_true, decide_eq_decide, Bool.true_eq_false, or_false, false_or, or_true, true_or, and_false, false_and, not_true_eq_false, not_false_eq_true, Bool.and_true, Bool.true_and, Bool.not_true, Bool.not_false] at *; omega)) ?_)
               | (refine Exists.intro _ (Exists.intro _ (And.intro rfl ?_)))
               | (refine Exists.intro _ (And.intro rfl ?_))
               | (refine Exists.intro _ (Exists.intro _ (Exists.intro _ (Exists.intro _ (And.intro rfl ?_)))))
               | (refine ld_step rfl (by assumption) rfl ?_)
               | (refine lds_step rfl (by assumption) rfl ?_)
               | (refine fL_mk ?_)
               | (refine fH_mk ?_)
               | (refine fN_mk ?_)
               | (refine fLB_mk ?_)
               | (refine And.intro (by repeat (first | assumption | refine GLB_app ?_)) ?_)
               | (refine ld_step rfl ((rd_x0 _ _ _ _ _).trans rfl) rfl ?_)
               | (refine ld_step rfl ((rd_x1 _ _ _ _ _ _).trans rfl) rfl ?_)
               | (refine ld_step rfl ((rd_x2 _ _ _ _ _ _ _).trans rfl) rfl ?_)
               | (refine lds_step rfl ((rd_x0 _ _ _ _ _).trans rfl) rfl ?_)
               | (refine lds_step rfl ((rd_x1 _ _ _ _ _ _).trans rfl) rfl ?_)
               | (refine lds_step rfl ((rd_x2 _ _ _ _ _ _ _).trans rfl) rfl ?_)
               | (refine mem_step (st_eq rfl rfl rfl rfl (wr_last _ _ _ _ rfl)) ?_)
               | (refine drec_yes (by omega) ?_)
               | (refine drec_no (by omega) ?_)
               | (intro _)
               | fail)
      any_goals refine Halt.mk ?_
      any_goals show rC _ _ r7_5 _ _ _ _ _ _
      refine rC_seqH ?_
      repeat' (conv => whnf
               first
               | (refine Stop.mk ?_)
               | (refine fI_gen ?_; intro z hz)
               | (refine fO_gen ?_; intro z hz)
               | (refine dec_true (by assumption) ?_)
               | (refine dec_false (by assumption) ?_)
               | (refine dec_split (fun h => ?_) (fun h => ?_))
               | (apply silE)
               | (exact And.intro rfl (And.intro rfl (And.intro rfl rfl)))
               | (refine And.intro (by first | omega | ((simp only [decide_eq_true_eq, decide_eq_false_iff_not, Bool.and_eq_true, beq_iff_eq, Bool.not_eq_true', Bool.not_eq_false'] at *); omega) | (subst_vars; simp only [Int.ofNat_eq_natCast, tq_not, fq_not, tq_and, fq_and, tq_or, fq_or, tq_beq, fq_beq, tq_bne, fq_bne, tq_dec, fq_dec, one1, V.tup.injEq, V.agg.injEq, List.cons.injEq, V.int.injEq, V.bool.injEq, true_and, and_true, decide_eq_true_eq, decide_eq_false_iff_not, Bool.and_eq_true, Bool.and_eq_false_iff, Bool.or_eq_true, Bool.or_eq_false_iff, Bool.not_eq_true', Bool.not_eq_false', beq_iff_eq, wrap_u32, wrap_i64, wrap_u8, beq_eq_false_iff_ne, ne_eq, bne_iff_ne, bne_eq_false_iff_eq, eq_self, and_self, splice, V.cells, List.take_succ_cons, List.take_zero, List.take_nil, List.drop_zero, List.drop_succ_cons, List.drop_nil, List.cons_append, List.nil_append, List.append_nil, List.length_cons, List.length_nil, Nat.zero_add, Nat.reduceAdd, if_true, if_false, Bool.false_eq_true, beq_self_eq_true, decide_eq_decide, Bool.true_eq_false, or_false, false_or, or_true, true_or, and_false, false_and, not_true_eq_false, not_false_eq_true, Bool.and_true, Bool.true_and, Bool.not_true, Bool.not_false] at *; omega)) ?_)
               | (refine Exists.intro _ (Exists.intro _ (And.intro rfl ?_)))
               | (refine Exists.intro _ (And.intro rfl ?_))
               | (refine Exists.intro _ (Exists.intro _ (Exists.intro _ (Exists.intro _ (And.intro rfl ?_)))))
               | (refine ld_step rfl (by assumption) rfl ?_)
               | (refine lds_step rfl (by assumption) rfl ?_)
               | (refine fL_mk ?_)
               | (refine fH_mk ?_)
               | (refine fN_mk ?_)
               | (refine fLB_mk ?_)
               | (refine And.intro (by repeat (first | assumption | refine GLB_app ?_)) ?_)
               | (refine ld_step rfl ((rd_x0 _ _ _ _ _).trans rfl) rfl ?_)
               | (refine ld_step rfl ((rd_x1 _ _ _ _ _ _).trans rfl) rfl ?_)
               | (refine ld_step rfl ((rd_x2 _ _ _ _ _ _ _).trans rfl) rfl ?_)
               | (refine lds_step rfl ((rd_x0 _ _ _ _ _).trans rfl) rfl ?_)
               | (refine lds_step rfl ((rd_x1 _ _ _ _ _ _).trans rfl) rfl ?_)
               | (refine lds_step rfl ((rd_x2 _ _ _ _ _ _ _).trans rfl) rfl ?_)
               | (refine mem_step (st_eq rfl rfl rfl rfl (wr_last _ _ _ _ rfl)) ?_)
               | (refine drec_yes (by omega) ?_)
               | (refine drec_no (by omega) ?_)
               | (intro _)
               | fail)
      any_goals refine Halt.mk ?_
      any_goals show rC _ _ r7_6 _ _ _ _ _ _
      refine rC_seqH ?_
      repeat' (conv => whnf
               first
               | (refine Stop.mk ?_)
               | (refine fI_gen ?_; intro z hz)
               | (refine fO_gen ?_; intro z hz)
               | (refine dec_true (by assumption) ?_)
               | (refine dec_false (by assumption) ?_)
               | (refine dec_split (fun h => ?_) (fun h => ?_))
               | (apply silE)
               | (exact And.intro rfl (And.intro rfl (And.intro rfl rfl)))
               | (refine And.intro (by first | omega | ((simp only [decide_eq_true_eq, decide_eq_false_iff_not, Bool.and_eq_true, beq_iff_eq, Bool.not_eq_true', Bool.not_eq_false'] at *); omega) | (subst_vars; simp only [Int.ofNat_eq_natCast, tq_not, fq_not, tq_and, fq_and, tq_or, fq_or, tq_beq, fq_beq, tq_bne, fq_bne, tq_dec, fq_dec, one1, V.tup.injEq, V.agg.injEq, List.cons.injEq, V.int.injEq, V.bool.injEq, true_and, and_true, decide_eq_true_eq, decide_eq_false_iff_not, Bool.and_eq_true, Bool.and_eq_false_iff, Bool.or_eq_true, Bool.or_eq_false_iff, Bool.not_eq_true', Bool.not_eq_false', beq_iff_eq, wrap_u32, wrap_i64, wrap_u8, beq_eq_false_iff_ne, ne_eq, bne_iff_ne, bne_eq_false_iff_eq, eq_self, and_self, splice, V.cells, List.take_succ_cons, List.take_zero, List.take_nil, List.drop_zero, List.drop_succ_cons, List.drop_nil, List.cons_append, List.nil_append, List.append_nil, List.length_cons, List.length_nil, Nat.zero_add, Nat.reduceAdd, if_true, if_false, Bool.false_eq_true, beq_self_eq_true, decide_eq_decide, Bool.true_eq_false, or_false, false_or, or_true, true_or, and_false, false_and, not_true_eq_false, not_false_eq_true, Bool.and_true, Bool.true_and, Bool.not_true, Bool.not_false] at *; omega)) ?_)
               | (refine Exists.intro _ (Exists.intro _ (And.intro rfl ?_)))
               | (refine Exists.intro _ (And.intro rfl ?_))
               | (refine Exists.intro _ (Exists.intro _ (Exists.intro _ (Exists.intro _ (And.intro rfl ?_)))))
               | (refine ld_step rfl (by assumption) rfl ?_)
               | (refine lds_step rfl (by assumption) rfl ?_)
               | (refine fL_mk ?_)
               | (refine fH_mk ?_)
               | (refine fN_mk ?_)
               | (refine fLB_mk ?_)
               | (refine And.intro (by repeat (first | assumption | refine GLB_app ?_)) ?_)
               | (refine ld_step rfl ((rd_x0 _ _ _ _ _).trans rfl) rfl ?_)
               | (refine ld_step rfl ((rd_x1 _ _ _ _ _ _).trans rfl) rfl ?_)
               | (refine ld_step rfl ((rd_x2 _ _ _ _ _ _ _).trans rfl) rfl ?_)
               | (refine lds_step rfl ((rd_x0 _ _ _ _ _).trans rfl) rfl ?_)
               | (refine lds_step rfl ((rd_x1 _ _ _ _ _ _).trans rfl) rfl ?_)
               | (refine lds_step rfl ((rd_x2 _ _ _ _ _ _ _).trans rfl) rfl ?_)
               | (refine mem_step (st_eq rfl rfl rfl rfl (wr_last _ _ _ _ rfl)) ?_)
               | (refine drec_yes (by omega) ?_)
               | (refine drec_no (by omega) ?_)
               | (intro _)
               | fail)
      any_goals refine Halt.mk ?_
      any_goals show rC _ _ r7_7 _ _ _ _ _ _
      repeat' (conv => whnf
               first
               | (refine Stop.mk ?_)
               | (refine fI_mk ?_)
               | (refine fO_mk ?_)
               | (refine fN_mk ?_)
               | fail)
      conv => whnf
      refine rLoop_ctrU (c := rC (tab [(12, s12), (14, s14), (15, s15), (17, s17), (19, s19), (20, s20)]) k l7_0) 4 15 (false :: false :: false :: false :: false :: false :: true :: false :: false :: false :: false :: false :: false :: false :: true :: false :: true :: true :: true :: true :: false :: false :: false :: false :: false :: false :: false :: false :: false :: false :: false :: false :: false :: false :: false :: false :: false :: false :: false :: false :: false :: false :: false :: false :: false :: false :: false :: false :: false :: false :: false :: false :: false :: false :: false :: false :: false :: false :: false :: false :: false :: false :: false :: false :: false :: false :: false :: false :: false :: false :: false :: false :: false :: false :: false :: false :: false :: false :: false :: false :: false :: false :: false :: true :: true :: true :: true :: true :: true :: true :: true :: true :: true :: true :: true :: true :: true :: true :: true :: true :: true :: true :: true :: true :: true :: true :: true :: false :: false :: false :: []) (fun i tm L H e g => svAt tm 14 = .v (.int .u32 (v % 256 ^ i)) ∧ L = [] ∧ H = Hx ∧ e = false ∧ g = false) (by omega) rfl ⟨congrArg (fun x => SV.v (.int .u32 x)) (show (0 : Int) = v % 256 ^ 0 by omega), rfl, rfl, rfl, rfl⟩ ?_
      intro i0 hi0
      conv => whnf
      intro j
      conv => whnf
      intro j
      conv => whnf
      intro j
      conv => whnf
      intro j
      conv => whnf
      intro j
      conv => whnf
      intro j
      conv => whnf
      intro j
      conv => whnf
      intro j
      conv => whnf
      intro j
      conv => whnf
      intro j
      conv => whnf
      intro j
      conv => whnf
      intro j
      conv => whnf
      intro j
      conv => whnf
      intro j
      conv => whnf
      intro j
      conv => whnf
      intro j
      conv => whnf
      intro j
      conv => whnf
      intro j
      conv => whnf
      intro j
      conv => whnf
      intro j
      conv => whnf
      intro j
      conv => whnf
      intro j
      conv => whnf
      intro j
      conv => whnf
      intro j
      conv => whnf
      intro j
      conv => whnf
      intro j
      conv => whnf
      intro j
      conv => whnf
      intro j
      conv => whnf
      intro j
      conv => whnf
      intro j
      conv => whnf
      refine Halt.mk ?_
      rintro L H' e g ⟨h14, rfl, rfl, rfl, rfl⟩ K kn kx kr
      conv at h14 => lhs; whnf
      subst h14
      have b1 : 0 ≤ v % 256 ^ i0 ∧ v % 256 ^ i0 < 4294967296 := pow_bd hp.1 i0
      repeat' (conv => whnf
               first
               | (refine Stop.mk ?_)
               | (refine fI_mk ?_)
               | (refine fO_mk ?_)
               | (refine fN_mk ?_)
               | fail)
      conv => whnf
      refine dec_split (fun h => ?_) (fun h => ?_)
      · have hlt : i0 < 4 := by have := of_decide_eq_true h; omega
        have g1 : alP 1 (i0 : Int) := al_one
        have b2 := take_bd (i := (i0 : Int)) hp.1
        have b3 := put_bytes i0 hlt hp.1 rfl
        clear kx kr
        repeat' (conv => whnf
                 first
                 | (refine Stop.mk ?_)
                 | (refine fI_is (if_pos g1) ?_)
                 | (refine fO_is (decide_eq_true g1) ?_)
                 | (refine fI_i64 (by first | omega | (simp only [Int.ofNat_eq_natCast] at *; omega)) ?_; intro z hz)
                 | (refine fI_u32 (by first | omega | (simp only [Int.ofNat_eq_natCast] at *; omega)) ?_; intro z hz)
                 | (refine fI_u8 (by first | omega | (simp only [Int.ofNat_eq_natCast] at *; omega)) ?_; intro z hz)
                 | (refine fI_u64 (by first | omega | (simp only [Int.ofNat_eq_natCast] at *; omega)) ?_; intro z hz)
                 | (refine fI_tdiv (by first | omega | (simp only [Int.ofNat_eq_natCast] at *; omega)) ?_; intro z hz)
                 | (refine fI_tmod (by first | omega | (simp only [Int.ofNat_eq_natCast] at *; omega)) ?_; intro z hz)
                 | (refine fI_gen ?_; intro z hz)
                 | (refine fO_gen ?_; intro z hz)
                 | (refine dec_true (by assumption) ?_)
                 | (refine dec_false (by assumption) ?_)
                 | (refine dec_split (fun h => ?_) (fun h => ?_))
                 | (apply silE)
                 | (exact And.intro rfl (And.intro rfl (And.intro rfl rfl)))
                 | (refine And.intro (by first | omega | ((simp only [decide_eq_true_eq, decide_eq_false_iff_not, Bool.and_eq_true, beq_iff_eq, Bool.not_eq_true', Bool.not_eq_false'] at *); omega) | (subst_vars; simp only [Int.ofNat_eq_natCast, tq_not, fq_not, tq_and, fq_and, tq_or, fq_or, tq_beq, fq_beq, tq_bne, fq_bne, tq_dec, fq_dec, one1, V.tup.injEq, V.agg.injEq, List.cons.injEq, V.int.injEq, V.bool.injEq, true_and, and_true, decide_eq_true_eq, decide_eq_false_iff_not, Bool.and_eq_true, Bool.and_eq_false_iff, Bool.or_eq_true, Bool.or_eq_false_iff, Bool.not_eq_true', Bool.not_eq_false', beq_iff_eq, wrap_u32, wrap_i64, wrap_u8, beq_eq_false_iff_ne, ne_eq, bne_iff_ne, bne_eq_false_iff_eq, eq_self, and_self, splice, V.cells, List.take_succ_cons, List.take_zero, List.take_nil, List.drop_zero, List.drop_succ_cons, List.drop_nil, List.cons_append, List.nil_append, List.append_nil, List.length_cons, List.length_nil, Nat.zero_add, Nat.reduceAdd, if_true, if_false, Bool.false_eq_true, beq_self_eq_true, decide_eq_decide, Bool.true_eq_false, or_false, false_or, or_true, true_or, and_false, false_and, not_true_eq_false, not_false_eq_true, Bool.and_true, Bool.true_and, Bool.not_true, Bool.not_false] at *; omega)) ?_)
                 | (refine Exists.intro _ (Exists.intro _ (And.intro rfl ?_)))
                 | (refine Exists.intro _ (And.intro rfl ?_))
                 | (refine Exists.intro _ (Exists.intro _ (Exists.intro _ (Exists.intro _ (And.intro rfl ?_)))))
                 | (refine ld_step rfl (by assumption) rfl ?_)
                 | (refine lds_step rfl (by assumption) rfl ?_)
                 | (refine fL_mk ?_)
                 | (refine fH_mk ?_)
                 | (refine fN_mk ?_)
                 | (refine fLB_mk ?_)
                 | (refine And.intro (by repeat (first | assumption | refine GLB_app ?_)) ?_)
                 | (refine ld_step rfl ((rd_x0 _ _ _ _ _).trans rfl) rfl ?_)
                 | (refine ld_step rfl ((rd_x1 _ _ _ _ _ _).trans rfl) rfl ?_)
                 | (refine ld_step rfl ((rd_x2 _ _ _ _ _ _ _).trans rfl) rfl ?_)
                 | (refine lds_step rfl ((rd_x0 _ _ _ _ _).trans rfl) rfl ?_)
                 | (refine lds_step rfl ((rd_x1 _ _ _ _ _ _).trans rfl) rfl ?_)
                 | (refine lds_step rfl ((rd_x2 _ _ _ _ _ _ _).trans rfl) rfl ?_)
                 | (refine mem_step (st_eq rfl rfl rfl rfl (wr_last _ _ _ _ rfl)) ?_)
                 | (refine drec_yes (by omega) ?_)
                 | (refine drec_no (by omega) ?_)
                 | (intro _)
                 | fail)
        conv => whnf
        subst hz
        have h15 : SV.v (.int .u32 (putV 1 (i0 : Int) (v % 256 ^ i0) (takeV 1 (i0 : Int) v))) = SV.v (.int .u32 (v % 256 ^ (i0 + 1))) := by rw [b3]
        refine kn hlt _ _ _ _ _ ?_ ?_
        · skip
          rfl
        · skip
          refine ⟨?_, ?_, ?_, ?_, ?_⟩
          · skip
            exact h15
          · rfl
          · skip
            rfl
          · rfl
          · skip
            rfl
      · have hge : i0 = 4 := by have := of_decide_eq_false h; omega
        have b4 : v % 256 ^ i0 = v := by subst hge; omega
        clear kn
        repeat' (conv => whnf
                 first
                 | (refine Stop.mk ?_)
                 | (refine fO_is (beq_iff_eq.2 b4) ?_)
                 | (refine fI_gen ?_; intro z hz)
                 | (refine fO_gen ?_; intro z hz)
                 | (refine kx _ _ _ _ _ _ ?_)
                 | (refine dec_true (by assumption) ?_)
                 | (refine dec_false (by assumption) ?_)
                 | (refine dec_split (fun h => ?_) (fun h => ?_))
                 | (apply silE)
                 | (exact And.intro rfl (And.intro rfl (And.intro rfl rfl)))
                 | (refine And.intro (by first | omega | ((simp only [decide_eq_true_eq, decide_eq_false_iff_not, Bool.and_eq_true, beq_iff_eq, Bool.not_eq_true', Bool.not_eq_false'] at *); omega) | (subst_vars; simp only [Int.ofNat_eq_natCast, tq_not, fq_not, tq_and, fq_and, tq_or, fq_or, tq_beq, fq_beq, tq_bne, fq_bne, tq_dec, fq_dec, one1, V.tup.injEq, V.agg.injEq, List.cons.injEq, V.int.injEq, V.bool.injEq, true_and, and_true, decide_eq_true_eq, decide_eq_false_iff_not, Bool.and_eq_true, Bool.and_eq_false_iff, Bool.or_eq_true, Bool.or_eq_false_iff, Bool.not_eq_true', Bool.not_eq_false', beq_iff_eq, wrap_u32, wrap_i64, wrap_u8, beq_eq_false_iff_ne, ne_eq, bne_iff_ne, bne_eq_false_iff_eq, eq_self, and_self, splice, V.cells, List.take_succ_cons, List.take_zero, List.take_nil, List.drop_zero, List.drop_succ_cons, List.drop_nil, List.cons_append, List.nil_append, List.append_nil, List.length_cons, List.length_nil, Nat.zero_add, Nat.reduceAdd, if_true, if_false, Bool.false_eq_true, beq_self_eq_true, decide_eq_decide, Bool.true_eq_false, or_false, false_or, or_true, true_or, and_false, false_and, not_true_eq_false, not_false_eq_true, Bool.and_true, Bool.true_and, Bool.not_true, Bool.not_false] at *; omega)) ?_)
                 | (refine Exists.intro _ (Exists.intro _ (And.intro rfl ?_)))
                 | (refine Exists.intro _ (And.intro rfl ?_))
                 | (refine Exists.intro _ (Exists.intro _ (Exists.intro _ (Exists.intro _ (And.intro rfl ?_)))))
                 | (refine ld_step rfl (by assumption) rfl ?_)
                 | (refine lds_step rfl (by assumption) rfl ?_)
                 | (refine fL_mk ?_)
                 | (refine fH_mk ?_)
                 | (refine fN_mk ?_)
                 | (refine fLB_mk ?_)
                 | (refine And.intro (by repeat (first | assumption | refine GLB_app ?_)) ?_)
                 | (refine ld_step rfl ((rd_x0 _ _ _ _ _).trans rfl) rfl ?_)
                 | (refine ld_step rfl ((rd_x1 _ _ _ _ _ _).trans rfl) rfl ?_)
                 | (refine ld_step rfl ((rd_x2 _ _ _ _ _ _ _).trans rfl) rfl ?_)
                 | (refine lds_step rfl ((rd_x0 _ _ _ _ _).trans rfl) rfl ?_)
                 | (refine lds_step rfl ((rd_x1 _ _ _ _ _ _).trans rfl) rfl ?_)
                 | (refine lds_step rfl ((rd_x2 _ _ _ _ _ _ _).trans rfl) rfl ?_)
                 | (refine mem_step (st_eq rfl rfl rfl rfl (wr_last _ _ _ _ rfl)) ?_)
                 | (refine drec_yes (by omega) ?_)
                 | (refine drec_no (by omega) ?_)
                 | (intro _)
                 | fail)
        conv => whnf

        exact leafE hq rfl
  · exact hs.elim
end Go.Ev
