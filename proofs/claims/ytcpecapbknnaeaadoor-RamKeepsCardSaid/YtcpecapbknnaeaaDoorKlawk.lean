/- dev: RamKeeps -/
import Derived.Test.YtcpecapbknnaeaaDoorKram5
import Derived.Test.YtcpecapbknnaeaaDoorKof2
set_option linter.all false
namespace Go.Ev
open Go Go.Proofs
set_option maxRecDepth 20000
set_option maxHeartbeats 4000000
theorem blk_rd {H : List B} {b : Nat} {ty : TypeId} {l : List Int} {ws : List V} (h : H[b]? = some (.rw ty (l.flatMap encB ++ ws))) {o m : Nat} (ho : o + m ≤ l.length) : rd H b (0 + o * 1) (m * 1) = some (((l.drop o).take m).flatMap encB) := by
  have h0 : rd H b 0 (l.length * 1) = some (l.flatMap encB) := rd_block h (by rw [flat_len encB_len])
  have := rd_sub h0 (o * 1) (m * 1) (by omega)
  rw [this, encB_map, encB_map, List.map_take, List.map_drop, Nat.mul_one, Nat.mul_one]
theorem blk_one {H : List B} {b : Nat} {ty : TypeId} {l : List Int} {ws : List V} (h : H[b]? = some (.rw ty (l.flatMap encB ++ ws))) {o : Nat} (ho : o < l.length) : rd H b (0 + o * 1) 1 = some [.int .u8 (l.getD o 0)] := by
  have := blk_rd h (o := o) (m := 1) (by omega)
  rw [this, List.drop_eq_getElem_cons ho, List.getD_eq_getElem?_getD, List.getElem?_eq_getElem ho]
  rfl
theorem blk_app {H : List B} {b : Nat} {x : B} (h : H[b]? = some x) (X : List B) : (H ++ X)[b]? = some x := by
  rw [List.getElem?_append_left (List.getElem?_eq_some_iff.1 h).1]; exact h
theorem getD_of {l : List Int} {i : Nat} {x : Int} (h : l[i]? = some x) : l.getD i 0 = x := by rw [List.getD_eq_getElem?_getD, h]; rfl
theorem rep_getD (k j : Nat) : (List.replicate k (0 : Int)).getD j 0 = 0 := by
  rw [List.getD_eq_getElem?_getD, List.getElem?_replicate]
  split <;> rfl
theorem blk_set {H : List B} {b c : Nat} {x y : B} (h : H[b]? = some x) (hc : c ≠ b) : (H.set c y)[b]? = some x := by rw [List.getElem?_set_ne hc]; exact h
def s6 : Sp := fun vs H Q => match vs with
  | [.int .i64 n, .sl p len cp, .int .i64 off, .int .i64 sz, .int .u32 v, .int .i64 at_, .int .i64 by_] => ((-9223372036854775808 ≤ n ∧ n < 9223372036854775808) ∧ (-9223372036854775808 ≤ off ∧ off < 9223372036854775808) ∧ (-9223372036854775808 ≤ sz ∧ sz < 9223372036854775808) ∧ (0 ≤ v ∧ v < 4294967296) ∧ (-9223372036854775808 ≤ at_ ∧ at_ < 9223372036854775808) ∧ (-9223372036854775808 ≤ by_ ∧ by_ < 9223372036854775808)) ∧ GLB H ∧ (∃ l, DeedsAt H p len l) ∧ Q (.bool true) H false false
  | _ => False
theorem k6 : Snd Tryd.prog 2 6 s6 := by
  refine snd_of_ev (by kernel_rfl) (C := tab [(7, s7), (8, s8), (9, s9), (10, s10), (12, s12), (16, s16), (18, s18), (21, s21), (22, s22), (23, s23)]) (sndC_cons k7 (sndC_cons k8 (sndC_cons k9 (sndC_cons k10 (sndC_cons k12 (sndC_cons k16 (sndC_cons k18 (sndC_cons k21 (sndC_cons k22 (sndC_cons k23 (sndC_nil))))))))))) x6 n6 c6 5000 ?_
  have hC : MonoC (tab [(7, s7), (8, s8), (9, s9), (10, s10), (12, s12), (16, s16), (18, s18), (21, s21), (22, s22), (23, s23)]) := monoC_cons m7 (monoC_cons m8 (monoC_cons m9 (monoC_cons m10 (monoC_cons m12 (monoC_cons m16 (monoC_cons m18 (monoC_cons m21 (monoC_cons m22 (monoC_cons m23 (monoC_nil))))))))))
  intro vs Hx Q hs
  unfold s6 at hs
  split at hs
  · rename_i n p len cp off sz v at_ by_
    obtain ⟨hp, hg, ⟨l, rfl, hok, hl⟩, hq⟩ := hs
    suffices hh : ∀ k, 4500 < k → evFun (tab [(7, s7), (8, s8), (9, s9), (10, s10), (12, s12), (16, s16), (18, s18), (21, s21), (22, s22), (23, s23)]) k e6 [.int .i64 n, .sl p l.length cp, .int .i64 off, .int .i64 sz, .int .u32 v, .int .i64 at_, .int .i64 by_] Hx Q from hh _ (by omega)
    intro k hk
    refine evFun_in (tm := SV.v (.int .i64 n) :: SV.v (.sl p l.length cp) :: SV.v (.int .i64 off) :: SV.v (.int .i64 sz) :: SV.v (.int .u32 v) :: SV.v (.int .i64 at_) :: SV.v (.int .i64 by_) :: undefV :: undefV :: undefV :: undefV :: undefV :: undefV :: undefV :: undefV :: undefV :: undefV :: undefV :: undefV :: undefV :: undefV :: undefV :: undefV :: undefV :: undefV :: undefV :: undefV :: undefV :: undefV :: undefV :: undefV :: undefV :: undefV :: undefV :: undefV :: undefV :: undefV :: undefV :: undefV :: undefV :: undefV :: undefV :: undefV :: undefV :: undefV :: undefV :: undefV :: undefV :: undefV :: undefV :: undefV :: undefV :: undefV :: undefV :: undefV :: undefV :: undefV :: undefV :: undefV :: undefV :: undefV :: undefV :: undefV :: undefV :: undefV :: undefV :: undefV :: undefV :: undefV :: undefV :: undefV :: undefV :: undefV :: undefV :: undefV :: undefV :: undefV :: undefV :: undefV :: undefV :: undefV :: undefV :: undefV :: undefV :: undefV :: undefV :: undefV :: undefV :: undefV :: undefV :: undefV :: undefV :: undefV :: undefV :: undefV :: undefV :: undefV :: undefV :: undefV :: undefV :: undefV :: undefV :: undefV :: undefV :: undefV :: undefV :: undefV :: undefV :: undefV :: undefV :: undefV :: undefV :: undefV :: undefV :: undefV :: undefV :: undefV :: undefV :: undefV :: undefV :: undefV :: undefV :: undefV :: undefV :: undefV :: undefV :: undefV :: undefV :: undefV :: undefV :: undefV :: undefV :: undefV :: undefV :: undefV :: undefV :: undefV :: undefV :: undefV :: undefV :: undefV :: undefV :: undefV :: undefV :: undefV :: undefV :: undefV :: undefV :: undefV :: undefV :: undefV :: undefV :: undefV :: undefV :: undefV :: undefV :: undefV :: undefV :: undefV :: undefV :: undefV :: undefV :: undefV :: undefV :: undefV :: undefV :: undefV :: undefV :: undefV :: undefV :: undefV :: undefV :: undefV :: undefV :: undefV :: undefV :: undefV :: undefV :: undefV :: undefV :: undefV :: undefV :: undefV :: undefV :: undefV :: undefV :: undefV :: undefV :: undefV :: undefV :: undefV :: undefV :: undefV :: undefV :: undefV :: undefV :: undefV :: undefV :: undefV :: undefV :: undefV :: undefV :: undefV :: undefV :: undefV :: undefV :: undefV :: undefV :: undefV :: undefV :: undefV :: undefV :: undefV :: undefV :: undefV :: undefV :: undefV :: undefV :: undefV :: undefV :: undefV :: undefV :: undefV :: undefV :: undefV :: undefV :: undefV :: undefV :: undefV :: undefV :: undefV :: undefV :: undefV :: undefV :: undefV :: undefV :: []) rfl ?_
    show rC _ _ r6_0 _ _ _ _ _ _
    by_cases h0 : newP n
    · obtain ⟨m, hm⟩ : ∃ m, m = (n / 4).toNat := ⟨_, rfl⟩
      have hn4 : 1 ≤ m ∧ m ≤ 1024 ∧ 4 * (m : Int) = n := by unfold newP at h0; omega
      obtain ⟨H1, hH1⟩ : ∃ H1, H1 = Hx ++ [WB (List.replicate m 0)] ++ [RB Hx.length m] := ⟨_, rfl⟩
      have r1 : RamAt H1 (Hx.length + 1) Hx.length (List.replicate m 0) := hH1 ▸ ram0 Hx (len0 m) (u32s0 m) ⟨hn4.1, hn4.2.1⟩
      have g1 : GLB H1 := hH1 ▸ GLB_app (GLB_app hg)
      have t1 : Hx = List.take Hx.length H1 := hH1 ▸ take_app2 Hx _ _
      refine rC_seqH ?_
      repeat' (conv => whnf
               first
               | (refine Stop.mk ?_)
               | (refine fI_gen ?_; intro z hz)
               | (refine fO_gen ?_; intro z hz)
               | (refine dec_true (by assumption) ?_)
               | (refine dec_false (by assumption) ?_)
               | (refine dec_split (fun h => ?_) (fun h => ?_))
               | (apply silE)
               | (exact And.intro rfl (And.intro rfl (And.intro rfl rfl)))
               | (refine And.intro (by first | omega | ((simp only [decide_eq_true_eq, decide_eq_false_iff_not, Bool.and_eq_true, beq_iff_eq, Bool.not_eq_true', Bool.not_eq_false'] at *); omega) | (subst_vars; simp only [Int.ofNat_eq_natCast, tq_not, fq_not, tq_and, fq_and, tq_or, fq_or, tq_beq, fq_beq, tq_bne, fq_bne, tq_dec, fq_dec, one1, V.tup.injEq, V.agg.injEq, List.cons.injEq, V.int.injEq, V.bool.injEq, true_and, and_true, decide_eq_true_eq, decide_eq_false_iff_not, Bool.and_eq_true, Bool.and_eq_false_iff, Bool.or_eq_true, Bool.or_eq_false_iff, Bool.not_eq_true', Bool.not_eq_false', beq_iff_eq, wrap_u32, wrap_i64, wrap_u8, beq_eq_false_iff_ne, ne_eq, bne_iff_ne, bne_eq_false_iff_eq, eq_self, and_self, splice, V.cells, List.take_succ_cons, List.take_zero, List.take_nil, List.drop_zero, List.drop_succ_cons, List.drop_nil, List.cons_append, List.nil_append, List.append_nil, List.length_cons, List.length_nil, Nat.zero_add, Nat.reduceAdd, if_true, if_false, Bool.false_eq_true, beq_self_eq_true, decide_eq_decide, Bool.true_eq_false, or_false, false_or, or_true, true_or, and_false, false_and, not_true_eq_false, not_false_eq_true, Bool.and_true, Bool.true_and, Bool.not_true, Bool.not_false] at *; omega)) ?_)
               | (refine Exists.intro _ (Exists.intro _ (And.intro rfl ?_)))
               | (refine Exists.intro _ (And.intro rfl ?_))
               | (refine Exists.intro _ (Exists.intro _ (Exists.intro _ (Exists.intro _ (And.intro rfl ?_)))))
               | (refine ld_step rfl (by assumption) rfl ?_)
               | (refine lds_step rfl (by assumption) rfl ?_)
               | (refine fL_mk ?_)
               | (refine fH_mk ?_)
               | (refine fN_mk ?_)
               | (refine fLB_mk ?_)
               | (refine And.intro (by repeat (first | assumption | refine GLB_app ?_)) ?_)
               | (refine ld_step rfl ((rd_x0 _ _ _ _ _).trans rfl) rfl ?_)
               | (refine ld_step rfl ((rd_x1 _ _ _ _ _ _).trans rfl) rfl ?_)
               | (refine ld_step rfl ((rd_x2 _ _ _ _ _ _ _).trans rfl) rfl ?_)
               | (refine lds_step rfl ((rd_x0 _ _ _ _ _).trans rfl) rfl ?_)
               | (refine lds_step rfl ((rd_x1 _ _ _ _ _ _).trans rfl) rfl ?_)
               | (refine lds_step rfl ((rd_x2 _ _ _ _ _ _ _).trans rfl) rfl ?_)
               | (refine mem_step (st_eq rfl rfl rfl rfl (wr_last _ _ _ _ rfl)) ?_)
               | (refine drec_yes (by omega) ?_)
               | (refine drec_no (by omega) ?_)
               | (intro _)
               | fail)
      any_goals refine Halt.mk ?_
      any_goals show rC _ _ r6_1 _ _ _ _ _ _
      refine rC_seqH ?_
      repeat' (conv => whnf
               first
               | (refine Stop.mk ?_)
               | (refine fI_gen ?_; intro z hz)
               | (refine fO_gen ?_; intro z hz)
               | (refine ⟨hg, ?_⟩)
               | (refine dec_true (by assumption) ?_)
               | (refine dec_false (by assumption) ?_)
               | (refine dec_split (fun h => ?_) (fun h => ?_))
               | (apply silE)
               | (exact And.intro rfl (And.intro rfl (And.intro rfl rfl)))
               | (refine And.intro (by first | omega | ((simp only [decide_eq_true_eq, decide_eq_false_iff_not, Bool.and_eq_true, beq_iff_eq, Bool.not_eq_true', Bool.not_eq_false'] at *); omega) | (subst_vars; simp only [Int.ofNat_eq_natCast, tq_not, fq_not, tq_and, fq_and, tq_or, fq_or, tq_beq, fq_beq, tq_bne, fq_bne, tq_dec, fq_dec, one1, V.tup.injEq, V.agg.injEq, List.cons.injEq, V.int.injEq, V.bool.injEq, true_and, and_true, decide_eq_true_eq, decide_eq_false_iff_not, Bool.and_eq_true, Bool.and_eq_false_iff, Bool.or_eq_true, Bool.or_eq_false_iff, Bool.not_eq_true', Bool.not_eq_false', beq_iff_eq, wrap_u32, wrap_i64, wrap_u8, beq_eq_false_iff_ne, ne_eq, bne_iff_ne, bne_eq_false_iff_eq, eq_self, and_self, splice, V.cells, List.take_succ_cons, List.take_zero, List.take_nil, List.drop_zero, List.drop_succ_cons, List.drop_nil, List.cons_append, List.nil_append, List.append_nil, List.length_cons, List.length_nil, Nat.zero_add, Nat.reduceAdd, if_true, if_false, Bool.false_eq_true, beq_self_eq_true, decide_eq_decide, Bool.true_eq_false, or_false, false_or, or_true, true_or, and_false, false_and, not_true_eq_false, not_false_eq_true, Bool.and_true, Bool.true_and, Bool.not_true, Bool.not_false] at *; omega)) ?_)
               | (refine Exists.intro _ (Exists.intro _ (And.intro rfl ?_)))
               | (refine Exists.intro _ (And.intro rfl ?_))
               | (refine Exists.intro _ (Exists.intro _ (Exists.intro _ (Exists.intro _ (And.intro rfl ?_)))))
               | (refine ld_step rfl (by assumption) rfl ?_)
               | (refine lds_step rfl (by assumption) rfl ?_)
               | (refine fL_mk ?_)
               | (refine fH_mk ?_)
               | (refine fN_mk ?_)
               | (refine fLB_mk ?_)
               | (refine And.intro (by repeat (first | assumption | refine GLB_app ?_)) ?_)
               | (refine ld_step rfl ((rd_x0 _ _ _ _ _).trans rfl) rfl ?_)
               | (refine ld_step rfl ((rd_x1 _ _ _ _ _ _).trans rfl) rfl ?_)
               | (refine ld_step rfl ((rd_x2 _ _ _ _ _ _ _).trans rfl) rfl ?_)
               | (refine lds_step rfl ((rd_x0 _ _ _ _ _).trans rfl) rfl ?_)
               | (refine lds_step rfl ((rd_x1 _ _ _ _ _ _).trans rfl) rfl ?_)
               | (refine lds_step rfl ((rd_x2 _ _ _ _ _ _ _).trans rfl) rfl ?_)
               | (refine mem_step (st_eq rfl rfl rfl rfl (wr_last _ _ _ _ rfl)) ?_)
               | (refine drec_yes (by omega) ?_)
               | (refine drec_no (by omega) ?_)
               | (intro _)
               | fail)
      any_goals refine Halt.mk ?_
      any_goals show rC _ _ r6_2 _ _ _ _ _ _
      refine rC_seqH ?_
      repeat' (conv => whnf
               first
               | (refine Stop.mk ?_)
               | (refine fI_gen ?_; intro z hz)
               | (refine fO_gen ?_; intro z hz)
               | (refine ⟨hp.1, fun _ => ?_, fun h => absurd h0 h⟩)
               | (refine dec_true (by assumption) ?_)
               | (refine dec_false (by assumption) ?_)
               | (refine dec_split (fun h => ?_) (fun h => ?_))
               | (apply silE)
               | (exact And.intro rfl (And.intro rfl (And.intro rfl rfl)))
               | (refine And.intro (by first | omega | ((simp only [decide_eq_true_eq, decide_eq_false_iff_not, Bool.and_eq_true, beq_iff_eq, Bool.not_eq_true', Bool.not_eq_false'] at *); omega) | (subst_vars; simp only [Int.ofNat_eq_natCast, tq_not, fq_not, tq_and, fq_and, tq_or, fq_or, tq_beq, fq_beq, tq_bne, fq_bne, tq_dec, fq_dec, one1, V.tup.injEq, V.agg.injEq, List.cons.injEq, V.int.injEq, V.bool.injEq, true_and, and_true, decide_eq_true_eq, decide_eq_false_iff_not, Bool.and_eq_true, Bool.and_eq_false_iff, Bool.or_eq_true, Bool.or_eq_false_iff, Bool.not_eq_true', Bool.not_eq_false', beq_iff_eq, wrap_u32, wrap_i64, wrap_u8, beq_eq_false_iff_ne, ne_eq, bne_iff_ne, bne_eq_false_iff_eq, eq_self, and_self, splice, V.cells, List.take_succ_cons, List.take_zero, List.take_nil, List.drop_zero, List.drop_succ_cons, List.drop_nil, List.cons_append, List.nil_append, List.append_nil, List.length_cons, List.length_nil, Nat.zero_add, Nat.reduceAdd, if_true, if_false, Bool.false_eq_true, beq_self_eq_true, decide_eq_decide, Bool.true_eq_false, or_false, false_or, or_true, true_or, and_false, false_and, not_true_eq_false, not_false_eq_true, Bool.and_true, Bool.true_and, Bool.not_true, Bool.not_false] at *; omega)) ?_)
               | (refine Exists.intro _ (Exists.intro _ (And.intro rfl ?_)))
               | (refine Exists.intro _ (And.intro rfl ?_))
               | (refine Exists.intro _ (Exists.intro _ (Exists.intro _ (Exists.intro _ (And.intro rfl ?_)))))
               | (refine ld_step rfl (by assumption) rfl ?_)
               | (refine lds_step rfl (by assumption) rfl ?_)
               | (refine fL_mk ?_)
               | (refine fH_mk ?_)
               | (refine fN_mk ?_)
               | (refine fLB_mk ?_)
               | (refine And.intro (by repeat (first | assumption | refine GLB_app ?_)) ?_)
               | (refine ld_step rfl ((rd_x0 _ _ _ _ _).trans rfl) rfl ?_)
               | (refine ld_step rfl ((rd_x1 _ _ _ _ _ _).trans rfl) rfl ?_)
               | (refine ld_step rfl ((rd_x2 _ _ _ _ _ _ _).trans rfl) rfl ?_)
               | (refine lds_step rfl ((rd_x0 _ _ _ _ _).trans rfl) rfl ?_)
               | (refine lds_step rfl ((rd_x1 _ _ _ _ _ _).trans rfl) rfl ?_)
               | (refine lds_step rfl ((rd_x2 _ _ _ _ _ _ _).trans rfl) rfl ?_)
               | (refine mem_step (st_eq rfl rfl rfl rfl (wr_last _ _ _ _ rfl)) ?_)
               | (refine drec_yes (by omega) ?_)
               | (refine drec_no (by omega) ?_)
               | (intro _)
               | fail)
      any_goals refine Halt.mk ?_
      any_goals show rC _ _ r6_3 _ _ _ _ _ _
      rw [← hm, ← hH1]
      by_cases hlen : l.length ≤ 100
      · have hgt : decide ((l.length : Int) > 100) = false := decide_eq_false (by omega)
        refine rC_seqH ?_
        repeat' (conv => whnf
                 first
                 | (refine Stop.mk ?_)
                 | (with_reducible refine fI_is (a := (l.length : Int)) rfl ?_)
                 | (with_reducible refine fO_is hgt ?_)
                 | (refine fI_gen ?_; intro z hz)
                 | (refine fO_gen ?_; intro z hz)
                 | (refine dec_true (by assumption) ?_)
                 | (refine dec_false (by assumption) ?_)
                 | (refine dec_split (fun h => ?_) (fun h => ?_))
                 | (apply silE)
                 | (exact And.intro rfl (And.intro rfl (And.intro rfl rfl)))
                 | (refine And.intro (by first | omega | ((simp only [decide_eq_true_eq, decide_eq_false_iff_not, Bool.and_eq_true, beq_iff_eq, Bool.not_eq_true', Bool.not_eq_false'] at *); omega) | (subst_vars; simp only [Int.ofNat_eq_natCast, tq_not, fq_not, tq_and, fq_and, tq_or, fq_or, tq_beq, fq_beq, tq_bne, fq_bne, tq_dec, fq_dec, one1, V.tup.injEq, V.agg.injEq, List.cons.injEq, V.int.injEq, V.bool.injEq, true_and, and_true, decide_eq_true_eq, decide_eq_false_iff_not, Bool.and_eq_true, Bool.and_eq_false_iff, Bool.or_eq_true, Bool.or_eq_false_iff, Bool.not_eq_true', Bool.not_eq_false', beq_iff_eq, wrap_u32, wrap_i64, wrap_u8, beq_eq_false_iff_ne, ne_eq, bne_iff_ne, bne_eq_false_iff_eq, eq_self, and_self, splice, V.cells, List.take_succ_cons, List.take_zero, List.take_nil, List.drop_zero, List.drop_succ_cons, List.drop_nil, List.cons_append, List.nil_append, List.append_nil, List.length_cons, List.length_nil, Nat.zero_add, Nat.reduceAdd, if_true, if_false, Bool.false_eq_true, beq_self_eq_true, decide_eq_decide, Bool.true_eq_false, or_false, false_or, or_true, true_or, and_false, false_and, not_true_eq_false, not_false_eq_true, Bool.and_true, Bool.true_and, Bool.not_true, Bool.not_false] at *; omega)) ?_)
                 | (refine Exists.intro _ (Exists.intro _ (And.intro rfl ?_)))
                 | (refine Exists.intro _ (And.intro rfl ?_))
                 | (refine Exists.intro _ (Exists.intro _ (Exists.intro _ (Exists.intro _ (And.intro rfl ?_)))))
                 | (refine ld_step rfl (by assumption) rfl ?_)
                 | (refine lds_step rfl (by assumption) rfl ?_)
                 | (refine fL_mk ?_)
                 | (refine fH_mk ?_)
                 | (refine fN_mk ?_)
                 | (refine fLB_mk ?_)
                 | (refine And.intro (by repeat (first | assumption | refine GLB_app ?_)) ?_)
                 | (refine ld_step rfl ((rd_x0 _ _ _ _ _).trans rfl) rfl ?_)
                 | (refine ld_step rfl ((rd_x1 _ _ _ _ _ _).trans rfl) rfl ?_)
                 | (refine ld_step rfl ((rd_x2 _ _ _ _ _ _ _).trans rfl) rfl ?_)
                 | (refine lds_step rfl ((rd_x0 _ _ _ _ _).trans rfl) rfl ?_)
                 | (refine lds_step rfl ((rd_x1 _ _ _ _ _ _).trans rfl) rfl ?_)
                 | (refine lds_step rfl ((rd_x2 _ _ _ _ _ _ _).trans rfl) rfl ?_)
                 | (refine mem_step (st_eq rfl rfl rfl rfl (wr_last _ _ _ _ rfl)) ?_)
                 | (refine drec_yes (by omega) ?_)
                 | (refine drec_no (by omega) ?_)
                 | (intro _)
                 | fail)
        any_goals refine Halt.mk ?_
        any_goals show rC _ _ r6_4 _ _ _ _ _ _
        refine rC_seqH ?_
        repeat' (conv => whnf
                 first
                 | (refine Stop.mk ?_)
                 | (refine fI_mk ?_)
                 | (refine fO_mk ?_)
                 | (refine fN_mk ?_)
                 | fail)
        conv => whnf
        refine rLoop_ctr (c := rC (tab [(7, s7), (8, s8), (9, s9), (10, s10), (12, s12), (16, s16), (18, s18), (21, s21), (22, s22), (23, s23)]) k l6_0) l.length 17 (false :: false :: false :: false :: false :: false :: false :: false :: false :: false :: false :: false :: false :: false :: false :: false :: false :: false :: false :: false :: false :: false :: false :: false :: false :: false :: false :: false :: false :: false :: false :: false :: false :: false :: false :: false :: false :: false :: false :: false :: false :: false :: false :: true :: true :: true :: true :: true :: true :: true :: true :: true :: true :: true :: true :: true :: true :: true :: true :: true :: true :: true :: true :: true :: true :: true :: false :: false :: false :: false :: false :: false :: false :: false :: false :: false :: false :: false :: false :: false :: false :: false :: false :: false :: false :: false :: false :: false :: false :: false :: false :: false :: false :: false :: false :: false :: false :: false :: false :: false :: false :: false :: false :: false :: false :: false :: false :: false :: false :: false :: false :: false :: false :: false :: false :: false :: false :: false :: false :: false :: false :: false :: false :: false :: false :: false :: false :: false :: false :: false :: false :: false :: false :: false :: false :: false :: false :: false :: false :: false :: false :: false :: false :: false :: false :: false :: false :: false :: false :: false :: false :: false :: false :: false :: false :: false :: false :: false :: false :: false :: false :: false :: false :: false :: false :: false :: false :: false :: false :: false :: false :: false :: false :: false :: false :: false :: false :: false :: false :: false :: false :: false :: false :: false :: false :: false :: false :: false :: false :: false :: false :: false :: false :: false :: false :: false :: false :: false :: false :: false :: false :: false :: false :: false :: false :: false :: false :: false :: false :: false :: false :: false :: false :: false :: false :: false :: false :: false :: false :: false :: false :: false :: false :: false :: false :: false :: false :: false :: false :: false :: false :: false :: false :: false :: false :: false :: []) (fun i tm L H e g => (∃ w, w.length = m ∧ U32s w ∧ H = H1.set Hx.length (WB w)) ∧ L = [] ∧ e = false ∧ g = true) (by omega) rfl ⟨⟨List.replicate m 0, len0 m, u32s0 m, r1.same.symm⟩, rfl, rfl, rfl⟩ ?_
        intro i0 hi0
        conv => whnf
        intro j
        conv => whnf
        intro j
        conv => whnf
        intro j
        conv => whnf
        intro j
        conv => whnf
        intro j
        conv => whnf
        intro j
        conv => whnf
        intro j
        conv => whnf
        intro j
        conv => whnf
        intro j
        conv => whnf
        intro j
        conv => whnf
        intro j
        conv => whnf
        intro j
        conv => whnf
        intro j
        conv => whnf
        intro j
        conv => whnf
        intro j
        conv => whnf
        intro j
        conv => whnf
        intro j
        conv => whnf
        intro j
        conv => whnf
        intro j
        conv => whnf
        intro j
        conv => whnf
        intro j
        conv => whnf
        intro j
        conv => whnf
        intro j
        conv => whnf
        refine Halt.mk ?_
        rintro L H' e g ⟨⟨w, hw, hwu, rfl⟩, rfl, rfl, rfl⟩ K kn kx kr
        have r2 : RamAt (H1.set Hx.length (WB w)) (Hx.length + 1) Hx.length w := r1.set (hw.trans (len0 m).symm) hwu
        have g2 : GLB (H1.set Hx.length (WB w)) := r1.glb g1 _
        repeat' (conv => whnf
                 first
                 | (refine Stop.mk ?_)
                 | (refine fI_mk ?_)
                 | (refine fO_mk ?_)
                 | (refine fN_mk ?_)
                 | fail)
        conv => whnf
        refine dec_split (fun h => ?_) (fun h => ?_)
        · have hlt : i0 < l.length := by have := of_decide_eq_true h; omega
          clear kx kr
          rcases hl with rfl | ⟨b, o, rfl, hl⟩
          · exact absurd hlt (Nat.not_lt_zero _)
          obtain ⟨d, hd⟩ : ∃ d, d = l[i0] := ⟨_, rfl⟩
          have hdo : okD d := hd ▸ hok _ (List.getElem_mem hlt)
          have he : rd (H1.set Hx.length (WB w)) b (o + i0 * 4) 4 = some (encD d) := by
            rw [hH1, List.append_assoc, hd]
            exact rd_keep (rd_el encD_len hl i0 hlt _ rfl) (Nat.le_refl _)
          have he1 : ∀ p, p = o + i0 * 4 + 1 → rd (H1.set Hx.length (WB w)) b p 1 = some [.int .i64 d.2.1] := fun p hp => hp ▸ rd_sub he 1 1 (by decide)
          have he2 : ∀ p, p = o + i0 * 4 + 2 → rd (H1.set Hx.length (WB w)) b p 1 = some [.int .i64 d.2.2.1] := fun p hp => hp ▸ rd_sub he 2 1 (by decide)
          have he3 : ∀ p, p = o + i0 * 4 + 3 → rd (H1.set Hx.length (WB w)) b p 1 = some [.int .u32 d.2.2.2] := fun p hp => hp ▸ rd_sub he 3 1 (by decide)
          repeat' (conv => whnf
                   first
                   | (refine Stop.mk ?_)
                   | (refine fI_i64 (by first | omega | (simp only [Int.ofNat_eq_natCast] at *; omega)) ?_; intro z hz)
                   | (refine fI_u32 (by first | omega | (simp only [Int.ofNat_eq_natCast] at *; omega)) ?_; intro z hz)
                   | (refine fI_u8 (by first | omega | (simp only [Int.ofNat_eq_natCast] at *; omega)) ?_; intro z hz)
                   | (refine fI_u64 (by first | omega | (simp only [Int.ofNat_eq_natCast] at *; omega)) ?_; intro z hz)
                   | (refine fI_tdiv (by first | omega | (simp only [Int.ofNat_eq_natCast] at *; omega)) ?_; intro z hz)
                   | (refine fI_tmod (by first | omega | (simp only [Int.ofNat_eq_natCast] at *; omega)) ?_; intro z hz)
                   | (refine fI_gen ?_; intro z hz)
                   | (refine fO_gen ?_; intro z hz)
                   | (refine pure_step (ixs_eq rfl rfl (by omega) (show _ < (l.length : Int) by omega)) ?_)
                   | (refine ld_step rfl (he1 _ (by omega)) rfl ?_)
                   | (refine ld_step rfl (he2 _ (by omega)) rfl ?_)
                   | (refine ld_step rfl (he3 _ (by omega)) rfl ?_)
                   | (refine lds_step rfl (he1 _ (by omega)) rfl ?_)
                   | (refine lds_step rfl (he2 _ (by omega)) rfl ?_)
                   | (refine lds_step rfl (he3 _ (by omega)) rfl ?_)
                   | (refine ⟨⟨hdo.2.1, hdo.2.2.2⟩, g2, _, _, r2, ?_⟩)
                   | (refine dec_true (by assumption) ?_)
                   | (refine dec_false (by assumption) ?_)
                   | (refine dec_split (fun h => ?_) (fun h => ?_))
                   | (apply silE)
                   | (exact And.intro rfl (And.intro rfl (And.intro rfl rfl)))
                   | (refine And.intro (by first | omega | ((simp only [decide_eq_true_eq, decide_eq_false_iff_not, Bool.and_eq_true, beq_iff_eq, Bool.not_eq_true', Bool.not_eq_false'] at *); omega) | (subst_vars; simp only [Int.ofNat_eq_natCast, tq_not, fq_not, tq_and, fq_and, tq_or, fq_or, tq_beq, fq_beq, tq_bne, fq_bne, tq_dec, fq_dec, one1, V.tup.injEq, V.agg.injEq, List.cons.injEq, V.int.injEq, V.bool.injEq, true_and, and_true, decide_eq_true_eq, decide_eq_false_iff_not, Bool.and_eq_true, Bool.and_eq_false_iff, Bool.or_eq_true, Bool.or_eq_false_iff, Bool.not_eq_true', Bool.not_eq_false', beq_iff_eq, wrap_u32, wrap_i64, wrap_u8, beq_eq_false_iff_ne, ne_eq, bne_iff_ne, bne_eq_false_iff_eq, eq_self, and_self, splice, V.cells, List.take_succ_cons, List.take_zero, List.take_nil, List.drop_zero, List.drop_succ_cons, List.drop_nil, List.cons_append, List.nil_append, List.append_nil, List.length_cons, List.length_nil, Nat.zero_add, Nat.reduceAdd, if_true, if_false, Bool.false_eq_true, beq_self_eq_true, decide_eq_decide, Bool.true_eq_false, or_false, false_or, or_true, true_or, and_false, false_and, not_true_eq_false, not_false_eq_true, Bool.and_true, Bool.true_and, Bool.not_true, Bool.not_false] at *; omega)) ?_)
                   | (refine Exists.intro _ (Exists.intro _ (And.intro rfl ?_)))
                   | (refine Exists.intro _ (And.intro rfl ?_))
                   | (refine Exists.intro _ (Exists.intro _ (Exists.intro _ (Exists.intro _ (And.intro rfl ?_)))))
                   | (refine ld_step rfl (by assumption) rfl ?_)
                   | (refine lds_step rfl (by assumption) rfl ?_)
                   | (refine fL_mk ?_)
                   | (refine fH_mk ?_)
                   | (refine fN_mk ?_)
                   | (refine fLB_mk ?_)
                   | (refine And.intro (by repeat (first | assumption | refine GLB_app ?_)) ?_)
                   | (refine ld_step rfl ((rd_x0 _ _ _ _ _).trans rfl) rfl ?_)
                   | (refine ld_step rfl ((rd_x1 _ _ _ _ _ _).trans rfl) rfl ?_)
                   | (refine ld_step rfl ((rd_x2 _ _ _ _ _ _ _).trans rfl) rfl ?_)
                   | (refine lds_step rfl ((rd_x0 _ _ _ _ _).trans rfl) rfl ?_)
                   | (refine lds_step rfl ((rd_x1 _ _ _ _ _ _).trans rfl) rfl ?_)
                   | (refine lds_step rfl ((rd_x2 _ _ _ _ _ _ _).trans rfl) rfl ?_)
                   | (refine mem_step (st_eq rfl rfl rfl rfl (wr_last _ _ _ _ rfl)) ?_)
                   | (refine drec_yes (by omega) ?_)
                   | (refine drec_no (by omega) ?_)
                   | (intro _)
                   | fail)
          conv => whnf
          subst hz
          exact kn hlt _ _ _ _ _ rfl ⟨⟨_, (wrL_len _ _ _ _).trans hw, r2.wu hdo.2.2.2, List.set_set _⟩, rfl, rfl, rfl⟩
        · clear kn
          repeat' (conv => whnf
                   first
                   | (refine Stop.mk ?_)
                   | (refine fI_gen ?_; intro z hz)
                   | (refine fO_gen ?_; intro z hz)
                   | (refine kx _ _ _ _ _ _ ?_)
                   | (refine dec_true (by assumption) ?_)
                   | (refine dec_false (by assumption) ?_)
                   | (refine dec_split (fun h => ?_) (fun h => ?_))
                   | (apply silE)
                   | (exact And.intro rfl (And.intro rfl (And.intro rfl rfl)))
                   | (refine And.intro (by first | omega | ((simp only [decide_eq_true_eq, decide_eq_false_iff_not, Bool.and_eq_true, beq_iff_eq, Bool.not_eq_true', Bool.not_eq_false'] at *); omega) | (subst_vars; simp only [Int.ofNat_eq_natCast, tq_not, fq_not, tq_and, fq_and, tq_or, fq_or, tq_beq, fq_beq, tq_bne, fq_bne, tq_dec, fq_dec, one1, V.tup.injEq, V.agg.injEq, List.cons.injEq, V.int.injEq, V.bool.injEq, true_and, and_true, decide_eq_true_eq, decide_eq_false_iff_not, Bool.and_eq_true, Bool.and_eq_false_iff, Bool.or_eq_true, Bool.or_eq_false_iff, Bool.not_eq_true', Bool.not_eq_false', beq_iff_eq, wrap_u32, wrap_i64, wrap_u8, beq_eq_false_iff_ne, ne_eq, bne_iff_ne, bne_eq_false_iff_eq, eq_self, and_self, splice, V.cells, List.take_succ_cons, List.take_zero, List.take_nil, List.drop_zero, List.drop_succ_cons, List.drop_nil, List.cons_append, List.nil_append, List.append_nil, List.length_cons, List.length_nil, Nat.zero_add, Nat.reduceAdd, if_true, if_false, Bool.false_eq_true, beq_self_eq_true, decide_eq_decide, Bool.true_eq_false, or_false, false_or, or_true, true_or, and_false, false_and, not_true_eq_false, not_false_eq_true, Bool.and_true, Bool.true_and, Bool.not_true, Bool.not_false] at *; omega)) ?_)
                   | (refine Exists.intro _ (Exists.intro _ (And.intro rfl ?_)))
                   | (refine Exists.intro _ (And.intro rfl ?_))
                   | (refine Exists.intro _ (Exists.intro _ (Exists.intro _ (Exists.intro _ (And.intro rfl ?_)))))
                   | (refine ld_step rfl (by assumption) rfl ?_)
                   | (refine lds_step rfl (by assumption) rfl ?_)
                   | (refine fL_mk ?_)
                   | (refine fH_mk ?_)
                   | (refine fN_mk ?_)
                   | (refine fLB_mk ?_)
                   | (refine And.intro (by repeat (first | assumption | refine GLB_app ?_)) ?_)
                   | (refine ld_step rfl ((rd_x0 _ _ _ _ _).trans rfl) rfl ?_)
                   | (refine ld_step rfl ((rd_x1 _ _ _ _ _ _).trans rfl) rfl ?_)
                   | (refine ld_step rfl ((rd_x2 _ _ _ _ _ _ _).trans rfl) rfl ?_)
                   | (refine lds_step rfl ((rd_x0 _ _ _ _ _).trans rfl) rfl ?_)
                   | (refine lds_step rfl ((rd_x1 _ _ _ _ _ _).trans rfl) rfl ?_)
                   | (refine lds_step rfl ((rd_x2 _ _ _ _ _ _ _).trans rfl) rfl ?_)
                   | (refine mem_step (st_eq rfl rfl rfl rfl (wr_last _ _ _ _ rfl)) ?_)
                   | (refine drec_yes (by omega) ?_)
                   | (refine drec_no (by omega) ?_)
                   | (intro _)
                   | fail)
          refine Halt.mk ?_
          show rC _ _ r6_5 _ _ _ _ _ _
          clear kx kr
          obtain ⟨H2, hH2⟩ : ∃ H2, H2 = H1.set Hx.length (WB w) := ⟨_, rfl⟩
          have t2 : Hx = List.take Hx.length H2 := by rw [hH2, take_set_ge (Nat.le_refl _)]; exact t1
          have n2 : Hx.length + 2 = H2.length := by rw [hH2, hH1]; simp
          rw [← hH2] at r2 g2
          rw [← hH2]
          clear hH1 hH2 r1 g1 t1 hl hok
          refine rC_seqH ?_
          repeat' (conv => whnf
                   first
                   | (refine Stop.mk ?_)
                   | (refine fI_gen ?_; intro z hz)
                   | (refine fO_gen ?_; intro z hz)
                   | (refine ⟨g2, _, _, r2, ?_⟩; intro b1 cap1 X1 ws1 p1 p2 p3 p4)
                   | (refine dec_true (by assumption) ?_)
                   | (refine dec_false (by assumption) ?_)
                   | (refine dec_split (fun h => ?_) (fun h => ?_))
                   | (apply silE)
                   | (exact And.intro rfl (And.intro rfl (And.intro rfl rfl)))
                   | (refine And.intro (by first | omega | ((simp only [decide_eq_true_eq, decide_eq_false_iff_not, Bool.and_eq_true, beq_iff_eq, Bool.not_eq_true', Bool.not_eq_false'] at *); omega) | (subst_vars; simp only [Int.ofNat_eq_natCast, tq_not, fq_not, tq_and, fq_and, tq_or, fq_or, tq_beq, fq_beq, tq_bne, fq_bne, tq_dec, fq_dec, one1, V.tup.injEq, V.agg.injEq, List.cons.injEq, V.int.injEq, V.bool.injEq, true_and, and_true, decide_eq_true_eq, decide_eq_false_iff_not, Bool.and_eq_true, Bool.and_eq_false_iff, Bool.or_eq_true, Bool.or_eq_false_iff, Bool.not_eq_true', Bool.not_eq_false', beq_iff_eq, wrap_u32, wrap_i64, wrap_u8, beq_eq_false_iff_ne, ne_eq, bne_iff_ne, bne_eq_false_iff_eq, eq_self, and_self, splice, V.cells, List.take_succ_cons, List.take_zero, List.take_nil, List.drop_zero, List.drop_succ_cons, List.drop_nil, List.cons_append, List.nil_append, List.append_nil, List.length_cons, List.length_nil, Nat.zero_add, Nat.reduceAdd, if_true, if_false, Bool.false_eq_true, beq_self_eq_true, decide_eq_decide, Bool.true_eq_false, or_false, false_or, or_true, true_or, and_false, false_and, not_true_eq_false, not_false_eq_true, Bool.and_true, Bool.true_and, Bool.not_true, Bool.not_false] at *; omega)) ?_)
                   | (refine Exists.intro _ (Exists.intro _ (And.intro rfl ?_)))
                   | (refine Exists.intro _ (And.intro rfl ?_))
                   | (refine Exists.intro _ (Exists.intro _ (Exists.intro _ (Exists.intro _ (And.intro rfl ?_)))))
                   | (refine ld_step rfl (by assumption) rfl ?_)
                   | (refine lds_step rfl (by assumption) rfl ?_)
                   | (refine fL_mk ?_)
                   | (refine fH_mk ?_)
                   | (refine fN_mk ?_)
                   | (refine fLB_mk ?_)
                   | (refine And.intro (by repeat (first | assumption | refine GLB_app ?_)) ?_)
                   | (refine ld_step rfl ((rd_x0 _ _ _ _ _).trans rfl) rfl ?_)
                   | (refine ld_step rfl ((rd_x1 _ _ _ _ _ _).trans rfl) rfl ?_)
                   | (refine ld_step rfl ((rd_x2 _ _ _ _ _ _ _).trans rfl) rfl ?_)
                   | (refine lds_step rfl ((rd_x0 _ _ _ _ _).trans rfl) rfl ?_)
                   | (refine lds_step rfl ((rd_x1 _ _ _ _ _ _).trans rfl) rfl ?_)
                   | (refine lds_step rfl ((rd_x2 _ _ _ _ _ _ _).trans rfl) rfl ?_)
                   | (refine mem_step (st_eq rfl rfl rfl rfl (wr_last _ _ _ _ rfl)) ?_)
                   | (refine drec_yes (by omega) ?_)
                   | (refine drec_no (by omega) ?_)
                   | (intro _)
                   | fail)
          refine Halt.mk ?_
          show rC _ _ r6_6 _ _ _ _ _ _
          have rx := r2.app X1
          have gx := GLB_app (X := X1) g2
          by_cases h5 : hasP w.length off sz
          · refine rC_seqH ?_
            repeat' (conv => whnf
                     first
                     | (refine Stop.mk ?_)
                     | (refine fO_is (decide_eq_true h5) ?_)
                     | (refine fI_gen ?_; intro z hz)
                     | (refine fO_gen ?_; intro z hz)
                     | (refine ⟨⟨hp.2.1, hp.2.2.2.1⟩, gx, _, _, rx, ?_⟩)
                     | (refine dec_true (by assumption) ?_)
                     | (refine dec_false (by assumption) ?_)
                     | (refine dec_split (fun h => ?_) (fun h => ?_))
                     | (apply silE)
                     | (exact And.intro rfl (And.intro rfl (And.intro rfl rfl)))
                     | (refine And.intro (by first | omega | ((simp only [decide_eq_true_eq, decide_eq_false_iff_not, Bool.and_eq_true, beq_iff_eq, Bool.not_eq_true', Bool.not_eq_false'] at *); omega) | (subst_vars; simp only [Int.ofNat_eq_natCast, tq_not, fq_not, tq_and, fq_and, tq_or, fq_or, tq_beq, fq_beq, tq_bne, fq_bne, tq_dec, fq_dec, one1, V.tup.injEq, V.agg.injEq, List.cons.injEq, V.int.injEq, V.bool.injEq, true_and, and_true, decide_eq_true_eq, decide_eq_false_iff_not, Bool.and_eq_true, Bool.and_eq_false_iff, Bool.or_eq_true, Bool.or_eq_false_iff, Bool.not_eq_true', Bool.not_eq_false', beq_iff_eq, wrap_u32, wrap_i64, wrap_u8, beq_eq_false_iff_ne, ne_eq, bne_iff_ne, bne_eq_false_iff_eq, eq_self, and_self, splice, V.cells, List.take_succ_cons, List.take_zero, List.take_nil, List.drop_zero, List.drop_succ_cons, List.drop_nil, List.cons_append, List.nil_append, List.append_nil, List.length_cons, List.length_nil, Nat.zero_add, Nat.reduceAdd, if_true, if_false, Bool.false_eq_true, beq_self_eq_true, decide_eq_decide, Bool.true_eq_false, or_false, false_or, or_true, true_or, and_false, false_and, not_true_eq_false, not_false_eq_true, Bool.and_true, Bool.true_and, Bool.not_true, Bool.not_false] at *; omega)) ?_)
                     | (refine Exists.intro _ (Exists.intro _ (And.intro rfl ?_)))
                     | (refine Exists.intro _ (And.intro rfl ?_))
                     | (refine Exists.intro _ (Exists.intro _ (Exists.intro _ (Exists.intro _ (And.intro rfl ?_)))))
                     | (refine ld_step rfl (by assumption) rfl ?_)
                     | (refine lds_step rfl (by assumption) rfl ?_)
                     | (refine fL_mk ?_)
                     | (refine fH_mk ?_)
                     | (refine fN_mk ?_)
                     | (refine fLB_mk ?_)
                     | (refine And.intro (by repeat (first | assumption | refine GLB_app ?_)) ?_)
                     | (refine ld_step rfl ((rd_x0 _ _ _ _ _).trans rfl) rfl ?_)
                     | (refine ld_step rfl ((rd_x1 _ _ _ _ _ _).trans rfl) rfl ?_)
                     | (refine ld_step rfl ((rd_x2 _ _ _ _ _ _ _).trans rfl) rfl ?_)
                     | (refine lds_step rfl ((rd_x0 _ _ _ _ _).trans rfl) rfl ?_)
                     | (refine lds_step rfl ((rd_x1 _ _ _ _ _ _).trans rfl) rfl ?_)
                     | (refine lds_step rfl ((rd_x2 _ _ _ _ _ _ _).trans rfl) rfl ?_)
                     | (refine mem_step (st_eq rfl rfl rfl rfl (wr_last _ _ _ _ rfl)) ?_)
                     | (refine drec_yes (by omega) ?_)
                     | (refine drec_no (by omega) ?_)
                     | (intro _)
                     | fail)
            refine Halt.mk ?_
            show rC _ _ r6_7 _ _ _ _ _ _
            have hv := hp.2.2.2.1
            obtain ⟨w', hw'⟩ : ∃ w', w' = wrL w off sz v := ⟨_, rfl⟩
            obtain ⟨H3, hH3⟩ : ∃ H3, H3 = (H2 ++ X1).set Hx.length (WB w') := ⟨_, rfl⟩
            have hl' : w'.length = w.length := hw' ▸ wrL_len _ _ _ _
            have r3 : RamAt H3 (Hx.length + 1) Hx.length w' := by rw [hH3, hw']; exact rx.wset hv
            have g3 : GLB H3 := by rw [hH3]; exact rx.glb gx _
            have t3 : Hx = List.take Hx.length H3 := by rw [hH3, take_set_ge (Nat.le_refl _), List.take_append_of_le_length (by omega)]; exact t2
            have n3 : Hx.length + 2 ≤ H3.length := by rw [hH3, List.length_set, List.length_append]; omega
            have k1 : H3[b1]? = some (.rw 5 ((bytesW w).flatMap encB ++ ws1)) := by rw [hH3]; exact blk_set p3 (by omega)
            have hby : ∀ i : Nat, i < (bytesW w).length → (bytesW w').getD i 0 = if off ≤ (i : Int) ∧ (i : Int) < off + sz then v / 256 ^ ((i : Int) - off).toNat % 256 else (bytesW w).getD i 0 := by
              intro i hi
              have hf := fit4 h5.2.2 h5.1
              have h51 := h5.1
              have h52 := h5.2.1
              have e := wrB_get (bytesW w) off.toNat v i sz.toNat (by rw [bytesW_len]; omega)
              rw [← bytes_wr hwu hv h5, ← hw'] at e
              by_cases hin : off ≤ (i : Int) ∧ (i : Int) < off + sz
              · rw [if_pos hin]
                rw [if_pos (by omega)] at e
                rw [getD_of e, show i - off.toNat = ((i : Int) - off).toNat by omega]
              · rw [if_neg hin]
                rw [if_neg (by omega), getD_get hi] at e
                exact getD_of e
            rw [← hw', ← hH3]
            have lw : (bytesW w).length = 4 * m := by rw [bytesW_len, hw]
            have lw' : (bytesW w').length = 4 * m := by rw [bytesW_len, hl', hw]
            have e18 : ((bytesW w).length : Int) = n := by rw [lw]; omega
            have e19 : ((bytesW w').length : Int) = n := by rw [lw']; omega
            have hf5 : 0 ≤ off ∧ 1 ≤ sz ∧ sz ≤ 4 ∧ off + sz ≤ n := by have := fit4 h5.2.2 h5.1; have := h5.1; have := h5.2.1; have := h5.2.2.2; rcases h5.2.2.1 with rfl | rfl | rfl <;> omega
            have e20 : ((bytesV sz.toNat v).length : Int) = sz := by rw [bytesV_len]; omega
            have h5s := h5.2.2.1
            clear hH3 rx gx r2 g2 p3
            refine rC_seqH ?_
            repeat' (conv => whnf
                     first
                     | (refine Stop.mk ?_)
                     | (refine fI_gen ?_; intro z hz)
                     | (refine fO_gen ?_; intro z hz)
                     | (refine ⟨g3, _, _, r3, ?_⟩; intro b2 cap2 X2 ws2 q1 q2 q3 q4)
                     | (refine dec_true (by assumption) ?_)
                     | (refine dec_false (by assumption) ?_)
                     | (refine dec_split (fun h => ?_) (fun h => ?_))
                     | (apply silE)
                     | (exact And.intro rfl (And.intro rfl (And.intro rfl rfl)))
                     | (refine And.intro (by first | omega | ((simp only [decide_eq_true_eq, decide_eq_false_iff_not, Bool.and_eq_true, beq_iff_eq, Bool.not_eq_true', Bool.not_eq_false'] at *); omega) | (subst_vars; simp only [Int.ofNat_eq_natCast, tq_not, fq_not, tq_and, fq_and, tq_or, fq_or, tq_beq, fq_beq, tq_bne, fq_bne, tq_dec, fq_dec, one1, V.tup.injEq, V.agg.injEq, List.cons.injEq, V.int.injEq, V.bool.injEq, true_and, and_true, decide_eq_true_eq, decide_eq_false_iff_not, Bool.and_eq_true, Bool.and_eq_false_iff, Bool.or_eq_true, Bool.or_eq_false_iff, Bool.not_eq_true', Bool.not_eq_false', beq_iff_eq, wrap_u32, wrap_i64, wrap_u8, beq_eq_false_iff_ne, ne_eq, bne_iff_ne, bne_eq_false_iff_eq, eq_self, and_self, splice, V.cells, List.take_succ_cons, List.take_zero, List.take_nil, List.drop_zero, List.drop_succ_cons, List.drop_nil, List.cons_append, List.nil_append, List.append_nil, List.length_cons, List.length_nil, Nat.zero_add, Nat.reduceAdd, if_true, if_false, Bool.false_eq_true, beq_self_eq_true, decide_eq_decide, Bool.true_eq_false, or_false, false_or, or_true, true_or, and_false, false_and, not_true_eq_false, not_false_eq_true, Bool.and_true, Bool.true_and, Bool.not_true, Bool.not_false] at *; omega)) ?_)
                     | (refine Exists.intro _ (Exists.intro _ (And.intro rfl ?_)))
                     | (refine Exists.intro _ (And.intro rfl ?_))
                     | (refine Exists.intro _ (Exists.intro _ (Exists.intro _ (Exists.intro _ (And.intro rfl ?_)))))
                     | (refine ld_step rfl (by assumption) rfl ?_)
                     | (refine lds_step rfl (by assumption) rfl ?_)
                     | (refine fL_mk ?_)
                     | (refine fH_mk ?_)
                     | (refine fN_mk ?_)
                     | (refine fLB_mk ?_)
                     | (refine And.intro (by repeat (first | assumption | refine GLB_app ?_)) ?_)
                     | (refine ld_step rfl ((rd_x0 _ _ _ _ _).trans rfl) rfl ?_)
                     | (refine ld_step rfl ((rd_x1 _ _ _ _ _ _).trans rfl) rfl ?_)
                     | (refine ld_step rfl ((rd_x2 _ _ _ _ _ _ _).trans rfl) rfl ?_)
                     | (refine lds_step rfl ((rd_x0 _ _ _ _ _).trans rfl) rfl ?_)
                     | (refine lds_step rfl ((rd_x1 _ _ _ _ _ _).trans rfl) rfl ?_)
                     | (refine lds_step rfl ((rd_x2 _ _ _ _ _ _ _).trans rfl) rfl ?_)
                     | (refine mem_step (st_eq rfl rfl rfl rfl (wr_last _ _ _ _ rfl)) ?_)
                     | (refine drec_yes (by omega) ?_)
                     | (refine drec_no (by omega) ?_)
                     | (intro _)
                     | fail)
            refine Halt.mk ?_
            show rC _ _ r6_8 _ _ _ _ _ _
            refine rC_seqH ?_
            repeat' (conv => whnf
                     first
                     | (refine Stop.mk ?_)
                     | (refine fI_gen ?_; intro z hz)
                     | (refine fO_gen ?_; intro z hz)
                     | (refine ⟨⟨hv, h5s⟩, GLB_app g3, ?_⟩; intro b3 cap3 X3 ws3 u1 u2 u3 u4)
                     | (refine dec_true (by assumption) ?_)
                     | (refine dec_false (by assumption) ?_)
                     | (refine dec_split (fun h => ?_) (fun h => ?_))
                     | (apply silE)
                     | (exact And.intro rfl (And.intro rfl (And.intro rfl rfl)))
                     | (refine And.intro (by first | omega | ((simp only [decide_eq_true_eq, decide_eq_false_iff_not, Bool.and_eq_true, beq_iff_eq, Bool.not_eq_true', Bool.not_eq_false'] at *); omega) | (subst_vars; simp only [Int.ofNat_eq_natCast, tq_not, fq_not, tq_and, fq_and, tq_or, fq_or, tq_beq, fq_beq, tq_bne, fq_bne, tq_dec, fq_dec, one1, V.tup.injEq, V.agg.injEq, List.cons.injEq, V.int.injEq, V.bool.injEq, true_and, and_true, decide_eq_true_eq, decide_eq_false_iff_not, Bool.and_eq_true, Bool.and_eq_false_iff, Bool.or_eq_true, Bool.or_eq_false_iff, Bool.not_eq_true', Bool.not_eq_false', beq_iff_eq, wrap_u32, wrap_i64, wrap_u8, beq_eq_false_iff_ne, ne_eq, bne_iff_ne, bne_eq_false_iff_eq, eq_self, and_self, splice, V.cells, List.take_succ_cons, List.take_zero, List.take_nil, List.drop_zero, List.drop_succ_cons, List.drop_nil, List.cons_append, List.nil_append, List.append_nil, List.length_cons, List.length_nil, Nat.zero_add, Nat.reduceAdd, if_true, if_false, Bool.false_eq_true, beq_self_eq_true, decide_eq_decide, Bool.true_eq_false, or_false, false_or, or_true, true_or, and_false, false_and, not_true_eq_false, not_false_eq_true, Bool.and_true, Bool.true_and, Bool.not_true, Bool.not_false] at *; omega)) ?_)
                     | (refine Exists.intro _ (Exists.intro _ (And.intro rfl ?_)))
                     | (refine Exists.intro _ (And.intro rfl ?_))
                     | (refine Exists.intro _ (Exists.intro _ (Exists.intro _ (Exists.intro _ (And.intro rfl ?_)))))
                     | (refine ld_step rfl (by assumption) rfl ?_)
                     | (refine lds_step rfl (by assumption) rfl ?_)
                     | (refine fL_mk ?_)
                     | (refine fH_mk ?_)
                     | (refine fN_mk ?_)
                     | (refine fLB_mk ?_)
                     | (refine And.intro (by repeat (first | assumption | refine GLB_app ?_)) ?_)
                     | (refine ld_step rfl ((rd_x0 _ _ _ _ _).trans rfl) rfl ?_)
                     | (refine ld_step rfl ((rd_x1 _ _ _ _ _ _).trans rfl) rfl ?_)
                     | (refine ld_step rfl ((rd_x2 _ _ _ _ _ _ _).trans rfl) rfl ?_)
                     | (refine lds_step rfl ((rd_x0 _ _ _ _ _).trans rfl) rfl ?_)
                     | (refine lds_step rfl ((rd_x1 _ _ _ _ _ _).trans rfl) rfl ?_)
                     | (refine lds_step rfl ((rd_x2 _ _ _ _ _ _ _).trans rfl) rfl ?_)
                     | (refine mem_step (st_eq rfl rfl rfl rfl (wr_last _ _ _ _ rfl)) ?_)
                     | (refine drec_yes (by omega) ?_)
                     | (refine drec_no (by omega) ?_)
                     | (intro _)
                     | fail)
            refine Halt.mk ?_
            show rC _ _ r6_9 _ _ _ _ _ _
            obtain ⟨H5, hH5⟩ : ∃ H5, H5 = H3 ++ X2 ++ X3 := ⟨_, rfl⟩
            have r5 : RamAt H5 (Hx.length + 1) Hx.length w' := by rw [hH5]; exact (r3.app _).app _
            have g5 : GLB H5 := by rw [hH5]; exact GLB_app (GLB_app g3)
            have t5 : Hx = List.take Hx.length H5 := by rw [hH5, List.append_assoc, List.take_append_of_le_length (by omega)]; exact t3
            have k51 : H5[b1]? = some (.rw 5 ((bytesW w).flatMap encB ++ ws1)) := by rw [hH5]; exact blk_app (blk_app k1 _) _
            have k52 : H5[b2]? = some (.rw 5 ((bytesW w').flatMap encB ++ ws2)) := by rw [hH5]; exact blk_app q3 _
            have k53 : H5[b3]? = some (.rw 5 ((bytesV sz.toNat v).flatMap encB ++ ws3)) := by rw [hH5]; exact u3
            rw [← hH5]
            have hsub : IntKind.i64.wrap (n - sz) = n - sz := wrap_i64_id (by omega) (by omega)
            refine rC_seqH ?_
            repeat' (conv => whnf
                     first
                     | (refine Stop.mk ?_)
                     | (with_reducible refine fI_is e18 ?_)
                     | (with_reducible refine fI_is e19 ?_)
                     | (with_reducible refine fI_is e20 ?_)
                     | (with_reducible refine fI_is hsub ?_)
                     | (refine fO_is (bne_self_eq_false _) ?_)
                     | (with_reducible refine fO_is (decide_eq_false (show ¬ off < 0 by omega)) ?_)
                     | (with_reducible refine fO_is (decide_eq_false (show ¬ off > n - sz by omega)) ?_)
                     | (refine fI_gen ?_; intro z hz)
                     | (refine fO_gen ?_; intro z hz)
                     | (refine dec_true (by assumption) ?_)
                     | (refine dec_false (by assumption) ?_)
                     | (refine dec_split (fun h => ?_) (fun h => ?_))
                     | (apply silE)
                     | (exact And.intro rfl (And.intro rfl (And.intro rfl rfl)))
                     | (refine And.intro (by first | omega | ((simp only [decide_eq_true_eq, decide_eq_false_iff_not, Bool.and_eq_true, beq_iff_eq, Bool.not_eq_true', Bool.not_eq_false'] at *); omega) | (subst_vars; simp only [Int.ofNat_eq_natCast, tq_not, fq_not, tq_and, fq_and, tq_or, fq_or, tq_beq, fq_beq, tq_bne, fq_bne, tq_dec, fq_dec, one1, V.tup.injEq, V.agg.injEq, List.cons.injEq, V.int.injEq, V.bool.injEq, true_and, and_true, decide_eq_true_eq, decide_eq_false_iff_not, Bool.and_eq_true, Bool.and_eq_false_iff, Bool.or_eq_true, Bool.or_eq_false_iff, Bool.not_eq_true', Bool.not_eq_false', beq_iff_eq, wrap_u32, wrap_i64, wrap_u8, beq_eq_false_iff_ne, ne_eq, bne_iff_ne, bne_eq_false_iff_eq, eq_self, and_self, splice, V.cells, List.take_succ_cons, List.take_zero, List.take_nil, List.drop_zero, List.drop_succ_cons, List.drop_nil, List.cons_append, List.nil_append, List.append_nil, List.length_cons, List.length_nil, Nat.zero_add, Nat.reduceAdd, if_true, if_false, Bool.false_eq_true, beq_self_eq_true, decide_eq_decide, Bool.true_eq_false, or_false, false_or, or_true, true_or, and_false, false_and, not_true_eq_false, not_false_eq_true, Bool.and_true, Bool.true_and, Bool.not_true, Bool.not_false] at *; omega)) ?_)
                     | (refine Exists.intro _ (Exists.intro _ (And.intro rfl ?_)))
                     | (refine Exists.intro _ (And.intro rfl ?_))
                     | (refine Exists.intro _ (Exists.intro _ (Exists.intro _ (Exists.intro _ (And.intro rfl ?_)))))
                     | (refine ld_step rfl (by assumption) rfl ?_)
                     | (refine lds_step rfl (by assumption) rfl ?_)
                     | (refine fL_mk ?_)
                     | (refine fH_mk ?_)
                     | (refine fN_mk ?_)
                     | (refine fLB_mk ?_)
                     | (refine And.intro (by repeat (first | assumption | refine GLB_app ?_)) ?_)
                     | (refine ld_step rfl ((rd_x0 _ _ _ _ _).trans rfl) rfl ?_)
                     | (refine ld_step rfl ((rd_x1 _ _ _ _ _ _).trans rfl) rfl ?_)
                     | (refine ld_step rfl ((rd_x2 _ _ _ _ _ _ _).trans rfl) rfl ?_)
                     | (refine lds_step rfl ((rd_x0 _ _ _ _ _).trans rfl) rfl ?_)
                     | (refine lds_step rfl ((rd_x1 _ _ _ _ _ _).trans rfl) rfl ?_)
                     | (refine lds_step rfl ((rd_x2 _ _ _ _ _ _ _).trans rfl) rfl ?_)
                     | (refine mem_step (st_eq rfl rfl rfl rfl (wr_last _ _ _ _ rfl)) ?_)
                     | (refine drec_yes (by omega) ?_)
                     | (refine drec_no (by omega) ?_)
                     | (intro _)
                     | fail)
            any_goals refine Halt.mk ?_
            any_goals show rC _ _ r6_10 _ _ _ _ _ _
            obtain ⟨N, hN⟩ : ∃ N, N = 4 * m := ⟨_, rfl⟩
            refine rC_seqH ?_
            repeat' (conv => whnf
                     first
                     | (refine Stop.mk ?_)
                     | (refine fI_mk ?_)
                     | (refine fO_mk ?_)
                     | (refine fN_mk ?_)
                     | fail)
            conv => whnf
            refine rLoop_ctr (c := rC (tab [(7, s7), (8, s8), (9, s9), (10, s10), (12, s12), (16, s16), (18, s18), (21, s21), (22, s22), (23, s23)]) k l6_1) N 21 (false :: false :: false :: false :: false :: false :: false :: false :: false :: false :: false :: false :: false :: false :: true :: false :: false :: false :: false :: false :: false :: false :: true :: false :: false :: false :: false :: false :: false :: false :: false :: false :: false :: false :: false :: false :: false :: false :: false :: false :: false :: false :: false :: false :: false :: false :: false :: false :: false :: false :: false :: false :: false :: false :: false :: false :: false :: false :: false :: false :: false :: false :: false :: false :: false :: false :: false :: false :: false :: false :: false :: false :: false :: false :: false :: false :: false :: false :: false :: false :: false :: false :: false :: false :: false :: false :: false :: false :: false :: false :: false :: false :: false :: false :: false :: false :: false :: false :: false :: false :: false :: false :: false :: false :: false :: false :: false :: false :: false :: false :: false :: false :: false :: false :: false :: false :: false :: false :: false :: false :: false :: false :: false :: false :: true :: true :: true :: true :: true :: true :: true :: true :: true :: true :: true :: true :: true :: true :: true :: true :: true :: true :: true :: true :: true :: true :: true :: true :: true :: true :: true :: true :: true :: true :: true :: true :: true :: true :: true :: true :: true :: true :: true :: true :: true :: true :: true :: true :: false :: false :: false :: false :: false :: false :: false :: false :: false :: false :: false :: false :: false :: false :: false :: false :: false :: false :: false :: false :: false :: false :: false :: false :: false :: false :: false :: false :: false :: false :: false :: false :: false :: false :: false :: false :: false :: false :: false :: false :: false :: false :: false :: false :: false :: false :: false :: false :: false :: false :: false :: false :: false :: false :: false :: false :: false :: false :: false :: false :: false :: false :: false :: false :: false :: false :: false :: false :: []) (fun i tm L H e g => L = [] ∧ H = H5 ∧ e = false ∧ g = true) (by omega) rfl ⟨rfl, rfl, rfl, rfl⟩ ?_
            intro i1 hi1
            conv => whnf
            intro j
            conv => whnf
            intro j
            conv => whnf
            intro j
            conv => whnf
            intro j
            conv => whnf
            intro j
            conv => whnf
            intro j
            conv => whnf
            intro j
            conv => whnf
            intro j
            conv => whnf
            intro j
            conv => whnf
            intro j
            conv => whnf
            intro j
            conv => whnf
            intro j
            conv => whnf
            intro j
            conv => whnf
            intro j
            conv => whnf
            intro j
            conv => whnf
            intro j
            conv => whnf
            intro j
            conv => whnf
            intro j
            conv => whnf
            intro j
            conv => whnf
            intro j
            conv => whnf
            intro j
            conv => whnf
            intro j
            conv => whnf
            intro j
            conv => whnf
            intro j
            conv => whnf
            intro j
            conv => whnf
            intro j
            conv => whnf
            intro j
            conv => whnf
            intro j
            conv => whnf
            intro j
            conv => whnf
            intro j
            conv => whnf
            intro j
            conv => whnf
            intro j
            conv => whnf
            intro j
            conv => whnf
            intro j
            conv => whnf
            intro j
            conv => whnf
            intro j
            conv => whnf
            intro j
            conv => whnf
            intro j
            conv => whnf
            intro j
            conv => whnf
            intro j
            conv => whnf
            intro j
            conv => whnf
            intro j
            conv => whnf
            intro j
            conv => whnf
            intro j
            conv => whnf
            intro j
            conv => whnf
            intro j
            conv => whnf
            refine Halt.mk ?_
            rintro L H' e g ⟨rfl, rfl, rfl, rfl⟩ K kn kx kr
            repeat' (conv => whnf
                     first
                     | (refine Stop.mk ?_)
                     | (refine fI_mk ?_)
                     | (refine fO_mk ?_)
                     | (refine fN_mk ?_)
                     | fail)
            conv => whnf
            refine dec_split (fun h => ?_) (fun h => ?_)
            · have hlt : i1 < 4 * m := by have := of_decide_eq_true h; omega
              clear kx kr
              have hw1 : IntKind.i64.wrap (off + sz) = off + sz := wrap_i64_id (by omega) (by omega)
              have d18 := blk_one k51 (o := i1) (by omega)
              have d19 := blk_one k52 (o := i1) (by omega)
              rw [hby i1 (by omega)] at d19
              by_cases hin : off ≤ (i1 : Int) ∧ (i1 : Int) < off + sz
              · have hw2 : IntKind.i64.wrap ((i1 : Int) - off) = (i1 : Int) - off := wrap_i64_id (by omega) (by omega)
                have d20 := blk_one k53 (o := ((i1 : Int) - off).toNat) (by rw [bytesV_len]; omega)
                rw [getD_of (bytesV_get sz.toNat ((i1 : Int) - off).toNat v hv.1 (by omega))] at d20
                rw [if_pos hin] at d19
                repeat' (conv => whnf
                         first
                         | (refine Stop.mk ?_)
                         | (with_reducible refine fI_is hw1 ?_)
                         | (with_reducible refine fI_is hw2 ?_)
                         | (refine fO_is (bne_self_eq_false _) ?_)
                         | (with_reducible refine fO_is (decide_eq_true (show (i1 : Int) ≥ off by omega)) ?_)
                         | (with_reducible refine fO_is (decide_eq_true (show (i1 : Int) < off + sz by omega)) ?_)
                         | (refine fI_i64 (by first | omega | (simp only [Int.ofNat_eq_natCast] at *; omega)) ?_; intro z hz)
                         | (refine fI_u32 (by first | omega | (simp only [Int.ofNat_eq_natCast] at *; omega)) ?_; intro z hz)
                         | (refine fI_u8 (by first | omega | (simp only [Int.ofNat_eq_natCast] at *; omega)) ?_; intro z hz)
                         | (refine fI_u64 (by first | omega | (simp only [Int.ofNat_eq_natCast] at *; omega)) ?_; intro z hz)
                         | (refine fI_tdiv (by first | omega | (simp only [Int.ofNat_eq_natCast] at *; omega)) ?_; intro z hz)
                         | (refine fI_tmod (by first | omega | (simp only [Int.ofNat_eq_natCast] at *; omega)) ?_; intro z hz)
                         | (refine fI_gen ?_; intro z hz)
                         | (refine fO_gen ?_; intro z hz)
                         | (refine pure_step (ixs_eq rfl rfl (by omega) (show _ < ((bytesW w).length : Int) by omega)) ?_)
                         | (refine pure_step (ixs_eq rfl rfl (by omega) (show _ < ((bytesW w').length : Int) by omega)) ?_)
                         | (refine pure_step (ixs_eq rfl rfl (by omega) (show _ < ((bytesV sz.toNat v).length : Int) by omega)) ?_)
                         | (refine ld_step rfl d19 rfl ?_)
                         | (refine ld_step rfl d20 rfl ?_)
                         | (refine lds_step rfl d19 rfl ?_)
                         | (refine lds_step rfl d20 rfl ?_)
                         | (refine dec_true (by assumption) ?_)
                         | (refine dec_false (by assumption) ?_)
                         | (refine dec_split (fun h => ?_) (fun h => ?_))
                         | (apply silE)
                         | (exact And.intro rfl (And.intro rfl (And.intro rfl rfl)))
                         | (refine And.intro (by first | omega | ((simp only [decide_eq_true_eq, decide_eq_false_iff_not, Bool.and_eq_true, beq_iff_eq, Bool.not_eq_true', Bool.not_eq_false'] at *); omega) | (subst_vars; simp only [Int.ofNat_eq_natCast, tq_not, fq_not, tq_and, fq_and, tq_or, fq_or, tq_beq, fq_beq, tq_bne, fq_bne, tq_dec, fq_dec, one1, V.tup.injEq, V.agg.injEq, List.cons.injEq, V.int.injEq, V.bool.injEq, true_and, and_true, decide_eq_true_eq, decide_eq_false_iff_not, Bool.and_eq_true, Bool.and_eq_false_iff, Bool.or_eq_true, Bool.or_eq_false_iff, Bool.not_eq_true', Bool.not_eq_false', beq_iff_eq, wrap_u32, wrap_i64, wrap_u8, beq_eq_false_iff_ne, ne_eq, bne_iff_ne, bne_eq_false_iff_eq, eq_self, and_self, splice, V.cells, List.take_succ_cons, List.take_zero, List.take_nil, List.drop_zero, List.drop_succ_cons, List.drop_nil, List.cons_append, List.nil_append, List.append_nil, List.length_cons, List.length_nil, Nat.zero_add, Nat.reduceAdd, if_true, if_false, Bool.false_eq_true, beq_self_eq_true, decide_eq_decide, Bool.true_eq_false, or_false, false_or, or_true, true_or, and_false, false_and, not_true_eq_false, not_false_eq_true, Bool.and_true, Bool.true_and, Bool.not_true, Bool.not_false] at *; omega)) ?_)
                         | (refine Exists.intro _ (Exists.intro _ (And.intro rfl ?_)))
                         | (refine Exists.intro _ (And.intro rfl ?_))
                         | (refine Exists.intro _ (Exists.intro _ (Exists.intro _ (Exists.intro _ (And.intro rfl ?_)))))
                         | (refine ld_step rfl (by assumption) rfl ?_)
                         | (refine lds_step rfl (by assumption) rfl ?_)
                         | (refine fL_mk ?_)
                         | (refine fH_mk ?_)
                         | (refine fN_mk ?_)
                         | (refine fLB_mk ?_)
                         | (refine And.intro (by repeat (first | assumption | refine GLB_app ?_)) ?_)
                         | (refine ld_step rfl ((rd_x0 _ _ _ _ _).trans rfl) rfl ?_)
                         | (refine ld_step rfl ((rd_x1 _ _ _ _ _ _).trans rfl) rfl ?_)
                         | (refine ld_step rfl ((rd_x2 _ _ _ _ _ _ _).trans rfl) rfl ?_)
                         | (refine lds_step rfl ((rd_x0 _ _ _ _ _).trans rfl) rfl ?_)
                         | (refine lds_step rfl ((rd_x1 _ _ _ _ _ _).trans rfl) rfl ?_)
                         | (refine lds_step rfl ((rd_x2 _ _ _ _ _ _ _).trans rfl) rfl ?_)
                         | (refine mem_step (st_eq rfl rfl rfl rfl (wr_last _ _ _ _ rfl)) ?_)
                         | (refine drec_yes (by omega) ?_)
                         | (refine drec_no (by omega) ?_)
                         | (intro _)
                         | fail)
                conv => whnf
                subst hz
                exact kn (by omega) _ _ _ _ _ rfl ⟨rfl, rfl, rfl, rfl⟩
              · rw [if_neg hin] at d19
                by_cases hge : off ≤ (i1 : Int)
                · repeat' (conv => whnf
                           first
                           | (refine Stop.mk ?_)
                           | (with_reducible refine fI_is hw1 ?_)
                           | (refine fO_is (bne_self_eq_false _) ?_)
                           | (with_reducible refine fO_is (decide_eq_true (show (i1 : Int) ≥ off by omega)) ?_)
                           | (with_reducible refine fO_is (decide_eq_false (show ¬ (i1 : Int) < off + sz by omega)) ?_)
                           | (refine fI_i64 (by first | omega | (simp only [Int.ofNat_eq_natCast] at *; omega)) ?_; intro z hz)
                           | (refine fI_u32 (by first | omega | (simp only [Int.ofNat_eq_natCast] at *; omega)) ?_; intro z hz)
                           | (refine fI_u8 (by first | omega | (simp only [Int.ofNat_eq_natCast] at *; omega)) ?_; intro z hz)
                           | (refine fI_u64 (by first | omega | (simp only [Int.ofNat_eq_natCast] at *; omega)) ?_; intro z hz)
                           | (refine fI_tdiv (by first | omega | (simp only [Int.ofNat_eq_natCast] at *; omega)) ?_; intro z hz)
                           | (refine fI_tmod (by first | omega | (simp only [Int.ofNat_eq_natCast] at *; omega)) ?_; intro z hz)
                           | (refine fI_gen ?_; intro z hz)
                           | (refine fO_gen ?_; intro z hz)
                           | (refine pure_step (ixs_eq rfl rfl (by omega) (show _ < ((bytesW w).length : Int) by omega)) ?_)
                           | (refine pure_step (ixs_eq rfl rfl (by omega) (show _ < ((bytesW w').length : Int) by omega)) ?_)
                           | (refine ld_step rfl d19 rfl ?_)
                           | (refine ld_step rfl d18 rfl ?_)
                           | (refine lds_step rfl d19 rfl ?_)
                           | (refine lds_step rfl d18 rfl ?_)
                           | (refine dec_true (by assumption) ?_)
                           | (refine dec_false (by assumption) ?_)
                           | (refine dec_split (fun h => ?_) (fun h => ?_))
                           | (apply silE)
                           | (exact And.intro rfl (And.intro rfl (And.intro rfl rfl)))
                           | (refine And.intro (by first | omega | ((simp only [decide_eq_true_eq, decide_eq_false_iff_not, Bool.and_eq_true, beq_iff_eq, Bool.not_eq_true', Bool.not_eq_false'] at *); omega) | (subst_vars; simp only [Int.ofNat_eq_natCast, tq_not, fq_not, tq_and, fq_and, tq_or, fq_or, tq_beq, fq_beq, tq_bne, fq_bne, tq_dec, fq_dec, one1, V.tup.injEq, V.agg.injEq, List.cons.injEq, V.int.injEq, V.bool.injEq, true_and, and_true, decide_eq_true_eq, decide_eq_false_iff_not, Bool.and_eq_true, Bool.and_eq_false_iff, Bool.or_eq_true, Bool.or_eq_false_iff, Bool.not_eq_true', Bool.not_eq_false', beq_iff_eq, wrap_u32, wrap_i64, wrap_u8, beq_eq_false_iff_ne, ne_eq, bne_iff_ne, bne_eq_false_iff_eq, eq_self, and_self, splice, V.cells, List.take_succ_cons, List.take_zero, List.take_nil, List.drop_zero, List.drop_succ_cons, List.drop_nil, List.cons_append, List.nil_append, List.append_nil, List.length_cons, List.length_nil, Nat.zero_add, Nat.reduceAdd, if_true, if_false, Bool.false_eq_true, beq_self_eq_true, decide_eq_decide, Bool.true_eq_false, or_false, false_or, or_true, true_or, and_false, false_and, not_true_eq_false, not_false_eq_true, Bool.and_true, Bool.true_and, Bool.not_true, Bool.not_false] at *; omega)) ?_)
                           | (refine Exists.intro _ (Exists.intro _ (And.intro rfl ?_)))
                           | (refine Exists.intro _ (And.intro rfl ?_))
                           | (refine Exists.intro _ (Exists.intro _ (Exists.intro _ (Exists.intro _ (And.intro rfl ?_)))))
                           | (refine ld_step rfl (by assumption) rfl ?_)
                           | (refine lds_step rfl (by assumption) rfl ?_)
                           | (refine fL_mk ?_)
                           | (refine fH_mk ?_)
                           | (refine fN_mk ?_)
                           | (refine fLB_mk ?_)
                           | (refine And.intro (by repeat (first | assumption | refine GLB_app ?_)) ?_)
                           | (refine ld_step rfl ((rd_x0 _ _ _ _ _).trans rfl) rfl ?_)
                           | (refine ld_step rfl ((rd_x1 _ _ _ _ _ _).trans rfl) rfl ?_)
                           | (refine ld_step rfl ((rd_x2 _ _ _ _ _ _ _).trans rfl) rfl ?_)
                           | (refine lds_step rfl ((rd_x0 _ _ _ _ _).trans rfl) rfl ?_)
                           | (refine lds_step rfl ((rd_x1 _ _ _ _ _ _).trans rfl) rfl ?_)
                           | (refine lds_step rfl ((rd_x2 _ _ _ _ _ _ _).trans rfl) rfl ?_)
                           | (refine mem_step (st_eq rfl rfl rfl rfl (wr_last _ _ _ _ rfl)) ?_)
                           | (refine drec_yes (by omega) ?_)
                           | (refine drec_no (by omega) ?_)
                           | (intro _)
                           | fail)
                  conv => whnf
                  subst hz
                  exact kn (by omega) _ _ _ _ _ rfl ⟨rfl, rfl, rfl, rfl⟩
                · repeat' (conv => whnf
                           first
                           | (refine Stop.mk ?_)
                           | (refine fO_is (bne_self_eq_false _) ?_)
                           | (with_reducible refine fO_is (decide_eq_false (show ¬ (i1 : Int) ≥ off by omega)) ?_)
                           | (refine fI_i64 (by first | omega | (simp only [Int.ofNat_eq_natCast] at *; omega)) ?_; intro z hz)
                           | (refine fI_u32 (by first | omega | (simp only [Int.ofNat_eq_natCast] at *; omega)) ?_; intro z hz)
                           | (refine fI_u8 (by first | omega | (simp only [Int.ofNat_eq_natCast] at *; omega)) ?_; intro z hz)
                           | (refine fI_u64 (by first | omega | (simp only [Int.ofNat_eq_natCast] at *; omega)) ?_; intro z hz)
                           | (refine fI_tdiv (by first | omega | (simp only [Int.ofNat_eq_natCast] at *; omega)) ?_; intro z hz)
                           | (refine fI_tmod (by first | omega | (simp only [Int.ofNat_eq_natCast] at *; omega)) ?_; intro z hz)
                           | (refine fI_gen ?_; intro z hz)
                           | (refine fO_gen ?_; intro z hz)
                           | (refine pure_step (ixs_eq rfl rfl (by omega) (show _ < ((bytesW w).length : Int) by omega)) ?_)
                           | (refine pure_step (ixs_eq rfl rfl (by omega) (show _ < ((bytesW w').length : Int) by omega)) ?_)
                           | (refine ld_step rfl d19 rfl ?_)
                           | (refine ld_step rfl d18 rfl ?_)
                           | (refine lds_step rfl d19 rfl ?_)
                           | (refine lds_step rfl d18 rfl ?_)
                           | (refine dec_true (by assumption) ?_)
                           | (refine dec_false (by assumption) ?_)
                           | (refine dec_split (fun h => ?_) (fun h => ?_))
                           | (apply silE)
                           | (exact And.intro rfl (And.intro rfl (And.intro rfl rfl)))
                           | (refine And.intro (by first | omega | ((simp only [decide_eq_true_eq, decide_eq_false_iff_not, Bool.and_eq_true, beq_iff_eq, Bool.not_eq_true', Bool.not_eq_false'] at *); omega) | (subst_vars; simp only [Int.ofNat_eq_natCast, tq_not, fq_not, tq_and, fq_and, tq_or, fq_or, tq_beq, fq_beq, tq_bne, fq_bne, tq_dec, fq_dec, one1, V.tup.injEq, V.agg.injEq, List.cons.injEq, V.int.injEq, V.bool.injEq, true_and, and_true, decide_eq_true_eq, decide_eq_false_iff_not, Bool.and_eq_true, Bool.and_eq_false_iff, Bool.or_eq_true, Bool.or_eq_false_iff, Bool.not_eq_true', Bool.not_eq_false', beq_iff_eq, wrap_u32, wrap_i64, wrap_u8, beq_eq_false_iff_ne, ne_eq, bne_iff_ne, bne_eq_false_iff_eq, eq_self, and_self, splice, V.cells, List.take_succ_cons, List.take_zero, List.take_nil, List.drop_zero, List.drop_succ_cons, List.drop_nil, List.cons_append, List.nil_append, List.append_nil, List.length_cons, List.length_nil, Nat.zero_add, Nat.reduceAdd, if_true, if_false, Bool.false_eq_true, beq_self_eq_true, decide_eq_decide, Bool.true_eq_false, or_false, false_or, or_true, true_or, and_false, false_and, not_true_eq_false, not_false_eq_true, Bool.and_true, Bool.true_and, Bool.not_true, Bool.not_false] at *; omega)) ?_)
                           | (refine Exists.intro _ (Exists.intro _ (And.intro rfl ?_)))
                           | (refine Exists.intro _ (And.intro rfl ?_))
                           | (refine Exists.intro _ (Exists.intro _ (Exists.intro _ (Exists.intro _ (And.intro rfl ?_)))))
                           | (refine ld_step rfl (by assumption) rfl ?_)
                           | (refine lds_step rfl (by assumption) rfl ?_)
                           | (refine fL_mk ?_)
                           | (refine fH_mk ?_)
                           | (refine fN_mk ?_)
                           | (refine fLB_mk ?_)
                           | (refine And.intro (by repeat (first | assumption | refine GLB_app ?_)) ?_)
                           | (refine ld_step rfl ((rd_x0 _ _ _ _ _).trans rfl) rfl ?_)
                           | (refine ld_step rfl ((rd_x1 _ _ _ _ _ _).trans rfl) rfl ?_)
                           | (refine ld_step rfl ((rd_x2 _ _ _ _ _ _ _).trans rfl) rfl ?_)
                           | (refine lds_step rfl ((rd_x0 _ _ _ _ _).trans rfl) rfl ?_)
                           | (refine lds_step rfl ((rd_x1 _ _ _ _ _ _).trans rfl) rfl ?_)
                           | (refine lds_step rfl ((rd_x2 _ _ _ _ _ _ _).trans rfl) rfl ?_)
                           | (refine mem_step (st_eq rfl rfl rfl rfl (wr_last _ _ _ _ rfl)) ?_)
                           | (refine drec_yes (by omega) ?_)
                           | (refine drec_no (by omega) ?_)
                           | (intro _)
                           | fail)
                  conv => whnf
                  subst hz
                  exact kn (by omega) _ _ _ _ _ rfl ⟨rfl, rfl, rfl, rfl⟩
            · clear kn
              repeat' (conv => whnf
                       first
                       | (refine Stop.mk ?_)
                       | (refine fI_gen ?_; intro z hz)
                       | (refine fO_gen ?_; intro z hz)
                       | (refine kx _ _ _ _ _ _ ?_)
                       | (refine dec_true (by assumption) ?_)
                       | (refine dec_false (by assumption) ?_)
                       | (refine dec_split (fun h => ?_) (fun h => ?_))
                       | (apply silE)
                       | (exact And.intro rfl (And.intro rfl (And.intro rfl rfl)))
                       | (refine And.intro (by first | omega | ((simp only [decide_eq_true_eq, decide_eq_false_iff_not, Bool.and_eq_true, beq_iff_eq, Bool.not_eq_true', Bool.not_eq_false'] at *); omega) | (subst_vars; simp only [Int.ofNat_eq_natCast, tq_not, fq_not, tq_and, fq_and, tq_or, fq_or, tq_beq, fq_beq, tq_bne, fq_bne, tq_dec, fq_dec, one1, V.tup.injEq, V.agg.injEq, List.cons.injEq, V.int.injEq, V.bool.injEq, true_and, and_true, decide_eq_true_eq, decide_eq_false_iff_not, Bool.and_eq_true, Bool.and_eq_false_iff, Bool.or_eq_true, Bool.or_eq_false_iff, Bool.not_eq_true', Bool.not_eq_false', beq_iff_eq, wrap_u32, wrap_i64, wrap_u8, beq_eq_false_iff_ne, ne_eq, bne_iff_ne, bne_eq_false_iff_eq, eq_self, and_self, splice, V.cells, List.take_succ_cons, List.take_zero, List.take_nil, List.drop_zero, List.drop_succ_cons, List.drop_nil, List.cons_append, List.nil_append, List.append_nil, List.length_cons, List.length_nil, Nat.zero_add, Nat.reduceAdd, if_true, if_false, Bool.false_eq_true, beq_self_eq_true, decide_eq_decide, Bool.true_eq_false, or_false, false_or, or_true, true_or, and_false, false_and, not_true_eq_false, not_false_eq_true, Bool.and_true, Bool.true_and, Bool.not_true, Bool.not_false] at *; omega)) ?_)
                       | (refine Exists.intro _ (Exists.intro _ (And.intro rfl ?_)))
                       | (refine Exists.intro _ (And.intro rfl ?_))
                       | (refine Exists.intro _ (Exists.intro _ (Exists.intro _ (Exists.intro _ (And.intro rfl ?_)))))
                       | (refine ld_step rfl (by assumption) rfl ?_)
                       | (refine lds_step rfl (by assumption) rfl ?_)
                       | (refine fL_mk ?_)
                       | (refine fH_mk ?_)
                       | (refine fN_mk ?_)
                       | (refine fLB_mk ?_)
                       | (refine And.intro (by repeat (first | assumption | refine GLB_app ?_)) ?_)
                       | (refine ld_step rfl ((rd_x0 _ _ _ _ _).trans rfl) rfl ?_)
                       | (refine ld_step rfl ((rd_x1 _ _ _ _ _ _).trans rfl) rfl ?_)
                       | (refine ld_step rfl ((rd_x2 _ _ _ _ _ _ _).trans rfl) rfl ?_)
                       | (refine lds_step rfl ((rd_x0 _ _ _ _ _).trans rfl) rfl ?_)
                       | (refine lds_step rfl ((rd_x1 _ _ _ _ _ _).trans rfl) rfl ?_)
                       | (refine lds_step rfl ((rd_x2 _ _ _ _ _ _ _).trans rfl) rfl ?_)
                       | (refine mem_step (st_eq rfl rfl rfl rfl (wr_last _ _ _ _ rfl)) ?_)
                       | (refine drec_yes (by omega) ?_)
                       | (refine drec_no (by omega) ?_)
                       | (intro _)
                       | fail)
              refine Halt.mk ?_
              show rC _ _ r6_11 _ _ _ _ _ _
              clear kx kr
              have r6 := r5.set (l' := List.replicate w'.length 0) (len0 _) (u32s0 _)
              have g6 := r5.glb g5 (WB (List.replicate w'.length 0))
              have hat := hp.2.2.2.2.1
              have hfin : Hx = List.take Hx.length (H'.set Hx.length (WB (List.replicate w'.length 0))) := by rw [take_set_ge (Nat.le_refl _)]; exact t5
              have hlen6 : (4 * ((List.replicate w'.length (0 : Int)).length : Int) == n) = true := by rw [len0, hl', hw]; exact beq_iff_eq.2 hn4.2.2
              by_cases h8 : hasP w'.length at_ by_
              · have h86 : hasP (List.replicate w'.length (0 : Int)).length at_ by_ := by rw [len0]; exact h8
                have hf8 : 0 ≤ at_ ∧ 1 ≤ by_ ∧ by_ ≤ 4 ∧ at_ + by_ ≤ n := by have := fit4 h8.2.2 h8.1; have := h8.1; have h9 := h8.2.1; rw [hl', hw] at h9; have := h8.2.2.2; rcases h8.2.2.1 with rfl | rfl | rfl <;> omega
                have hrd8 := bytes_rd r5.u h8
                refine rC_seqH ?_
                repeat' (conv => whnf
                         first
                         | (refine Stop.mk ?_)
                         | (refine fI_is ((if_pos h8).trans hrd8) ?_)
                         | (refine fO_is (decide_eq_true h8) ?_)
                         | (refine fI_gen ?_; intro z hz)
                         | (refine fO_gen ?_; intro z hz)
                         | (refine ⟨hat, g5, _, _, r5, ?_⟩)
                         | (refine dec_true (by assumption) ?_)
                         | (refine dec_false (by assumption) ?_)
                         | (refine dec_split (fun h => ?_) (fun h => ?_))
                         | (apply silE)
                         | (exact And.intro rfl (And.intro rfl (And.intro rfl rfl)))
                         | (refine And.intro (by first | omega | ((simp only [decide_eq_true_eq, decide_eq_false_iff_not, Bool.and_eq_true, beq_iff_eq, Bool.not_eq_true', Bool.not_eq_false'] at *); omega) | (subst_vars; simp only [Int.ofNat_eq_natCast, tq_not, fq_not, tq_and, fq_and, tq_or, fq_or, tq_beq, fq_beq, tq_bne, fq_bne, tq_dec, fq_dec, one1, V.tup.injEq, V.agg.injEq, List.cons.injEq, V.int.injEq, V.bool.injEq, true_and, and_true, decide_eq_true_eq, decide_eq_false_iff_not, Bool.and_eq_true, Bool.and_eq_false_iff, Bool.or_eq_true, Bool.or_eq_false_iff, Bool.not_eq_true', Bool.not_eq_false', beq_iff_eq, wrap_u32, wrap_i64, wrap_u8, beq_eq_false_iff_ne, ne_eq, bne_iff_ne, bne_eq_false_iff_eq, eq_self, and_self, splice, V.cells, List.take_succ_cons, List.take_zero, List.take_nil, List.drop_zero, List.drop_succ_cons, List.drop_nil, List.cons_append, List.nil_append, List.append_nil, List.length_cons, List.length_nil, Nat.zero_add, Nat.reduceAdd, if_true, if_false, Bool.false_eq_true, beq_self_eq_true, decide_eq_decide, Bool.true_eq_false, or_false, false_or, or_true, true_or, and_false, false_and, not_true_eq_false, not_false_eq_true, Bool.and_true, Bool.true_and, Bool.not_true, Bool.not_false] at *; omega)) ?_)
                         | (refine Exists.intro _ (Exists.intro _ (And.intro rfl ?_)))
                         | (refine Exists.intro _ (And.intro rfl ?_))
                         | (refine Exists.intro _ (Exists.intro _ (Exists.intro _ (Exists.intro _ (And.intro rfl ?_)))))
                         | (refine ld_step rfl (by assumption) rfl ?_)
                         | (refine lds_step rfl (by assumption) rfl ?_)
                         | (refine fL_mk ?_)
                         | (refine fH_mk ?_)
                         | (refine fN_mk ?_)
                         | (refine fLB_mk ?_)
                         | (refine And.intro (by repeat (first | assumption | refine GLB_app ?_)) ?_)
                         | (refine ld_step rfl ((rd_x0 _ _ _ _ _).trans rfl) rfl ?_)
                         | (refine ld_step rfl ((rd_x1 _ _ _ _ _ _).trans rfl) rfl ?_)
                         | (refine ld_step rfl ((rd_x2 _ _ _ _ _ _ _).trans rfl) rfl ?_)
                         | (refine lds_step rfl ((rd_x0 _ _ _ _ _).trans rfl) rfl ?_)
                         | (refine lds_step rfl ((rd_x1 _ _ _ _ _ _).trans rfl) rfl ?_)
                         | (refine lds_step rfl ((rd_x2 _ _ _ _ _ _ _).trans rfl) rfl ?_)
                         | (refine mem_step (st_eq rfl rfl rfl rfl (wr_last _ _ _ _ rfl)) ?_)
                         | (refine drec_yes (by omega) ?_)
                         | (refine drec_no (by omega) ?_)
                         | (intro _)
                         | fail)
                any_goals refine Halt.mk ?_
                any_goals show rC _ _ r6_12 _ _ _ _ _ _
                have hs8 : IntKind.i64.wrap (n - by_) = n - by_ := wrap_i64_id (by omega) (by omega)
                refine rC_seqH ?_
                repeat' (conv => whnf
                         first
                         | (refine Stop.mk ?_)
                         | (with_reducible refine fI_is hs8 ?_)
                         | (with_reducible refine fO_is (decide_eq_false (show ¬ at_ < 0 by omega)) ?_)
                         | (with_reducible refine fO_is (decide_eq_false (show ¬ by_ < 1 by omega)) ?_)
                         | (with_reducible refine fO_is (decide_eq_false (show ¬ by_ > n by omega)) ?_)
                         | (with_reducible refine fO_is (decide_eq_false (show ¬ at_ > n - by_ by omega)) ?_)
                         | (refine fI_gen ?_; intro z hz)
                         | (refine fO_gen ?_; intro z hz)
                         | (refine dec_true (by assumption) ?_)
                         | (refine dec_false (by assumption) ?_)
                         | (refine dec_split (fun h => ?_) (fun h => ?_))
                         | (apply silE)
                         | (exact And.intro rfl (And.intro rfl (And.intro rfl rfl)))
                         | (refine And.intro (by first | omega | ((simp only [decide_eq_true_eq, decide_eq_false_iff_not, Bool.and_eq_true, beq_iff_eq, Bool.not_eq_true', Bool.not_eq_false'] at *); omega) | (subst_vars; simp only [Int.ofNat_eq_natCast, tq_not, fq_not, tq_and, fq_and, tq_or, fq_or, tq_beq, fq_beq, tq_bne, fq_bne, tq_dec, fq_dec, one1, V.tup.injEq, V.agg.injEq, List.cons.injEq, V.int.injEq, V.bool.injEq, true_and, and_true, decide_eq_true_eq, decide_eq_false_iff_not, Bool.and_eq_true, Bool.and_eq_false_iff, Bool.or_eq_true, Bool.or_eq_false_iff, Bool.not_eq_true', Bool.not_eq_false', beq_iff_eq, wrap_u32, wrap_i64, wrap_u8, beq_eq_false_iff_ne, ne_eq, bne_iff_ne, bne_eq_false_iff_eq, eq_self, and_self, splice, V.cells, List.take_succ_cons, List.take_zero, List.take_nil, List.drop_zero, List.drop_succ_cons, List.drop_nil, List.cons_append, List.nil_append, List.append_nil, List.length_cons, List.length_nil, Nat.zero_add, Nat.reduceAdd, if_true, if_false, Bool.false_eq_true, beq_self_eq_true, decide_eq_decide, Bool.true_eq_false, or_false, false_or, or_true, true_or, and_false, false_and, not_true_eq_false, not_false_eq_true, Bool.and_true, Bool.true_and, Bool.not_true, Bool.not_false] at *; omega)) ?_)
                         | (refine Exists.intro _ (Exists.intro _ (And.intro rfl ?_)))
                         | (refine Exists.intro _ (And.intro rfl ?_))
                         | (refine Exists.intro _ (Exists.intro _ (Exists.intro _ (Exists.intro _ (And.intro rfl ?_)))))
                         | (refine ld_step rfl (by assumption) rfl ?_)
                         | (refine lds_step rfl (by assumption) rfl ?_)
                         | (refine fL_mk ?_)
                         | (refine fH_mk ?_)
                         | (refine fN_mk ?_)
                         | (refine fLB_mk ?_)
                         | (refine And.intro (by repeat (first | assumption | refine GLB_app ?_)) ?_)
                         | (refine ld_step rfl ((rd_x0 _ _ _ _ _).trans rfl) rfl ?_)
                         | (refine ld_step rfl ((rd_x1 _ _ _ _ _ _).trans rfl) rfl ?_)
                         | (refine ld_step rfl ((rd_x2 _ _ _ _ _ _ _).trans rfl) rfl ?_)
                         | (refine lds_step rfl ((rd_x0 _ _ _ _ _).trans rfl) rfl ?_)
                         | (refine lds_step rfl ((rd_x1 _ _ _ _ _ _).trans rfl) rfl ?_)
                         | (refine lds_step rfl ((rd_x2 _ _ _ _ _ _ _).trans rfl) rfl ?_)
                         | (refine mem_step (st_eq rfl rfl rfl rfl (wr_last _ _ _ _ rfl)) ?_)
                         | (refine drec_yes (by omega) ?_)
                         | (refine drec_no (by omega) ?_)
                         | (intro _)
                         | fail)
                any_goals refine Halt.mk ?_
                any_goals show rC _ _ r6_13 _ _ _ _ _ _
                have ha8 : IntKind.i64.wrap (at_ + by_) = at_ + by_ := wrap_i64_id (by omega) (by omega)
                have hL : (at_ + by_).toNat - at_.toNat = (((bytesW w').drop at_.toNat).take by_.toNat).length := by rw [List.length_take, List.length_drop]; omega
                have hok8 : okS ((((at_ + by_).toNat - at_.toNat : Nat) : Int)) := by rw [show (((at_ + by_).toNat - at_.toNat : Nat) : Int) = by_ by omega]; exact h8.2.2.1
                have hbd8 : ∀ x, x ∈ ((bytesW w').drop at_.toNat).take by_.toNat → 0 ≤ x ∧ x < 256 := fun x hx => bytesW_bd x (List.mem_of_mem_drop (List.mem_of_mem_take hx))
                have hrr8 : rd H' b2 (0 + at_.toNat * 1) ((((bytesW w').drop at_.toNat).take by_.toNat).length * 1) = some ((((bytesW w').drop at_.toNat).take by_.toNat).flatMap encB) := by
                  rw [← hL, show (at_ + by_).toNat - at_.toNat = by_.toNat by omega]; exact blk_rd k52 (by omega)
                refine rC_seqH ?_
                repeat' (conv => whnf
                         first
                         | (refine Stop.mk ?_)
                         | (with_reducible refine fI_is ha8 ?_)
                         | (with_reducible refine fI_is (a := ofB (((bytesW w').drop at_.toNat).take by_.toNat)) rfl ?_)
                         | (refine fO_is (bne_self_eq_false _) ?_)
                         | (refine fI_gen ?_; intro z hz)
                         | (refine fO_gen ?_; intro z hz)
                         | (refine pure_step (slcLH_eq rfl rfl rfl (by omega) (by omega) (by omega) (by omega)) ?_)
                         | (refine ⟨g5, _, hL, hok8, hbd8, hrr8, ?_⟩)
                         | (refine dec_true (by assumption) ?_)
                         | (refine dec_false (by assumption) ?_)
                         | (refine dec_split (fun h => ?_) (fun h => ?_))
                         | (apply silE)
                         | (exact And.intro rfl (And.intro rfl (And.intro rfl rfl)))
                         | (refine And.intro (by first | omega | ((simp only [decide_eq_true_eq, decide_eq_false_iff_not, Bool.and_eq_true, beq_iff_eq, Bool.not_eq_true', Bool.not_eq_false'] at *); omega) | (subst_vars; simp only [Int.ofNat_eq_natCast, tq_not, fq_not, tq_and, fq_and, tq_or, fq_or, tq_beq, fq_beq, tq_bne, fq_bne, tq_dec, fq_dec, one1, V.tup.injEq, V.agg.injEq, List.cons.injEq, V.int.injEq, V.bool.injEq, true_and, and_true, decide_eq_true_eq, decide_eq_false_iff_not, Bool.and_eq_true, Bool.and_eq_false_iff, Bool.or_eq_true, Bool.or_eq_false_iff, Bool.not_eq_true', Bool.not_eq_false', beq_iff_eq, wrap_u32, wrap_i64, wrap_u8, beq_eq_false_iff_ne, ne_eq, bne_iff_ne, bne_eq_false_iff_eq, eq_self, and_self, splice, V.cells, List.take_succ_cons, List.take_zero, List.take_nil, List.drop_zero, List.drop_succ_cons, List.drop_nil, List.cons_append, List.nil_append, List.append_nil, List.length_cons, List.length_nil, Nat.zero_add, Nat.reduceAdd, if_true, if_false, Bool.false_eq_true, beq_self_eq_true, decide_eq_decide, Bool.true_eq_false, or_false, false_or, or_true, true_or, and_false, false_and, not_true_eq_false, not_false_eq_true, Bool.and_true, Bool.true_and, Bool.not_true, Bool.not_false] at *; omega)) ?_)
                         | (refine Exists.intro _ (Exists.intro _ (And.intro rfl ?_)))
                         | (refine Exists.intro _ (And.intro rfl ?_))
                         | (refine Exists.intro _ (Exists.intro _ (Exists.intro _ (Exists.intro _ (And.intro rfl ?_)))))
                         | (refine ld_step rfl (by assumption) rfl ?_)
                         | (refine lds_step rfl (by assumption) rfl ?_)
                         | (refine fL_mk ?_)
                         | (refine fH_mk ?_)
                         | (refine fN_mk ?_)
                         | (refine fLB_mk ?_)
                         | (refine And.intro (by repeat (first | assumption | refine GLB_app ?_)) ?_)
                         | (refine ld_step rfl ((rd_x0 _ _ _ _ _).trans rfl) rfl ?_)
                         | (refine ld_step rfl ((rd_x1 _ _ _ _ _ _).trans rfl) rfl ?_)
                         | (refine ld_step rfl ((rd_x2 _ _ _ _ _ _ _).trans rfl) rfl ?_)
                         | (refine lds_step rfl ((rd_x0 _ _ _ _ _).trans rfl) rfl ?_)
                         | (refine lds_step rfl ((rd_x1 _ _ _ _ _ _).trans rfl) rfl ?_)
                         | (refine lds_step rfl ((rd_x2 _ _ _ _ _ _ _).trans rfl) rfl ?_)
                         | (refine mem_step (st_eq rfl rfl rfl rfl (wr_last _ _ _ _ rfl)) ?_)
                         | (refine drec_yes (by omega) ?_)
                         | (refine drec_no (by omega) ?_)
                         | (intro _)
                         | fail)
                any_goals refine Halt.mk ?_
                any_goals show rC _ _ r6_14 _ _ _ _ _ _
                refine rC_seqH ?_
                repeat' (conv => whnf
                         first
                         | (refine Stop.mk ?_)
                         | (refine fI_gen ?_; intro z hz)
                         | (refine fO_gen ?_; intro z hz)
                         | (refine ⟨_, _, r5, ?_⟩)
                         | (refine dec_true (by assumption) ?_)
                         | (refine dec_false (by assumption) ?_)
                         | (refine dec_split (fun h => ?_) (fun h => ?_))
                         | (apply silE)
                         | (exact And.intro rfl (And.intro rfl (And.intro rfl rfl)))
                         | (refine And.intro (by first | omega | ((simp only [decide_eq_true_eq, decide_eq_false_iff_not, Bool.and_eq_true, beq_iff_eq, Bool.not_eq_true', Bool.not_eq_false'] at *); omega) | (subst_vars; simp only [Int.ofNat_eq_natCast, tq_not, fq_not, tq_and, fq_and, tq_or, fq_or, tq_beq, fq_beq, tq_bne, fq_bne, tq_dec, fq_dec, one1, V.tup.injEq, V.agg.injEq, List.cons.injEq, V.int.injEq, V.bool.injEq, true_and, and_true, decide_eq_true_eq, decide_eq_false_iff_not, Bool.and_eq_true, Bool.and_eq_false_iff, Bool.or_eq_true, Bool.or_eq_false_iff, Bool.not_eq_true', Bool.not_eq_false', beq_iff_eq, wrap_u32, wrap_i64, wrap_u8, beq_eq_false_iff_ne, ne_eq, bne_iff_ne, bne_eq_false_iff_eq, eq_self, and_self, splice, V.cells, List.take_succ_cons, List.take_zero, List.take_nil, List.drop_zero, List.drop_succ_cons, List.drop_nil, List.cons_append, List.nil_append, List.append_nil, List.length_cons, List.length_nil, Nat.zero_add, Nat.reduceAdd, if_true, if_false, Bool.false_eq_true, beq_self_eq_true, decide_eq_decide, Bool.true_eq_false, or_false, false_or, or_true, true_or, and_false, false_and, not_true_eq_false, not_false_eq_true, Bool.and_true, Bool.true_and, Bool.not_true, Bool.not_false] at *; omega)) ?_)
                         | (refine Exists.intro _ (Exists.intro _ (And.intro rfl ?_)))
                         | (refine Exists.intro _ (And.intro rfl ?_))
                         | (refine Exists.intro _ (Exists.intro _ (Exists.intro _ (Exists.intro _ (And.intro rfl ?_)))))
                         | (refine ld_step rfl (by assumption) rfl ?_)
                         | (refine lds_step rfl (by assumption) rfl ?_)
                         | (refine fL_mk ?_)
                         | (refine fH_mk ?_)
                         | (refine fN_mk ?_)
                         | (refine fLB_mk ?_)
                         | (refine And.intro (by repeat (first | assumption | refine GLB_app ?_)) ?_)
                         | (refine ld_step rfl ((rd_x0 _ _ _ _ _).trans rfl) rfl ?_)
                         | (refine ld_step rfl ((rd_x1 _ _ _ _ _ _).trans rfl) rfl ?_)
                         | (refine ld_step rfl ((rd_x2 _ _ _ _ _ _ _).trans rfl) rfl ?_)
                         | (refine lds_step rfl ((rd_x0 _ _ _ _ _).trans rfl) rfl ?_)
                         | (refine lds_step rfl ((rd_x1 _ _ _ _ _ _).trans rfl) rfl ?_)
                         | (refine lds_step rfl ((rd_x2 _ _ _ _ _ _ _).trans rfl) rfl ?_)
                         | (refine mem_step (st_eq rfl rfl rfl rfl (wr_last _ _ _ _ rfl)) ?_)
                         | (refine drec_yes (by omega) ?_)
                         | (refine drec_no (by omega) ?_)
                         | (intro _)
                         | fail)
                any_goals refine Halt.mk ?_
                any_goals show rC _ _ r6_15 _ _ _ _ _ _
                have z0 : (if hasP (List.replicate w'.length (0 : Int)).length at_ by_ then takeV by_ at_ ((List.replicate w'.length (0 : Int)).getD (at_ / 4).toNat 0) else 0) = 0 := by rw [if_pos h86, rep_getD]; unfold takeV; simp
                refine rC_seqH ?_
                repeat' (conv => whnf
                         first
                         | (refine Stop.mk ?_)
                         | (refine fI_is z0 ?_)
                         | (refine fO_is (decide_eq_true h86) ?_)
                         | (refine fI_gen ?_; intro z hz)
                         | (refine fO_gen ?_; intro z hz)
                         | (refine ⟨hat, g6, _, _, r6, ?_⟩)
                         | (refine dec_true (by assumption) ?_)
                         | (refine dec_false (by assumption) ?_)
                         | (refine dec_split (fun h => ?_) (fun h => ?_))
                         | (apply silE)
                         | (exact And.intro rfl (And.intro rfl (And.intro rfl rfl)))
                         | (refine And.intro (by first | omega | ((simp only [decide_eq_true_eq, decide_eq_false_iff_not, Bool.and_eq_true, beq_iff_eq, Bool.not_eq_true', Bool.not_eq_false'] at *); omega) | (subst_vars; simp only [Int.ofNat_eq_natCast, tq_not, fq_not, tq_and, fq_and, tq_or, fq_or, tq_beq, fq_beq, tq_bne, fq_bne, tq_dec, fq_dec, one1, V.tup.injEq, V.agg.injEq, List.cons.injEq, V.int.injEq, V.bool.injEq, true_and, and_true, decide_eq_true_eq, decide_eq_false_iff_not, Bool.and_eq_true, Bool.and_eq_false_iff, Bool.or_eq_true, Bool.or_eq_false_iff, Bool.not_eq_true', Bool.not_eq_false', beq_iff_eq, wrap_u32, wrap_i64, wrap_u8, beq_eq_false_iff_ne, ne_eq, bne_iff_ne, bne_eq_false_iff_eq, eq_self, and_self, splice, V.cells, List.take_succ_cons, List.take_zero, List.take_nil, List.drop_zero, List.drop_succ_cons, List.drop_nil, List.cons_append, List.nil_append, List.append_nil, List.length_cons, List.length_nil, Nat.zero_add, Nat.reduceAdd, if_true, if_false, Bool.false_eq_true, beq_self_eq_true, decide_eq_decide, Bool.true_eq_false, or_false, false_or, or_true, true_or, and_false, false_and, not_true_eq_false, not_false_eq_true, Bool.and_true, Bool.true_and, Bool.not_true, Bool.not_false] at *; omega)) ?_)
                         | (refine Exists.intro _ (Exists.intro _ (And.intro rfl ?_)))
                         | (refine Exists.intro _ (And.intro rfl ?_))
                         | (refine Exists.intro _ (Exists.intro _ (Exists.intro _ (Exists.intro _ (And.intro rfl ?_)))))
                         | (refine ld_step rfl (by assumption) rfl ?_)
                         | (refine lds_step rfl (by assumption) rfl ?_)
                         | (refine fL_mk ?_)
                         | (refine fH_mk ?_)
                         | (refine fN_mk ?_)
                         | (refine fLB_mk ?_)
                         | (refine And.intro (by repeat (first | assumption | refine GLB_app ?_)) ?_)
                         | (refine ld_step rfl ((rd_x0 _ _ _ _ _).trans rfl) rfl ?_)
                         | (refine ld_step rfl ((rd_x1 _ _ _ _ _ _).trans rfl) rfl ?_)
                         | (refine ld_step rfl ((rd_x2 _ _ _ _ _ _ _).trans rfl) rfl ?_)
                         | (refine lds_step rfl ((rd_x0 _ _ _ _ _).trans rfl) rfl ?_)
                         | (refine lds_step rfl ((rd_x1 _ _ _ _ _ _).trans rfl) rfl ?_)
                         | (refine lds_step rfl ((rd_x2 _ _ _ _ _ _ _).trans rfl) rfl ?_)
                         | (refine mem_step (st_eq rfl rfl rfl rfl (wr_last _ _ _ _ rfl)) ?_)
                         | (refine drec_yes (by omega) ?_)
                         | (refine drec_no (by omega) ?_)
                         | (intro _)
                         | fail)
                any_goals refine Halt.mk ?_
                any_goals show rC _ _ r6_16 _ _ _ _ _ _
                repeat' (conv => whnf
                         first
                         | (refine Stop.mk ?_)
                         | (with_reducible refine fI_is (a := 4 * ((List.replicate w'.length (0 : Int)).length : Int)) rfl ?_)
                         | (refine fO_is hlen6 ?_)
                         | (refine fI_gen ?_; intro z hz)
                         | (refine fO_gen ?_; intro z hz)
                         | (refine ⟨_, _, r6, ?_⟩)
                         | (refine dec_true (by assumption) ?_)
                         | (refine dec_false (by assumption) ?_)
                         | (refine dec_split (fun h => ?_) (fun h => ?_))
                         | (apply silE)
                         | (exact And.intro rfl (And.intro rfl (And.intro rfl rfl)))
                         | (refine And.intro (by first | omega | ((simp only [decide_eq_true_eq, decide_eq_false_iff_not, Bool.and_eq_true, beq_iff_eq, Bool.not_eq_true', Bool.not_eq_false'] at *); omega) | (subst_vars; simp only [Int.ofNat_eq_natCast, tq_not, fq_not, tq_and, fq_and, tq_or, fq_or, tq_beq, fq_beq, tq_bne, fq_bne, tq_dec, fq_dec, one1, V.tup.injEq, V.agg.injEq, List.cons.injEq, V.int.injEq, V.bool.injEq, true_and, and_true, decide_eq_true_eq, decide_eq_false_iff_not, Bool.and_eq_true, Bool.and_eq_false_iff, Bool.or_eq_true, Bool.or_eq_false_iff, Bool.not_eq_true', Bool.not_eq_false', beq_iff_eq, wrap_u32, wrap_i64, wrap_u8, beq_eq_false_iff_ne, ne_eq, bne_iff_ne, bne_eq_false_iff_eq, eq_self, and_self, splice, V.cells, List.take_succ_cons, List.take_zero, List.take_nil, List.drop_zero, List.drop_succ_cons, List.drop_nil, List.cons_append, List.nil_append, List.append_nil, List.length_cons, List.length_nil, Nat.zero_add, Nat.reduceAdd, if_true, if_false, Bool.false_eq_true, beq_self_eq_true, decide_eq_decide, Bool.true_eq_false, or_false, false_or, or_true, true_or, and_false, false_and, not_true_eq_false, not_false_eq_true, Bool.and_true, Bool.true_and, Bool.not_true, Bool.not_false] at *; omega)) ?_)
                         | (refine Exists.intro _ (Exists.intro _ (And.intro rfl ?_)))
                         | (refine Exists.intro _ (And.intro rfl ?_))
                         | (refine Exists.intro _ (Exists.intro _ (Exists.intro _ (Exists.intro _ (And.intro rfl ?_)))))
                         | (refine ld_step rfl (by assumption) rfl ?_)
                         | (refine lds_step rfl (by assumption) rfl ?_)
                         | (refine fL_mk ?_)
                         | (refine fH_mk ?_)
                         | (refine fN_mk ?_)
                         | (refine fLB_mk ?_)
                         | (refine And.intro (by repeat (first | assumption | refine GLB_app ?_)) ?_)
                         | (refine ld_step rfl ((rd_x0 _ _ _ _ _).trans rfl) rfl ?_)
                         | (refine ld_step rfl ((rd_x1 _ _ _ _ _ _).trans rfl) rfl ?_)
                         | (refine ld_step rfl ((rd_x2 _ _ _ _ _ _ _).trans rfl) rfl ?_)
                         | (refine lds_step rfl ((rd_x0 _ _ _ _ _).trans rfl) rfl ?_)
                         | (refine lds_step rfl ((rd_x1 _ _ _ _ _ _).trans rfl) rfl ?_)
                         | (refine lds_step rfl ((rd_x2 _ _ _ _ _ _ _).trans rfl) rfl ?_)
                         | (refine mem_step (st_eq rfl rfl rfl rfl (wr_last _ _ _ _ rfl)) ?_)
                         | (refine drec_yes (by omega) ?_)
                         | (refine drec_no (by omega) ?_)
                         | (intro _)
                         | fail)
                conv => whnf
                exact leafH hq rfl hfin
              · have h86 : ¬ hasP (List.replicate w'.length (0 : Int)).length at_ by_ := by rw [len0]; exact h8
                refine rC_seqH ?_
                repeat' (conv => whnf
                         first
                         | (refine Stop.mk ?_)
                         | (refine fI_is (if_neg h8) ?_)
                         | (refine fO_is (decide_eq_false h8) ?_)
                         | (refine fI_gen ?_; intro z hz)
                         | (refine fO_gen ?_; intro z hz)
                         | (refine ⟨hat, g5, _, _, r5, ?_⟩)
                         | (refine dec_true (by assumption) ?_)
                         | (refine dec_false (by assumption) ?_)
                         | (refine dec_split (fun h => ?_) (fun h => ?_))
                         | (apply silE)
                         | (exact And.intro rfl (And.intro rfl (And.intro rfl rfl)))
                         | (refine And.intro (by first | omega | ((simp only [decide_eq_true_eq, decide_eq_false_iff_not, Bool.and_eq_true, beq_iff_eq, Bool.not_eq_true', Bool.not_eq_false'] at *); omega) | (subst_vars; simp only [Int.ofNat_eq_natCast, tq_not, fq_not, tq_and, fq_and, tq_or, fq_or, tq_beq, fq_beq, tq_bne, fq_bne, tq_dec, fq_dec, one1, V.tup.injEq, V.agg.injEq, List.cons.injEq, V.int.injEq, V.bool.injEq, true_and, and_true, decide_eq_true_eq, decide_eq_false_iff_not, Bool.and_eq_true, Bool.and_eq_false_iff, Bool.or_eq_true, Bool.or_eq_false_iff, Bool.not_eq_true', Bool.not_eq_false', beq_iff_eq, wrap_u32, wrap_i64, wrap_u8, beq_eq_false_iff_ne, ne_eq, bne_iff_ne, bne_eq_false_iff_eq, eq_self, and_self, splice, V.cells, List.take_succ_cons, List.take_zero, List.take_nil, List.drop_zero, List.drop_succ_cons, List.drop_nil, List.cons_append, List.nil_append, List.append_nil, List.length_cons, List.length_nil, Nat.zero_add, Nat.reduceAdd, if_true, if_false, Bool.false_eq_true, beq_self_eq_true, decide_eq_decide, Bool.true_eq_false, or_false, false_or, or_true, true_or, and_false, false_and, not_true_eq_false, not_false_eq_true, Bool.and_true, Bool.true_and, Bool.not_true, Bool.not_false] at *; omega)) ?_)
                         | (refine Exists.intro _ (Exists.intro _ (And.intro rfl ?_)))
                         | (refine Exists.intro _ (And.intro rfl ?_))
                         | (refine Exists.intro _ (Exists.intro _ (Exists.intro _ (Exists.intro _ (And.intro rfl ?_)))))
                         | (refine ld_step rfl (by assumption) rfl ?_)
                         | (refine lds_step rfl (by assumption) rfl ?_)
                         | (refine fL_mk ?_)
                         | (refine fH_mk ?_)
                         | (refine fN_mk ?_)
                         | (refine fLB_mk ?_)
                         | (refine And.intro (by repeat (first | assumption | refine GLB_app ?_)) ?_)
                         | (refine ld_step rfl ((rd_x0 _ _ _ _ _).trans rfl) rfl ?_)
                         | (refine ld_step rfl ((rd_x1 _ _ _ _ _ _).trans rfl) rfl ?_)
                         | (refine ld_step rfl ((rd_x2 _ _ _ _ _ _ _).trans rfl) rfl ?_)
                         | (refine lds_step rfl ((rd_x0 _ _ _ _ _).trans rfl) rfl ?_)
                         | (refine lds_step rfl ((rd_x1 _ _ _ _ _ _).trans rfl) rfl ?_)
                         | (refine lds_step rfl ((rd_x2 _ _ _ _ _ _ _).trans rfl) rfl ?_)
                         | (refine mem_step (st_eq rfl rfl rfl rfl (wr_last _ _ _ _ rfl)) ?_)
                         | (refine drec_yes (by omega) ?_)
                         | (refine drec_no (by omega) ?_)
                         | (intro _)
                         | fail)
                any_goals refine Halt.mk ?_
                any_goals show rC _ _ r6_12 _ _ _ _ _ _
                refine rC_seqH ?_
                repeat' (conv => whnf
                         first
                         | (refine Stop.mk ?_)
                         | (refine fI_gen ?_; intro z hz)
                         | (refine fO_gen ?_; intro z hz)
                         | (refine dec_true (by assumption) ?_)
                         | (refine dec_false (by assumption) ?_)
                         | (refine dec_split (fun h => ?_) (fun h => ?_))
                         | (apply silE)
                         | (exact And.intro rfl (And.intro rfl (And.intro rfl rfl)))
                         | (refine And.intro (by first | omega | ((simp only [decide_eq_true_eq, decide_eq_false_iff_not, Bool.and_eq_true, beq_iff_eq, Bool.not_eq_true', Bool.not_eq_false'] at *); omega) | (subst_vars; simp only [Int.ofNat_eq_natCast, tq_not, fq_not, tq_and, fq_and, tq_or, fq_or, tq_beq, fq_beq, tq_bne, fq_bne, tq_dec, fq_dec, one1, V.tup.injEq, V.agg.injEq, List.cons.injEq, V.int.injEq, V.bool.injEq, true_and, and_true, decide_eq_true_eq, decide_eq_false_iff_not, Bool.and_eq_true, Bool.and_eq_false_iff, Bool.or_eq_true, Bool.or_eq_false_iff, Bool.not_eq_true', Bool.not_eq_false', beq_iff_eq, wrap_u32, wrap_i64, wrap_u8, beq_eq_false_iff_ne, ne_eq, bne_iff_ne, bne_eq_false_iff_eq, eq_self, and_self, splice, V.cells, List.take_succ_cons, List.take_zero, List.take_nil, List.drop_zero, List.drop_succ_cons, List.drop_nil, List.cons_append, List.nil_append, List.append_nil, List.length_cons, List.length_nil, Nat.zero_add, Nat.reduceAdd, if_true, if_false, Bool.false_eq_true, beq_self_eq_true, decide_eq_decide, Bool.true_eq_false, or_false, false_or, or_true, true_or, and_false, false_and, not_true_eq_false, not_false_eq_true, Bool.and_true, Bool.true_and, Bool.not_true, Bool.not_false] at *; omega)) ?_)
                         | (refine Exists.intro _ (Exists.intro _ (And.intro rfl ?_)))
                         | (refine Exists.intro _ (And.intro rfl ?_))
                         | (refine Exists.intro _ (Exists.intro _ (Exists.intro _ (Exists.intro _ (And.intro rfl ?_)))))
                         | (refine ld_step rfl (by assumption) rfl ?_)
                         | (refine lds_step rfl (by assumption) rfl ?_)
                         | (refine fL_mk ?_)
                         | (refine fH_mk ?_)
                         | (refine fN_mk ?_)
                         | (refine fLB_mk ?_)
                         | (refine And.intro (by repeat (first | assumption | refine GLB_app ?_)) ?_)
                         | (refine ld_step rfl ((rd_x0 _ _ _ _ _).trans rfl) rfl ?_)
                         | (refine ld_step rfl ((rd_x1 _ _ _ _ _ _).trans rfl) rfl ?_)
                         | (refine ld_step rfl ((rd_x2 _ _ _ _ _ _ _).trans rfl) rfl ?_)
                         | (refine lds_step rfl ((rd_x0 _ _ _ _ _).trans rfl) rfl ?_)
                         | (refine lds_step rfl ((rd_x1 _ _ _ _ _ _).trans rfl) rfl ?_)
                         | (refine lds_step rfl ((rd_x2 _ _ _ _ _ _ _).trans rfl) rfl ?_)
                         | (refine mem_step (st_eq rfl rfl rfl rfl (wr_last _ _ _ _ rfl)) ?_)
                         | (refine drec_yes (by omega) ?_)
                         | (refine drec_no (by omega) ?_)
                         | (intro _)
                         | fail)
                any_goals refine Halt.mk ?_
                any_goals show rC _ _ r6_13 _ _ _ _ _ _
                refine rC_seqH ?_
                repeat' (conv => whnf
                         first
                         | (refine Stop.mk ?_)
                         | (refine fI_gen ?_; intro z hz)
                         | (refine fO_gen ?_; intro z hz)
                         | (refine dec_true (by assumption) ?_)
                         | (refine dec_false (by assumption) ?_)
                         | (refine dec_split (fun h => ?_) (fun h => ?_))
                         | (apply silE)
                         | (exact And.intro rfl (And.intro rfl (And.intro rfl rfl)))
                         | (refine And.intro (by first | omega | ((simp only [decide_eq_true_eq, decide_eq_false_iff_not, Bool.and_eq_true, beq_iff_eq, Bool.not_eq_true', Bool.not_eq_false'] at *); omega) | (subst_vars; simp only [Int.ofNat_eq_natCast, tq_not, fq_not, tq_and, fq_and, tq_or, fq_or, tq_beq, fq_beq, tq_bne, fq_bne, tq_dec, fq_dec, one1, V.tup.injEq, V.agg.injEq, List.cons.injEq, V.int.injEq, V.bool.injEq, true_and, and_true, decide_eq_true_eq, decide_eq_false_iff_not, Bool.and_eq_true, Bool.and_eq_false_iff, Bool.or_eq_true, Bool.or_eq_false_iff, Bool.not_eq_true', Bool.not_eq_false', beq_iff_eq, wrap_u32, wrap_i64, wrap_u8, beq_eq_false_iff_ne, ne_eq, bne_iff_ne, bne_eq_false_iff_eq, eq_self, and_self, splice, V.cells, List.take_succ_cons, List.take_zero, List.take_nil, List.drop_zero, List.drop_succ_cons, List.drop_nil, List.cons_append, List.nil_append, List.append_nil, List.length_cons, List.length_nil, Nat.zero_add, Nat.reduceAdd, if_true, if_false, Bool.false_eq_true, beq_self_eq_true, decide_eq_decide, Bool.true_eq_false, or_false, false_or, or_true, true_or, and_false, false_and, not_true_eq_false, not_false_eq_true, Bool.and_true, Bool.true_and, Bool.not_true, Bool.not_false] at *; omega)) ?_)
                         | (refine Exists.intro _ (Exists.intro _ (And.intro rfl ?_)))
                         | (refine Exists.intro _ (And.intro rfl ?_))
                         | (refine Exists.intro _ (Exists.intro _ (Exists.intro _ (Exists.intro _ (And.intro rfl ?_)))))
                         | (refine ld_step rfl (by assumption) rfl ?_)
                         | (refine lds_step rfl (by assumption) rfl ?_)
                         | (refine fL_mk ?_)
                         | (refine fH_mk ?_)
                         | (refine fN_mk ?_)
                         | (refine fLB_mk ?_)
                         | (refine And.intro (by repeat (first | assumption | refine GLB_app ?_)) ?_)
                         | (refine ld_step rfl ((rd_x0 _ _ _ _ _).trans rfl) rfl ?_)
                         | (refine ld_step rfl ((rd_x1 _ _ _ _ _ _).trans rfl) rfl ?_)
                         | (refine ld_step rfl ((rd_x2 _ _ _ _ _ _ _).trans rfl) rfl ?_)
                         | (refine lds_step rfl ((rd_x0 _ _ _ _ _).trans rfl) rfl ?_)
                         | (refine lds_step rfl ((rd_x1 _ _ _ _ _ _).trans rfl) rfl ?_)
                         | (refine lds_step rfl ((rd_x2 _ _ _ _ _ _ _).trans rfl) rfl ?_)
                         | (refine mem_step (st_eq rfl rfl rfl rfl (wr_last _ _ _ _ rfl)) ?_)
                         | (refine drec_yes (by omega) ?_)
                         | (refine drec_no (by omega) ?_)
                         | (intro _)
                         | fail)
                any_goals refine Halt.mk ?_
                any_goals show rC _ _ r6_14 _ _ _ _ _ _
                refine rC_seqH ?_
                repeat' (conv => whnf
                         first
                         | (refine Stop.mk ?_)
                         | (refine fI_gen ?_; intro z hz)
                         | (refine fO_gen ?_; intro z hz)
                         | (refine ⟨_, _, r5, ?_⟩)
                         | (refine dec_true (by assumption) ?_)
                         | (refine dec_false (by assumption) ?_)
                         | (refine dec_split (fun h => ?_) (fun h => ?_))
                         | (apply silE)
                         | (exact And.intro rfl (And.intro rfl (And.intro rfl rfl)))
                         | (refine And.intro (by first | omega | ((simp only [decide_eq_true_eq, decide_eq_false_iff_not, Bool.and_eq_true, beq_iff_eq, Bool.not_eq_true', Bool.not_eq_false'] at *); omega) | (subst_vars; simp only [Int.ofNat_eq_natCast, tq_not, fq_not, tq_and, fq_and, tq_or, fq_or, tq_beq, fq_beq, tq_bne, fq_bne, tq_dec, fq_dec, one1, V.tup.injEq, V.agg.injEq, List.cons.injEq, V.int.injEq, V.bool.injEq, true_and, and_true, decide_eq_true_eq, decide_eq_false_iff_not, Bool.and_eq_true, Bool.and_eq_false_iff, Bool.or_eq_true, Bool.or_eq_false_iff, Bool.not_eq_true', Bool.not_eq_false', beq_iff_eq, wrap_u32, wrap_i64, wrap_u8, beq_eq_false_iff_ne, ne_eq, bne_iff_ne, bne_eq_false_iff_eq, eq_self, and_self, splice, V.cells, List.take_succ_cons, List.take_zero, List.take_nil, List.drop_zero, List.drop_succ_cons, List.drop_nil, List.cons_append, List.nil_append, List.append_nil, List.length_cons, List.length_nil, Nat.zero_add, Nat.reduceAdd, if_true, if_false, Bool.false_eq_true, beq_self_eq_true, decide_eq_decide, Bool.true_eq_false, or_false, false_or, or_true, true_or, and_false, false_and, not_true_eq_false, not_false_eq_true, Bool.and_true, Bool.true_and, Bool.not_true, Bool.not_false] at *; omega)) ?_)
                         | (refine Exists.intro _ (Exists.intro _ (And.intro rfl ?_)))
                         | (refine Exists.intro _ (And.intro rfl ?_))
                         | (refine Exists.intro _ (Exists.intro _ (Exists.intro _ (Exists.intro _ (And.intro rfl ?_)))))
                         | (refine ld_step rfl (by assumption) rfl ?_)
                         | (refine lds_step rfl (by assumption) rfl ?_)
                         | (refine fL_mk ?_)
                         | (refine fH_mk ?_)
                         | (refine fN_mk ?_)
                         | (refine fLB_mk ?_)
                         | (refine And.intro (by repeat (first | assumption | refine GLB_app ?_)) ?_)
                         | (refine ld_step rfl ((rd_x0 _ _ _ _ _).trans rfl) rfl ?_)
                         | (refine ld_step rfl ((rd_x1 _ _ _ _ _ _).trans rfl) rfl ?_)
                         | (refine ld_step rfl ((rd_x2 _ _ _ _ _ _ _).trans rfl) rfl ?_)
                         | (refine lds_step rfl ((rd_x0 _ _ _ _ _).trans rfl) rfl ?_)
                         | (refine lds_step rfl ((rd_x1 _ _ _ _ _ _).trans rfl) rfl ?_)
                         | (refine lds_step rfl ((rd_x2 _ _ _ _ _ _ _).trans rfl) rfl ?_)
                         | (refine mem_step (st_eq rfl rfl rfl rfl (wr_last _ _ _ _ rfl)) ?_)
                         | (refine drec_yes (by omega) ?_)
                         | (refine drec_no (by omega) ?_)
                         | (intro _)
                         | fail)
                any_goals refine Halt.mk ?_
                any_goals show rC _ _ r6_15 _ _ _ _ _ _
                refine rC_seqH ?_
                repeat' (conv => whnf
                         first
                         | (refine Stop.mk ?_)
                         | (refine fI_is (if_neg h86) ?_)
                         | (refine fO_is (decide_eq_false h86) ?_)
                         | (refine fI_gen ?_; intro z hz)
                         | (refine fO_gen ?_; intro z hz)
                         | (refine ⟨hat, g6, _, _, r6, ?_⟩)
                         | (refine dec_true (by assumption) ?_)
                         | (refine dec_false (by assumption) ?_)
                         | (refine dec_split (fun h => ?_) (fun h => ?_))
                         | (apply silE)
                         | (exact And.intro rfl (And.intro rfl (And.intro rfl rfl)))
                         | (refine And.intro (by first | omega | ((simp only [decide_eq_true_eq, decide_eq_false_iff_not, Bool.and_eq_true, beq_iff_eq, Bool.not_eq_true', Bool.not_eq_false'] at *); omega) | (subst_vars; simp only [Int.ofNat_eq_natCast, tq_not, fq_not, tq_and, fq_and, tq_or, fq_or, tq_beq, fq_beq, tq_bne, fq_bne, tq_dec, fq_dec, one1, V.tup.injEq, V.agg.injEq, List.cons.injEq, V.int.injEq, V.bool.injEq, true_and, and_true, decide_eq_true_eq, decide_eq_false_iff_not, Bool.and_eq_true, Bool.and_eq_false_iff, Bool.or_eq_true, Bool.or_eq_false_iff, Bool.not_eq_true', Bool.not_eq_false', beq_iff_eq, wrap_u32, wrap_i64, wrap_u8, beq_eq_false_iff_ne, ne_eq, bne_iff_ne, bne_eq_false_iff_eq, eq_self, and_self, splice, V.cells, List.take_succ_cons, List.take_zero, List.take_nil, List.drop_zero, List.drop_succ_cons, List.drop_nil, List.cons_append, List.nil_append, List.append_nil, List.length_cons, List.length_nil, Nat.zero_add, Nat.reduceAdd, if_true, if_false, Bool.false_eq_true, beq_self_eq_true, decide_eq_decide, Bool.true_eq_false, or_false, false_or, or_true, true_or, and_false, false_and, not_true_eq_false, not_false_eq_true, Bool.and_true, Bool.true_and, Bool.not_true, Bool.not_false] at *; omega)) ?_)
                         | (refine Exists.intro _ (Exists.intro _ (And.intro rfl ?_)))
                         | (refine Exists.intro _ (And.intro rfl ?_))
                         | (refine Exists.intro _ (Exists.intro _ (Exists.intro _ (Exists.intro _ (And.intro rfl ?_)))))
                         | (refine ld_step rfl (by assumption) rfl ?_)
                         | (refine lds_step rfl (by assumption) rfl ?_)
                         | (refine fL_mk ?_)
                         | (refine fH_mk ?_)
                         | (refine fN_mk ?_)
                         | (refine fLB_mk ?_)
                         | (refine And.intro (by repeat (first | assumption | refine GLB_app ?_)) ?_)
                         | (refine ld_step rfl ((rd_x0 _ _ _ _ _).trans rfl) rfl ?_)
                         | (refine ld_step rfl ((rd_x1 _ _ _ _ _ _).trans rfl) rfl ?_)
                         | (refine ld_step rfl ((rd_x2 _ _ _ _ _ _ _).trans rfl) rfl ?_)
                         | (refine lds_step rfl ((rd_x0 _ _ _ _ _).trans rfl) rfl ?_)
                         | (refine lds_step rfl ((rd_x1 _ _ _ _ _ _).trans rfl) rfl ?_)
                         | (refine lds_step rfl ((rd_x2 _ _ _ _ _ _ _).trans rfl) rfl ?_)
                         | (refine mem_step (st_eq rfl rfl rfl rfl (wr_last _ _ _ _ rfl)) ?_)
                         | (refine drec_yes (by omega) ?_)
                         | (refine drec_no (by omega) ?_)
                         | (intro _)
                         | fail)
                any_goals refine Halt.mk ?_
                any_goals show rC _ _ r6_16 _ _ _ _ _ _
                repeat' (conv => whnf
                         first
                         | (refine Stop.mk ?_)
                         | (with_reducible refine fI_is (a := 4 * ((List.replicate w'.length (0 : Int)).length : Int)) rfl ?_)
                         | (refine fO_is hlen6 ?_)
                         | (refine fI_gen ?_; intro z hz)
                         | (refine fO_gen ?_; intro z hz)
                         | (refine ⟨_, _, r6, ?_⟩)
                         | (refine dec_true (by assumption) ?_)
                         | (refine dec_false (by assumption) ?_)
                         | (refine dec_split (fun h => ?_) (fun h => ?_))
                         | (apply silE)
                         | (exact And.intro rfl (And.intro rfl (And.intro rfl rfl)))
                         | (refine And.intro (by first | omega | ((simp only [decide_eq_true_eq, decide_eq_false_iff_not, Bool.and_eq_true, beq_iff_eq, Bool.not_eq_true', Bool.not_eq_false'] at *); omega) | (subst_vars; simp only [Int.ofNat_eq_natCast, tq_not, fq_not, tq_and, fq_and, tq_or, fq_or, tq_beq, fq_beq, tq_bne, fq_bne, tq_dec, fq_dec, one1, V.tup.injEq, V.agg.injEq, List.cons.injEq, V.int.injEq, V.bool.injEq, true_and, and_true, decide_eq_true_eq, decide_eq_false_iff_not, Bool.and_eq_true, Bool.and_eq_false_iff, Bool.or_eq_true, Bool.or_eq_false_iff, Bool.not_eq_true', Bool.not_eq_false', beq_iff_eq, wrap_u32, wrap_i64, wrap_u8, beq_eq_false_iff_ne, ne_eq, bne_iff_ne, bne_eq_false_iff_eq, eq_self, and_self, splice, V.cells, List.take_succ_cons, List.take_zero, List.take_nil, List.drop_zero, List.drop_succ_cons, List.drop_nil, List.cons_append, List.nil_append, List.append_nil, List.length_cons, List.length_nil, Nat.zero_add, Nat.reduceAdd, if_true, if_false, Bool.false_eq_true, beq_self_eq_true, decide_eq_decide, Bool.true_eq_false, or_false, false_or, or_true, true_or, and_false, false_and, not_true_eq_false, not_false_eq_true, Bool.and_true, Bool.true_and, Bool.not_true, Bool.not_false] at *; omega)) ?_)
                         | (refine Exists.intro _ (Exists.intro _ (And.intro rfl ?_)))
                         | (refine Exists.intro _ (And.intro rfl ?_))
                         | (refine Exists.intro _ (Exists.intro _ (Exists.intro _ (Exists.intro _ (And.intro rfl ?_)))))
                         | (refine ld_step rfl (by assumption) rfl ?_)
                         | (refine lds_step rfl (by assumption) rfl ?_)
                         | (refine fL_mk ?_)
                         | (refine fH_mk ?_)
                         | (refine fN_mk ?_)
                         | (refine fLB_mk ?_)
                         | (refine And.intro (by repeat (first | assumption | refine GLB_app ?_)) ?_)
                         | (refine ld_step rfl ((rd_x0 _ _ _ _ _).trans rfl) rfl ?_)
                         | (refine ld_step rfl ((rd_x1 _ _ _ _ _ _).trans rfl) rfl ?_)
                         | (refine ld_step rfl ((rd_x2 _ _ _ _ _ _ _).trans rfl) rfl ?_)
                         | (refine lds_step rfl ((rd_x0 _ _ _ _ _).trans rfl) rfl ?_)
                         | (refine lds_step rfl ((rd_x1 _ _ _ _ _ _).trans rfl) rfl ?_)
                         | (refine lds_step rfl ((rd_x2 _ _ _ _ _ _ _).trans rfl) rfl ?_)
                         | (refine mem_step (st_eq rfl rfl rfl rfl (wr_last _ _ _ _ rfl)) ?_)
                         | (refine drec_yes (by omega) ?_)
                         | (refine drec_no (by omega) ?_)
                         | (intro _)
                         | fail)
                conv => whnf
                exact leafH hq rfl hfin
          · have hmem : Hx = List.take Hx.length ((H2 ++ X1).set Hx.length (WB (wrL w off sz v))) := by rw [take_set_ge (Nat.le_refl _), List.take_append_of_le_length (by omega)]; exact t2
            have gw := rx.glb gx (WB (wrL w off sz v))
            have hn5 : n = 4 * (w.length : Int) := by omega
            by_cases hks : okS sz
            · rcases (show off < 0 ∨ 0 ≤ off ∧ n ≤ off ∨ 0 ≤ off ∧ off < n by omega) with h7 | h7 | h7
              · repeat' (conv => whnf
                         first
                         | (refine Stop.mk ?_)
                         | (refine fO_is (decide_eq_false h5) ?_)
                         | (refine fO_is (decide_eq_true hks) ?_)
                         | (with_reducible refine fO_is (decide_eq_true (show off < 0 by omega)) ?_)
                         | (refine fI_gen ?_; intro z hz)
                         | (refine fO_gen ?_; intro z hz)
                         | (refine ⟨⟨hp.2.1, hp.2.2.2.1⟩, gx, _, _, rx, ?_⟩)
                         | (refine ⟨gw, ?_⟩)
                         | (refine dec_true (by assumption) ?_)
                         | (refine dec_false (by assumption) ?_)
                         | (refine dec_split (fun h => ?_) (fun h => ?_))
                         | (apply silE)
                         | (exact And.intro rfl (And.intro rfl (And.intro rfl rfl)))
                         | (refine And.intro (by first | omega | ((simp only [decide_eq_true_eq, decide_eq_false_iff_not, Bool.and_eq_true, beq_iff_eq, Bool.not_eq_true', Bool.not_eq_false'] at *); omega) | (subst_vars; simp only [Int.ofNat_eq_natCast, tq_not, fq_not, tq_and, fq_and, tq_or, fq_or, tq_beq, fq_beq, tq_bne, fq_bne, tq_dec, fq_dec, one1, V.tup.injEq, V.agg.injEq, List.cons.injEq, V.int.injEq, V.bool.injEq, true_and, and_true, decide_eq_true_eq, decide_eq_false_iff_not, Bool.and_eq_true, Bool.and_eq_false_iff, Bool.or_eq_true, Bool.or_eq_false_iff, Bool.not_eq_true', Bool.not_eq_false', beq_iff_eq, wrap_u32, wrap_i64, wrap_u8, beq_eq_false_iff_ne, ne_eq, bne_iff_ne, bne_eq_false_iff_eq, eq_self, and_self, splice, V.cells, List.take_succ_cons, List.take_zero, List.take_nil, List.drop_zero, List.drop_succ_cons, List.drop_nil, List.cons_append, List.nil_append, List.append_nil, List.length_cons, List.length_nil, Nat.zero_add, Nat.reduceAdd, if_true, if_false, Bool.false_eq_true, beq_self_eq_true, decide_eq_decide, Bool.true_eq_false, or_false, false_or, or_true, true_or, and_false, false_and, not_true_eq_false, not_false_eq_true, Bool.and_true, Bool.true_and, Bool.not_true, Bool.not_false] at *; omega)) ?_)
                         | (refine Exists.intro _ (Exists.intro _ (And.intro rfl ?_)))
                         | (refine Exists.intro _ (And.intro rfl ?_))
                         | (refine Exists.intro _ (Exists.intro _ (Exists.intro _ (Exists.intro _ (And.intro rfl ?_)))))
                         | (refine ld_step rfl (by assumption) rfl ?_)
                         | (refine lds_step rfl (by assumption) rfl ?_)
                         | (refine fL_mk ?_)
                         | (refine fH_mk ?_)
                         | (refine fN_mk ?_)
                         | (refine fLB_mk ?_)
                         | (refine And.intro (by repeat (first | assumption | refine GLB_app ?_)) ?_)
                         | (refine ld_step rfl ((rd_x0 _ _ _ _ _).trans rfl) rfl ?_)
                         | (refine ld_step rfl ((rd_x1 _ _ _ _ _ _).trans rfl) rfl ?_)
                         | (refine ld_step rfl ((rd_x2 _ _ _ _ _ _ _).trans rfl) rfl ?_)
                         | (refine lds_step rfl ((rd_x0 _ _ _ _ _).trans rfl) rfl ?_)
                         | (refine lds_step rfl ((rd_x1 _ _ _ _ _ _).trans rfl) rfl ?_)
                         | (refine lds_step rfl ((rd_x2 _ _ _ _ _ _ _).trans rfl) rfl ?_)
                         | (refine mem_step (st_eq rfl rfl rfl rfl (wr_last _ _ _ _ rfl)) ?_)
                         | (refine drec_yes (by omega) ?_)
                         | (refine drec_no (by omega) ?_)
                         | (intro _)
                         | fail)
                conv => whnf
                exact leafH hq rfl hmem
              · repeat' (conv => whnf
                         first
                         | (refine Stop.mk ?_)
                         | (refine fO_is (decide_eq_false h5) ?_)
                         | (refine fO_is (decide_eq_true hks) ?_)
                         | (with_reducible refine fO_is (decide_eq_false (show ¬ off < 0 by omega)) ?_)
                         | (with_reducible refine fO_is (decide_eq_true (show off ≥ n by omega)) ?_)
                         | (refine fI_gen ?_; intro z hz)
                         | (refine fO_gen ?_; intro z hz)
                         | (refine ⟨⟨hp.2.1, hp.2.2.2.1⟩, gx, _, _, rx, ?_⟩)
                         | (refine ⟨gw, ?_⟩)
                         | (refine dec_true (by assumption) ?_)
                         | (refine dec_false (by assumption) ?_)
                         | (refine dec_split (fun h => ?_) (fun h => ?_))
                         | (apply silE)
                         | (exact And.intro rfl (And.intro rfl (And.intro rfl rfl)))
                         | (refine And.intro (by first | omega | ((simp only [decide_eq_true_eq, decide_eq_false_iff_not, Bool.and_eq_true, beq_iff_eq, Bool.not_eq_true', Bool.not_eq_false'] at *); omega) | (subst_vars; simp only [Int.ofNat_eq_natCast, tq_not, fq_not, tq_and, fq_and, tq_or, fq_or, tq_beq, fq_beq, tq_bne, fq_bne, tq_dec, fq_dec, one1, V.tup.injEq, V.agg.injEq, List.cons.injEq, V.int.injEq, V.bool.injEq, true_and, and_true, decide_eq_true_eq, decide_eq_false_iff_not, Bool.and_eq_true, Bool.and_eq_false_iff, Bool.or_eq_true, Bool.or_eq_false_iff, Bool.not_eq_true', Bool.not_eq_false', beq_iff_eq, wrap_u32, wrap_i64, wrap_u8, beq_eq_false_iff_ne, ne_eq, bne_iff_ne, bne_eq_false_iff_eq, eq_self, and_self, splice, V.cells, List.take_succ_cons, List.take_zero, List.take_nil, List.drop_zero, List.drop_succ_cons, List.drop_nil, List.cons_append, List.nil_append, List.append_nil, List.length_cons, List.length_nil, Nat.zero_add, Nat.reduceAdd, if_true, if_false, Bool.false_eq_true, beq_self_eq_true, decide_eq_decide, Bool.true_eq_false, or_false, false_or, or_true, true_or, and_false, false_and, not_true_eq_false, not_false_eq_true, Bool.and_true, Bool.true_and, Bool.not_true, Bool.not_false] at *; omega)) ?_)
                         | (refine Exists.intro _ (Exists.intro _ (And.intro rfl ?_)))
                         | (refine Exists.intro _ (And.intro rfl ?_))
                         | (refine Exists.intro _ (Exists.intro _ (Exists.intro _ (Exists.intro _ (And.intro rfl ?_)))))
                         | (refine ld_step rfl (by assumption) rfl ?_)
                         | (refine lds_step rfl (by assumption) rfl ?_)
                         | (refine fL_mk ?_)
                         | (refine fH_mk ?_)
                         | (refine fN_mk ?_)
                         | (refine fLB_mk ?_)
                         | (refine And.intro (by repeat (first | assumption | refine GLB_app ?_)) ?_)
                         | (refine ld_step rfl ((rd_x0 _ _ _ _ _).trans rfl) rfl ?_)
                         | (refine ld_step rfl ((rd_x1 _ _ _ _ _ _).trans rfl) rfl ?_)
                         | (refine ld_step rfl ((rd_x2 _ _ _ _ _ _ _).trans rfl) rfl ?_)
                         | (refine lds_step rfl ((rd_x0 _ _ _ _ _).trans rfl) rfl ?_)
                         | (refine lds_step rfl ((rd_x1 _ _ _ _ _ _).trans rfl) rfl ?_)
                         | (refine lds_step rfl ((rd_x2 _ _ _ _ _ _ _).trans rfl) rfl ?_)
                         | (refine mem_step (st_eq rfl rfl rfl rfl (wr_last _ _ _ _ rfl)) ?_)
                         | (refine drec_yes (by omega) ?_)
                         | (refine drec_no (by omega) ?_)
                         | (intro _)
                         | fail)
                conv => whnf
                exact leafH hq rfl hmem
              · have hal : ¬ off % sz = 0 := fun hh => h5 ⟨h7.1, by omega, hks, hh⟩
                have hne : (off % sz != 0) = true := by rw [bne_iff_ne]; exact hal
                have htm : off.tmod sz = off % sz := Int.tmod_eq_emod_of_nonneg h7.1
                rcases hks with rfl | rfl | rfl
                · have hks : okS 1 := by decide
                  repeat' (conv => whnf
                           first
                           | (refine Stop.mk ?_)
                           | (refine fO_is (decide_eq_false h5) ?_)
                           | (refine fO_is (decide_eq_true hks) ?_)
                           | (with_reducible refine fO_is (decide_eq_false (show ¬ off < 0 by omega)) ?_)
                           | (with_reducible refine fO_is (decide_eq_false (show ¬ off ≥ n by omega)) ?_)
                           | (with_reducible refine fI_is htm ?_)
                           | (with_reducible refine fO_is hne ?_)
                           | (refine fI_gen ?_; intro z hz)
                           | (refine fO_gen ?_; intro z hz)
                           | (refine ⟨⟨hp.2.1, hp.2.2.2.1⟩, gx, _, _, rx, ?_⟩)
                           | (refine ⟨gw, ?_⟩)
                           | (refine dec_true (by assumption) ?_)
                           | (refine dec_false (by assumption) ?_)
                           | (refine dec_split (fun h => ?_) (fun h => ?_))
                           | (apply silE)
                           | (exact And.intro rfl (And.intro rfl (And.intro rfl rfl)))
                           | (refine And.intro (by first | omega | ((simp only [decide_eq_true_eq, decide_eq_false_iff_not, Bool.and_eq_true, beq_iff_eq, Bool.not_eq_true', Bool.not_eq_false'] at *); omega) | (subst_vars; simp only [Int.ofNat_eq_natCast, tq_not, fq_not, tq_and, fq_and, tq_or, fq_or, tq_beq, fq_beq, tq_bne, fq_bne, tq_dec, fq_dec, one1, V.tup.injEq, V.agg.injEq, List.cons.injEq, V.int.injEq, V.bool.injEq, true_and, and_true, decide_eq_true_eq, decide_eq_false_iff_not, Bool.and_eq_true, Bool.and_eq_false_iff, Bool.or_eq_true, Bool.or_eq_false_iff, Bool.not_eq_true', Bool.not_eq_false', beq_iff_eq, wrap_u32, wrap_i64, wrap_u8, beq_eq_false_iff_ne, ne_eq, bne_iff_ne, bne_eq_false_iff_eq, eq_self, and_self, splice, V.cells, List.take_succ_cons, List.take_zero, List.take_nil, List.drop_zero, List.drop_succ_cons, List.drop_nil, List.cons_append, List.nil_append, List.append_nil, List.length_cons, List.length_nil, Nat.zero_add, Nat.reduceAdd, if_true, if_false, Bool.false_eq_true, beq_self_eq_true, decide_eq_decide, Bool.true_eq_false, or_false, false_or, or_true, true_or, and_false, false_and, not_true_eq_false, not_false_eq_true, Bool.and_true, Bool.true_and, Bool.not_true, Bool.not_false] at *; omega)) ?_)
                           | (refine Exists.intro _ (Exists.intro _ (And.intro rfl ?_)))
                           | (refine Exists.intro _ (And.intro rfl ?_))
                           | (refine Exists.intro _ (Exists.intro _ (Exists.intro _ (Exists.intro _ (And.intro rfl ?_)))))
                           | (refine ld_step rfl (by assumption) rfl ?_)
                           | (refine lds_step rfl (by assumption) rfl ?_)
                           | (refine fL_mk ?_)
                           | (refine fH_mk ?_)
                           | (refine fN_mk ?_)
                           | (refine fLB_mk ?_)
                           | (refine And.intro (by repeat (first | assumption | refine GLB_app ?_)) ?_)
                           | (refine ld_step rfl ((rd_x0 _ _ _ _ _).trans rfl) rfl ?_)
                           | (refine ld_step rfl ((rd_x1 _ _ _ _ _ _).trans rfl) rfl ?_)
                           | (refine ld_step rfl ((rd_x2 _ _ _ _ _ _ _).trans rfl) rfl ?_)
                           | (refine lds_step rfl ((rd_x0 _ _ _ _ _).trans rfl) rfl ?_)
                           | (refine lds_step rfl ((rd_x1 _ _ _ _ _ _).trans rfl) rfl ?_)
                           | (refine lds_step rfl ((rd_x2 _ _ _ _ _ _ _).trans rfl) rfl ?_)
                           | (refine mem_step (st_eq rfl rfl rfl rfl (wr_last _ _ _ _ rfl)) ?_)
                           | (refine drec_yes (by omega) ?_)
                           | (refine drec_no (by omega) ?_)
                           | (intro _)
                           | fail)
                  conv => whnf
                  exact leafH hq rfl hmem
                · have hks : okS 2 := by decide
                  repeat' (conv => whnf
                           first
                           | (refine Stop.mk ?_)
                           | (refine fO_is (decide_eq_false h5) ?_)
                           | (refine fO_is (decide_eq_true hks) ?_)
                           | (with_reducible refine fO_is (decide_eq_false (show ¬ off < 0 by omega)) ?_)
                           | (with_reducible refine fO_is (decide_eq_false (show ¬ off ≥ n by omega)) ?_)
                           | (with_reducible refine fI_is htm ?_)
                           | (with_reducible refine fO_is hne ?_)
                           | (refine fI_gen ?_; intro z hz)
                           | (refine fO_gen ?_; intro z hz)
                           | (refine ⟨⟨hp.2.1, hp.2.2.2.1⟩, gx, _, _, rx, ?_⟩)
                           | (refine ⟨gw, ?_⟩)
                           | (refine dec_true (by assumption) ?_)
                           | (refine dec_false (by assumption) ?_)
                           | (refine dec_split (fun h => ?_) (fun h => ?_))
                           | (apply silE)
                           | (exact And.intro rfl (And.intro rfl (And.intro rfl rfl)))
                           | (refine And.intro (by first | omega | ((simp only [decide_eq_true_eq, decide_eq_false_iff_not, Bool.and_eq_true, beq_iff_eq, Bool.not_eq_true', Bool.not_eq_false'] at *); omega) | (subst_vars; simp only [Int.ofNat_eq_natCast, tq_not, fq_not, tq_and, fq_and, tq_or, fq_or, tq_beq, fq_beq, tq_bne, fq_bne, tq_dec, fq_dec, one1, V.tup.injEq, V.agg.injEq, List.cons.injEq, V.int.injEq, V.bool.injEq, true_and, and_true, decide_eq_true_eq, decide_eq_false_iff_not, Bool.and_eq_true, Bool.and_eq_false_iff, Bool.or_eq_true, Bool.or_eq_false_iff, Bool.not_eq_true', Bool.not_eq_false', beq_iff_eq, wrap_u32, wrap_i64, wrap_u8, beq_eq_false_iff_ne, ne_eq, bne_iff_ne, bne_eq_false_iff_eq, eq_self, and_self, splice, V.cells, List.take_succ_cons, List.take_zero, List.take_nil, List.drop_zero, List.drop_succ_cons, List.drop_nil, List.cons_append, List.nil_append, List.append_nil, List.length_cons, List.length_nil, Nat.zero_add, Nat.reduceAdd, if_true, if_false, Bool.false_eq_true, beq_self_eq_true, decide_eq_decide, Bool.true_eq_false, or_false, false_or, or_true, true_or, and_false, false_and, not_true_eq_false, not_false_eq_true, Bool.and_true, Bool.true_and, Bool.not_true, Bool.not_false] at *; omega)) ?_)
                           | (refine Exists.intro _ (Exists.intro _ (And.intro rfl ?_)))
                           | (refine Exists.intro _ (And.intro rfl ?_))
                           | (refine Exists.intro _ (Exists.intro _ (Exists.intro _ (Exists.intro _ (And.intro rfl ?_)))))
                           | (refine ld_step rfl (by assumption) rfl ?_)
                           | (refine lds_step rfl (by assumption) rfl ?_)
                           | (refine fL_mk ?_)
                           | (refine fH_mk ?_)
                           | (refine fN_mk ?_)
                           | (refine fLB_mk ?_)
                           | (refine And.intro (by repeat (first | assumption | refine GLB_app ?_)) ?_)
                           | (refine ld_step rfl ((rd_x0 _ _ _ _ _).trans rfl) rfl ?_)
                           | (refine ld_step rfl ((rd_x1 _ _ _ _ _ _).trans rfl) rfl ?_)
                           | (refine ld_step rfl ((rd_x2 _ _ _ _ _ _ _).trans rfl) rfl ?_)
                           | (refine lds_step rfl ((rd_x0 _ _ _ _ _).trans rfl) rfl ?_)
                           | (refine lds_step rfl ((rd_x1 _ _ _ _ _ _).trans rfl) rfl ?_)
                           | (refine lds_step rfl ((rd_x2 _ _ _ _ _ _ _).trans rfl) rfl ?_)
                           | (refine mem_step (st_eq rfl rfl rfl rfl (wr_last _ _ _ _ rfl)) ?_)
                           | (refine drec_yes (by omega) ?_)
                           | (refine drec_no (by omega) ?_)
                           | (intro _)
                           | fail)
                  conv => whnf
                  exact leafH hq rfl hmem
                · have hks : okS 4 := by decide
                  repeat' (conv => whnf
                           first
                           | (refine Stop.mk ?_)
                           | (refine fO_is (decide_eq_false h5) ?_)
                           | (refine fO_is (decide_eq_true hks) ?_)
                           | (with_reducible refine fO_is (decide_eq_false (show ¬ off < 0 by omega)) ?_)
                           | (with_reducible refine fO_is (decide_eq_false (show ¬ off ≥ n by omega)) ?_)
                           | (with_reducible refine fI_is htm ?_)
                           | (with_reducible refine fO_is hne ?_)
                           | (refine fI_gen ?_; intro z hz)
                           | (refine fO_gen ?_; intro z hz)
                           | (refine ⟨⟨hp.2.1, hp.2.2.2.1⟩, gx, _, _, rx, ?_⟩)
                           | (refine ⟨gw, ?_⟩)
                           | (refine dec_true (by assumption) ?_)
                           | (refine dec_false (by assumption) ?_)
                           | (refine dec_split (fun h => ?_) (fun h => ?_))
                           | (apply silE)
                           | (exact And.intro rfl (And.intro rfl (And.intro rfl rfl)))
                           | (refine And.intro (by first | omega | ((simp only [decide_eq_true_eq, decide_eq_false_iff_not, Bool.and_eq_true, beq_iff_eq, Bool.not_eq_true', Bool.not_eq_false'] at *); omega) | (subst_vars; simp only [Int.ofNat_eq_natCast, tq_not, fq_not, tq_and, fq_and, tq_or, fq_or, tq_beq, fq_beq, tq_bne, fq_bne, tq_dec, fq_dec, one1, V.tup.injEq, V.agg.injEq, List.cons.injEq, V.int.injEq, V.bool.injEq, true_and, and_true, decide_eq_true_eq, decide_eq_false_iff_not, Bool.and_eq_true, Bool.and_eq_false_iff, Bool.or_eq_true, Bool.or_eq_false_iff, Bool.not_eq_true', Bool.not_eq_false', beq_iff_eq, wrap_u32, wrap_i64, wrap_u8, beq_eq_false_iff_ne, ne_eq, bne_iff_ne, bne_eq_false_iff_eq, eq_self, and_self, splice, V.cells, List.take_succ_cons, List.take_zero, List.take_nil, List.drop_zero, List.drop_succ_cons, List.drop_nil, List.cons_append, List.nil_append, List.append_nil, List.length_cons, List.length_nil, Nat.zero_add, Nat.reduceAdd, if_true, if_false, Bool.false_eq_true, beq_self_eq_true, decide_eq_decide, Bool.true_eq_false, or_false, false_or, or_true, true_or, and_false, false_and, not_true_eq_false, not_false_eq_true, Bool.and_true, Bool.true_and, Bool.not_true, Bool.not_false] at *; omega)) ?_)
                           | (refine Exists.intro _ (Exists.intro _ (And.intro rfl ?_)))
                           | (refine Exists.intro _ (And.intro rfl ?_))
                           | (refine Exists.intro _ (Exists.intro _ (Exists.intro _ (Exists.intro _ (And.intro rfl ?_)))))
                           | (refine ld_step rfl (by assumption) rfl ?_)
                           | (refine lds_step rfl (by assumption) rfl ?_)
                           | (refine fL_mk ?_)
                           | (refine fH_mk ?_)
                           | (refine fN_mk ?_)
                           | (refine fLB_mk ?_)
                           | (refine And.intro (by repeat (first | assumption | refine GLB_app ?_)) ?_)
                           | (refine ld_step rfl ((rd_x0 _ _ _ _ _).trans rfl) rfl ?_)
                           | (refine ld_step rfl ((rd_x1 _ _ _ _ _ _).trans rfl) rfl ?_)
                           | (refine ld_step rfl ((rd_x2 _ _ _ _ _ _ _).trans rfl) rfl ?_)
                           | (refine lds_step rfl ((rd_x0 _ _ _ _ _).trans rfl) rfl ?_)
                           | (refine lds_step rfl ((rd_x1 _ _ _ _ _ _).trans rfl) rfl ?_)
                           | (refine lds_step rfl ((rd_x2 _ _ _ _ _ _ _).trans rfl) rfl ?_)
                           | (refine mem_step (st_eq rfl rfl rfl rfl (wr_last _ _ _ _ rfl)) ?_)
                           | (refine drec_yes (by omega) ?_)
                           | (refine drec_no (by omega) ?_)
                           | (intro _)
                           | fail)
                  conv => whnf
                  exact leafH hq rfl hmem
            · repeat' (conv => whnf
                       first
                       | (refine Stop.mk ?_)
                       | (refine fO_is (decide_eq_false h5) ?_)
                       | (refine fO_is (decide_eq_false hks) ?_)
                       | (refine fI_gen ?_; intro z hz)
                       | (refine fO_gen ?_; intro z hz)
                       | (refine ⟨⟨hp.2.1, hp.2.2.2.1⟩, gx, _, _, rx, ?_⟩)
                       | (refine ⟨gw, ?_⟩)
                       | (refine dec_true (by assumption) ?_)
                       | (refine dec_false (by assumption) ?_)
                       | (refine dec_split (fun h => ?_) (fun h => ?_))
                       | (apply silE)
                       | (exact And.intro rfl (And.intro rfl (And.intro rfl rfl)))
                       | (refine And.intro (by first | omega | ((simp only [decide_eq_true_eq, decide_eq_false_iff_not, Bool.and_eq_true, beq_iff_eq, Bool.not_eq_true', Bool.not_eq_false'] at *); omega) | (subst_vars; simp only [Int.ofNat_eq_natCast, tq_not, fq_not, tq_and, fq_and, tq_or, fq_or, tq_beq, fq_beq, tq_bne, fq_bne, tq_dec, fq_dec, one1, V.tup.injEq, V.agg.injEq, List.cons.injEq, V.int.injEq, V.bool.injEq, true_and, and_true, decide_eq_true_eq, decide_eq_false_iff_not, Bool.and_eq_true, Bool.and_eq_false_iff, Bool.or_eq_true, Bool.or_eq_false_iff, Bool.not_eq_true', Bool.not_eq_false', beq_iff_eq, wrap_u32, wrap_i64, wrap_u8, beq_eq_false_iff_ne, ne_eq, bne_iff_ne, bne_eq_false_iff_eq, eq_self, and_self, splice, V.cells, List.take_succ_cons, List.take_zero, List.take_nil, List.drop_zero, List.drop_succ_cons, List.drop_nil, List.cons_append, List.nil_append, List.append_nil, List.length_cons, List.length_nil, Nat.zero_add, Nat.reduceAdd, if_true, if_false, Bool.false_eq_true, beq_self_eq_true, decide_eq_decide, Bool.true_eq_false, or_false, false_or, or_true, true_or, and_false, false_and, not_true_eq_false, not_false_eq_true, Bool.and_true, Bool.true_and, Bool.not_true, Bool.not_false] at *; omega)) ?_)
                       | (refine Exists.intro _ (Exists.intro _ (And.intro rfl ?_)))
                       | (refine Exists.intro _ (And.intro rfl ?_))
                       | (refine Exists.intro _ (Exists.intro _ (Exists.intro _ (Exists.intro _ (And.intro rfl ?_)))))
                       | (refine ld_step rfl (by assumption) rfl ?_)
                       | (refine lds_step rfl (by assumption) rfl ?_)
                       | (refine fL_mk ?_)
                       | (refine fH_mk ?_)
                       | (refine fN_mk ?_)
                       | (refine fLB_mk ?_)
                       | (refine And.intro (by repeat (first | assumption | refine GLB_app ?_)) ?_)
                       | (refine ld_step rfl ((rd_x0 _ _ _ _ _).trans rfl) rfl ?_)
                       | (refine ld_step rfl ((rd_x1 _ _ _ _ _ _).trans rfl) rfl ?_)
                       | (refine ld_step rfl ((rd_x2 _ _ _ _ _ _ _).trans rfl) rfl ?_)
                       | (refine lds_step rfl ((rd_x0 _ _ _ _ _).trans rfl) rfl ?_)
                       | (refine lds_step rfl ((rd_x1 _ _ _ _ _ _).trans rfl) rfl ?_)
                       | (refine lds_step rfl ((rd_x2 _ _ _ _ _ _ _).trans rfl) rfl ?_)
                       | (refine mem_step (st_eq rfl rfl rfl rfl (wr_last _ _ _ _ rfl)) ?_)
                       | (refine drec_yes (by omega) ?_)
                       | (refine drec_no (by omega) ?_)
                       | (intro _)
                       | fail)
              conv => whnf
              exact leafH hq rfl hmem
      · have hgt : decide ((l.length : Int) > 100) = true := decide_eq_true (by omega)
        repeat' (conv => whnf
                 first
                 | (refine Stop.mk ?_)
                 | (with_reducible refine fI_is (a := (l.length : Int)) rfl ?_)
                 | (with_reducible refine fO_is hgt ?_)
                 | (refine fI_gen ?_; intro z hz)
                 | (refine fO_gen ?_; intro z hz)
                 | (refine dec_true (by assumption) ?_)
                 | (refine dec_false (by assumption) ?_)
                 | (refine dec_split (fun h => ?_) (fun h => ?_))
                 | (apply silE)
                 | (exact And.intro rfl (And.intro rfl (And.intro rfl rfl)))
                 | (refine And.intro (by first | omega | ((simp only [decide_eq_true_eq, decide_eq_false_iff_not, Bool.and_eq_true, beq_iff_eq, Bool.not_eq_true', Bool.not_eq_false'] at *); omega) | (subst_vars; simp only [Int.ofNat_eq_natCast, tq_not, fq_not, tq_and, fq_and, tq_or, fq_or, tq_beq, fq_beq, tq_bne, fq_bne, tq_dec, fq_dec, one1, V.tup.injEq, V.agg.injEq, List.cons.injEq, V.int.injEq, V.bool.injEq, true_and, and_true, decide_eq_true_eq, decide_eq_false_iff_not, Bool.and_eq_true, Bool.and_eq_false_iff, Bool.or_eq_true, Bool.or_eq_false_iff, Bool.not_eq_true', Bool.not_eq_false', beq_iff_eq, wrap_u32, wrap_i64, wrap_u8, beq_eq_false_iff_ne, ne_eq, bne_iff_ne, bne_eq_false_iff_eq, eq_self, and_self, splice, V.cells, List.take_succ_cons, List.take_zero, List.take_nil, List.drop_zero, List.drop_succ_cons, List.drop_nil, List.cons_append, List.nil_append, List.append_nil, List.length_cons, List.length_nil, Nat.zero_add, Nat.reduceAdd, if_true, if_false, Bool.false_eq_true, beq_self_eq_true, decide_eq_decide, Bool.true_eq_false, or_false, false_or, or_true, true_or, and_false, false_and, not_true_eq_false, not_false_eq_true, Bool.and_true, Bool.true_and, Bool.not_true, Bool.not_false] at *; omega)) ?_)
                 | (refine Exists.intro _ (Exists.intro _ (And.intro rfl ?_)))
                 | (refine Exists.intro _ (And.intro rfl ?_))
                 | (refine Exists.intro _ (Exists.intro _ (Exists.intro _ (Exists.intro _ (And.intro rfl ?_)))))
                 | (refine ld_step rfl (by assumption) rfl ?_)
                 | (refine lds_step rfl (by assumption) rfl ?_)
                 | (refine fL_mk ?_)
                 | (refine fH_mk ?_)
                 | (refine fN_mk ?_)
                 | (refine fLB_mk ?_)
                 | (refine And.intro (by repeat (first | assumption | refine GLB_app ?_)) ?_)
                 | (refine ld_step rfl ((rd_x0 _ _ _ _ _).trans rfl) rfl ?_)
                 | (refine ld_step rfl ((rd_x1 _ _ _ _ _ _).trans rfl) rfl ?_)
                 | (refine ld_step rfl ((rd_x2 _ _ _ _ _ _ _).trans rfl) rfl ?_)
                 | (refine lds_step rfl ((rd_x0 _ _ _ _ _).trans rfl) rfl ?_)
                 | (refine lds_step rfl ((rd_x1 _ _ _ _ _ _).trans rfl) rfl ?_)
                 | (refine lds_step rfl ((rd_x2 _ _ _ _ _ _ _).trans rfl) rfl ?_)
                 | (refine mem_step (st_eq rfl rfl rfl rfl (wr_last _ _ _ _ rfl)) ?_)
                 | (refine drec_yes (by omega) ?_)
                 | (refine drec_no (by omega) ?_)
                 | (intro _)
                 | fail)
        conv => whnf
        exact leafH hq rfl t1
    · refine rC_seqH ?_
      repeat' (conv => whnf
               first
               | (refine Stop.mk ?_)
               | (refine fI_gen ?_; intro z hz)
               | (refine fO_gen ?_; intro z hz)
               | (refine dec_true (by assumption) ?_)
               | (refine dec_false (by assumption) ?_)
               | (refine dec_split (fun h => ?_) (fun h => ?_))
               | (apply silE)
               | (exact And.intro rfl (And.intro rfl (And.intro rfl rfl)))
               | (refine And.intro (by first | omega | ((simp only [decide_eq_true_eq, decide_eq_false_iff_not, Bool.and_eq_true, beq_iff_eq, Bool.not_eq_true', Bool.not_eq_false'] at *); omega) | (subst_vars; simp only [Int.ofNat_eq_natCast, tq_not, fq_not, tq_and, fq_and, tq_or, fq_or, tq_beq, fq_beq, tq_bne, fq_bne, tq_dec, fq_dec, one1, V.tup.injEq, V.agg.injEq, List.cons.injEq, V.int.injEq, V.bool.injEq, true_and, and_true, decide_eq_true_eq, decide_eq_false_iff_not, Bool.and_eq_true, Bool.and_eq_false_iff, Bool.or_eq_true, Bool.or_eq_false_iff, Bool.not_eq_true', Bool.not_eq_false', beq_iff_eq, wrap_u32, wrap_i64, wrap_u8, beq_eq_false_iff_ne, ne_eq, bne_iff_ne, bne_eq_false_iff_eq, eq_self, and_self, splice, V.cells, List.take_succ_cons, List.take_zero, List.take_nil, List.drop_zero, List.drop_succ_cons, List.drop_nil, List.cons_append, List.nil_append, List.append_nil, List.length_cons, List.length_nil, Nat.zero_add, Nat.reduceAdd, if_true, if_false, Bool.false_eq_true, beq_self_eq_true, decide_eq_decide, Bool.true_eq_false, or_false, false_or, or_true, true_or, and_false, false_and, not_true_eq_false, not_false_eq_true, Bool.and_true, Bool.true_and, Bool.not_true, Bool.not_false] at *; omega)) ?_)
               | (refine Exists.intro _ (Exists.intro _ (And.intro rfl ?_)))
               | (refine Exists.intro _ (And.intro rfl ?_))
               | (refine Exists.intro _ (Exists.intro _ (Exists.intro _ (Exists.intro _ (And.intro rfl ?_)))))
               | (refine ld_step rfl (by assumption) rfl ?_)
               | (refine lds_step rfl (by assumption) rfl ?_)
               | (refine fL_mk ?_)
               | (refine fH_mk ?_)
               | (refine fN_mk ?_)
               | (refine fLB_mk ?_)
               | (refine And.intro (by repeat (first | assumption | refine GLB_app ?_)) ?_)
               | (refine ld_step rfl ((rd_x0 _ _ _ _ _).trans rfl) rfl ?_)
               | (refine ld_step rfl ((rd_x1 _ _ _ _ _ _).trans rfl) rfl ?_)
               | (refine ld_step rfl ((rd_x2 _ _ _ _ _ _ _).trans rfl) rfl ?_)
               | (refine lds_step rfl ((rd_x0 _ _ _ _ _).trans rfl) rfl ?_)
               | (refine lds_step rfl ((rd_x1 _ _ _ _ _ _).trans rfl) rfl ?_)
               | (refine lds_step rfl ((rd_x2 _ _ _ _ _ _ _).trans rfl) rfl ?_)
               | (refine mem_step (st_eq rfl rfl rfl rfl (wr_last _ _ _ _ rfl)) ?_)
               | (refine drec_yes (by omega) ?_)
               | (refine drec_no (by omega) ?_)
               | (intro _)
               | fail)
      any_goals refine Halt.mk ?_
      any_goals show rC _ _ r6_1 _ _ _ _ _ _
      refine rC_seqH ?_
      repeat' (conv => whnf
               first
               | (refine Stop.mk ?_)
               | (refine fI_gen ?_; intro z hz)
               | (refine fO_gen ?_; intro z hz)
               | (refine ⟨hg, ?_⟩)
               | (refine dec_true (by assumption) ?_)
               | (refine dec_false (by assumption) ?_)
               | (refine dec_split (fun h => ?_) (fun h => ?_))
               | (apply silE)
               | (exact And.intro rfl (And.intro rfl (And.intro rfl rfl)))
               | (refine And.intro (by first | omega | ((simp only [decide_eq_true_eq, decide_eq_false_iff_not, Bool.and_eq_true, beq_iff_eq, Bool.not_eq_true', Bool.not_eq_false'] at *); omega) | (subst_vars; simp only [Int.ofNat_eq_natCast, tq_not, fq_not, tq_and, fq_and, tq_or, fq_or, tq_beq, fq_beq, tq_bne, fq_bne, tq_dec, fq_dec, one1, V.tup.injEq, V.agg.injEq, List.cons.injEq, V.int.injEq, V.bool.injEq, true_and, and_true, decide_eq_true_eq, decide_eq_false_iff_not, Bool.and_eq_true, Bool.and_eq_false_iff, Bool.or_eq_true, Bool.or_eq_false_iff, Bool.not_eq_true', Bool.not_eq_false', beq_iff_eq, wrap_u32, wrap_i64, wrap_u8, beq_eq_false_iff_ne, ne_eq, bne_iff_ne, bne_eq_false_iff_eq, eq_self, and_self, splice, V.cells, List.take_succ_cons, List.take_zero, List.take_nil, List.drop_zero, List.drop_succ_cons, List.drop_nil, List.cons_append, List.nil_append, List.append_nil, List.length_cons, List.length_nil, Nat.zero_add, Nat.reduceAdd, if_true, if_false, Bool.false_eq_true, beq_self_eq_true, decide_eq_decide, Bool.true_eq_false, or_false, false_or, or_true, true_or, and_false, false_and, not_true_eq_false, not_false_eq_true, Bool.and_true, Bool.true_and, Bool.not_true, Bool.not_false] at *; omega)) ?_)
               | (refine Exists.intro _ (Exists.intro _ (And.intro rfl ?_)))
               | (refine Exists.intro _ (And.intro rfl ?_))
               | (refine Exists.intro _ (Exists.intro _ (Exists.intro _ (Exists.intro _ (And.intro rfl ?_)))))
               | (refine ld_step rfl (by assumption) rfl ?_)
               | (refine lds_step rfl (by assumption) rfl ?_)
               | (refine fL_mk ?_)
               | (refine fH_mk ?_)
               | (refine fN_mk ?_)
               | (refine fLB_mk ?_)
               | (refine And.intro (by repeat (first | assumption | refine GLB_app ?_)) ?_)
               | (refine ld_step rfl ((rd_x0 _ _ _ _ _).trans rfl) rfl ?_)
               | (refine ld_step rfl ((rd_x1 _ _ _ _ _ _).trans rfl) rfl ?_)
               | (refine ld_step rfl ((rd_x2 _ _ _ _ _ _ _).trans rfl) rfl ?_)
               | (refine lds_step rfl ((rd_x0 _ _ _ _ _).trans rfl) rfl ?_)
               | (refine lds_step rfl ((rd_x1 _ _ _ _ _ _).trans rfl) rfl ?_)
               | (refine lds_step rfl ((rd_x2 _ _ _ _ _ _ _).trans rfl) rfl ?_)
               | (refine mem_step (st_eq rfl rfl rfl rfl (wr_last _ _ _ _ rfl)) ?_)
               | (refine drec_yes (by omega) ?_)
               | (refine drec_no (by omega) ?_)
               | (intro _)
               | fail)
      any_goals refine Halt.mk ?_
      any_goals show rC _ _ r6_2 _ _ _ _ _ _
      repeat' (conv => whnf
               first
               | (refine Stop.mk ?_)
               | (refine fI_gen ?_; intro z hz)
               | (refine fO_gen ?_; intro z hz)
               | (refine ⟨hp.1, fun h => absurd h h0, fun _ => ?_⟩)
               | (refine dec_true (by assumption) ?_)
               | (refine dec_false (by assumption) ?_)
               | (refine dec_split (fun h => ?_) (fun h => ?_))
               | (apply silE)
               | (exact And.intro rfl (And.intro rfl (And.intro rfl rfl)))
               | (refine And.intro (by first | omega | ((simp only [decide_eq_true_eq, decide_eq_false_iff_not, Bool.and_eq_true, beq_iff_eq, Bool.not_eq_true', Bool.not_eq_false'] at *); omega) | (subst_vars; simp only [Int.ofNat_eq_natCast, tq_not, fq_not, tq_and, fq_and, tq_or, fq_or, tq_beq, fq_beq, tq_bne, fq_bne, tq_dec, fq_dec, one1, V.tup.injEq, V.agg.injEq, List.cons.injEq, V.int.injEq, V.bool.injEq, true_and, and_true, decide_eq_true_eq, decide_eq_false_iff_not, Bool.and_eq_true, Bool.and_eq_false_iff, Bool.or_eq_true, Bool.or_eq_false_iff, Bool.not_eq_true', Bool.not_eq_false', beq_iff_eq, wrap_u32, wrap_i64, wrap_u8, beq_eq_false_iff_ne, ne_eq, bne_iff_ne, bne_eq_false_iff_eq, eq_self, and_self, splice, V.cells, List.take_succ_cons, List.take_zero, List.take_nil, List.drop_zero, List.drop_succ_cons, List.drop_nil, List.cons_append, List.nil_append, List.append_nil, List.length_cons, List.length_nil, Nat.zero_add, Nat.reduceAdd, if_true, if_false, Bool.false_eq_true, beq_self_eq_true, decide_eq_decide, Bool.true_eq_false, or_false, false_or, or_true, true_or, and_false, false_and, not_true_eq_false, not_false_eq_true, Bool.and_true, Bool.true_and, Bool.not_true, Bool.not_false] at *; omega)) ?_)
               | (refine Exists.intro _ (Exists.intro _ (And.intro rfl ?_)))
               | (refine Exists.intro _ (And.intro rfl ?_))
               | (refine Exists.intro _ (Exists.intro _ (Exists.intro _ (Exists.intro _ (And.intro rfl ?_)))))
               | (refine ld_step rfl (by assumption) rfl ?_)
               | (refine lds_step rfl (by assumption) rfl ?_)
               | (refine fL_mk ?_)
               | (refine fH_mk ?_)
               | (refine fN_mk ?_)
               | (refine fLB_mk ?_)
               | (refine And.intro (by repeat (first | assumption | refine GLB_app ?_)) ?_)
               | (refine ld_step rfl ((rd_x0 _ _ _ _ _).trans rfl) rfl ?_)
               | (refine ld_step rfl ((rd_x1 _ _ _ _ _ _).trans rfl) rfl ?_)
               | (refine ld_step rfl ((rd_x2 _ _ _ _ _ _ _).trans rfl) rfl ?_)
               | (refine lds_step rfl ((rd_x0 _ _ _ _ _).trans rfl) rfl ?_)
               | (refine lds_step rfl ((rd_x1 _ _ _ _ _ _).trans rfl) rfl ?_)
               | (refine lds_step rfl ((rd_x2 _ _ _ _ _ _ _).trans rfl) rfl ?_)
               | (refine mem_step (st_eq rfl rfl rfl rfl (wr_last _ _ _ _ rfl)) ?_)
               | (refine drec_yes (by omega) ?_)
               | (refine drec_no (by omega) ?_)
               | (intro _)
               | fail)
      conv => whnf
      exact leafE hq rfl
  · exact hs.elim
end Go.Ev
