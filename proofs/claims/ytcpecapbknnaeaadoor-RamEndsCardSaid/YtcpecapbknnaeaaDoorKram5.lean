/- dev: septumref09.Ram.Write, reads -/
import Derived.Test.YtcpecapbknnaeaaDoorKram4
set_option linter.all false
namespace Go.Ev
open Go Go.Proofs
set_option maxRecDepth 4000
set_option maxHeartbeats 4000000
/-- n bytes of v, put from o on -/
def wrB (l : List Int) (o : Nat) (v : Int) : Nat → List Int
  | 0 => l
  | k + 1 => (wrB l o v k).set (o + k) (v / 256 ^ k % 256)
theorem wrB_len (l : List Int) (o : Nat) (v : Int) : ∀ k, (wrB l o v k).length = l.length
  | 0 => rfl
  | k + 1 => by rw [wrB, List.length_set, wrB_len l o v k]
theorem wrB_bd {l : List Int} (h : ∀ x, x ∈ l → 0 ≤ x ∧ x < 256) (o : Nat) (v : Int) : ∀ k, ∀ x, x ∈ wrB l o v k → 0 ≤ x ∧ x < 256
  | 0, x, hx => h x hx
  | k + 1, x, hx => by
    rcases List.mem_or_eq_of_mem_set hx with hx | rfl
    · exact wrB_bd h o v k x hx
    · omega
def s17 : Sp := fun vs H Q => match vs with
  | [.ptr (some (i, 0)), .int .i64 off, .int .i64 n, .int .u32 v] => ((-9223372036854775808 ≤ off ∧ off < 9223372036854775808) ∧ (-9223372036854775808 ≤ n ∧ n < 9223372036854775808) ∧ (0 ≤ v ∧ v < 4294967296)) ∧ ∃ c l, RefAt H i c l ∧ Q (.bool (decide (hasB l.length off n))) (H.set c (BB (if hasB l.length off n then wrB l off.toNat v n.toNat else l))) false false
  | _ => False
theorem m17 : Mono s17 := by
  intro vs H Q Q' hQ h
  unfold s17 at h ⊢
  split at h
  all_goals first
    | exact h.elim
    | (repeat' (first | exact hQ _ _ _ _ h | refine And.imp_right (fun h => ?_) h | refine Exists.imp (fun _ h => ?_) h | (intro z; replace h := h z)))
theorem k17 : Snd Tryd.prog 2 17 s17 := by
  refine snd_of_ev (by kernel_rfl) (C := tab [(30, s30), (31, s31)]) (sndC_cons k30 (sndC_cons k31 (sndC_nil))) x17 n17 c17 30 ?_
  have hC : MonoC (tab [(30, s30), (31, s31)]) := monoC_cons m30 (monoC_cons m31 (monoC_nil))
  intro vs Hx Q hs
  unfold s17 at hs
  split at hs
  · rename_i i off n v
    obtain ⟨hp, c, l, hr, hq⟩ := hs
    suffices hh : ∀ k, 10 < k → evFun (tab [(30, s30), (31, s31)]) k e17 [.ptr (some (i, 0)), .int .i64 off, .int .i64 n, .int .u32 v] Hx Q from hh _ (by omega)
    intro k hk
    refine evFun_in (tm := SV.v (.ptr (some (i, 0))) :: SV.v (.int .i64 off) :: SV.v (.int .i64 n) :: SV.v (.int .u32 v) :: undefV :: undefV :: undefV :: undefV :: undefV :: undefV :: undefV :: undefV :: undefV :: undefV :: undefV :: undefV :: undefV :: undefV :: undefV :: undefV :: undefV :: undefV :: undefV :: undefV :: undefV :: undefV :: undefV :: undefV :: undefV :: undefV :: undefV :: undefV :: undefV :: undefV :: undefV :: undefV :: []) rfl ?_
    show rC _ _ r17_0 _ _ _ _ _ _
    have hcl := (List.getElem?_eq_some_iff.1 hr.w).1
    by_cases h0 : hasB l.length off n
    · rw [if_pos h0, decide_eq_true h0] at hq
      have hf := hasB_fit h0 hr.n.2.2
      have hokn := h0.2.2.1
      have hsz := hr.n
      refine rC_seqH ?_
      repeat' (conv => whnf
               first
               | (refine Stop.mk ?_)
               | (refine fI_gen ?_; intro z hz)
               | (refine fO_gen ?_; intro z hz)
               | (refine dec_true (by assumption) ?_)
               | (refine dec_false (by assumption) ?_)
               | (refine dec_split (fun h => ?_) (fun h => ?_))
               | (apply silE)
               | (exact And.intro rfl (And.intro rfl (And.intro rfl rfl)))
               | (refine And.intro (by first | omega | ((simp only [decide_eq_true_eq, decide_eq_false_iff_not, Bool.and_eq_true, beq_iff_eq, Bool.not_eq_true', Bool.not_eq_false'] at *); omega) | (subst_vars; simp only [Int.ofNat_eq_natCast, tq_not, fq_not, tq_and, fq_and, tq_or, fq_or, tq_beq, fq_beq, tq_bne, fq_bne, tq_dec, fq_dec, one1, V.tup.injEq, V.agg.injEq, List.cons.injEq, V.int.injEq, V.bool.injEq, true_and, and_true, decide_eq_true_eq, decide_eq_false_iff_not, Bool.and_eq_true, Bool.and_eq_false_iff, Bool.or_eq_true, Bool.or_eq_false_iff, Bool.not_eq_true', Bool.not_eq_false', beq_iff_eq, wrap_u32, wrap_i64, wrap_u8, beq_eq_false_iff_ne, ne_eq, bne_iff_ne, bne_eq_false_iff_eq, eq_self, and_self, splice, V.cells, List.take_succ_cons, List.take_zero, List.take_nil, List.drop_zero, List.drop_succ_cons, List.drop_nil, List.cons_append, List.nil_append, List.append_nil, List.length_cons, List.length_nil, Nat.zero_add, Nat.reduceAdd, if_true, if_false, Bool.false_eq_true, beq_self_eq_true, decide_eq_decide, Bool.true_eq_false, or_false, false_or, or_true, true_or, and_false, false_and, not_true_eq_false, not_false_eq_true, Bool.and_true, Bool.true_and, Bool.not_true, Bool.not_false] at *; omega)) ?_)
               | (refine Exists.intro _ (Exists.intro _ (And.intro rfl ?_)))
               | (refine Exists.intro _ (And.intro rfl ?_))
               | (refine Exists.intro _ (Exists.intro _ (Exists.intro _ (Exists.intro _ (And.intro rfl ?_)))))
               | (refine ld_step rfl (by assumption) rfl ?_)
               | (refine lds_step rfl (by assumption) rfl ?_)
               | (refine fL_mk ?_)
               | (refine fH_mk ?_)
               | (refine fN_mk ?_)
               | (refine fLB_mk ?_)
               | (refine And.intro (by repeat (first | assumption | refine GLB_app ?_)) ?_)
               | (refine ld_step rfl ((rd_x0 _ _ _ _ _).trans rfl) rfl ?_)
               | (refine ld_step rfl ((rd_x1 _ _ _ _ _ _).trans rfl) rfl ?_)
               | (refine ld_step rfl ((rd_x2 _ _ _ _ _ _ _).trans rfl) rfl ?_)
               | (refine lds_step rfl ((rd_x0 _ _ _ _ _).trans rfl) rfl ?_)
               | (refine lds_step rfl ((rd_x1 _ _ _ _ _ _).trans rfl) rfl ?_)
               | (refine lds_step rfl ((rd_x2 _ _ _ _ _ _ _).trans rfl) rfl ?_)
               | (refine mem_step (st_eq rfl rfl rfl rfl (wr_last _ _ _ _ rfl)) ?_)
               | (refine drec_yes (by omega) ?_)
               | (refine drec_no (by omega) ?_)
               | (intro _)
               | fail)
      any_goals refine Halt.mk ?_
      any_goals show rC _ _ r17_1 _ _ _ _ _ _
      refine rC_seqH ?_
      repeat' (conv => whnf
               first
               | (refine Stop.mk ?_)
               | (refine fO_is (decide_eq_true h0) ?_)
               | (refine fI_gen ?_; intro z hz)
               | (refine fO_gen ?_; intro z hz)
               | (refine ⟨⟨hp.1, hp.2.1⟩, c, l, hr, ?_⟩)
               | (refine dec_true (by assumption) ?_)
               | (refine dec_false (by assumption) ?_)
               | (refine dec_split (fun h => ?_) (fun h => ?_))
               | (apply silE)
               | (exact And.intro rfl (And.intro rfl (And.intro rfl rfl)))
               | (refine And.intro (by first | omega | ((simp only [decide_eq_true_eq, decide_eq_false_iff_not, Bool.and_eq_true, beq_iff_eq, Bool.not_eq_true', Bool.not_eq_false'] at *); omega) | (subst_vars; simp only [Int.ofNat_eq_natCast, tq_not, fq_not, tq_and, fq_and, tq_or, fq_or, tq_beq, fq_beq, tq_bne, fq_bne, tq_dec, fq_dec, one1, V.tup.injEq, V.agg.injEq, List.cons.injEq, V.int.injEq, V.bool.injEq, true_and, and_true, decide_eq_true_eq, decide_eq_false_iff_not, Bool.and_eq_true, Bool.and_eq_false_iff, Bool.or_eq_true, Bool.or_eq_false_iff, Bool.not_eq_true', Bool.not_eq_false', beq_iff_eq, wrap_u32, wrap_i64, wrap_u8, beq_eq_false_iff_ne, ne_eq, bne_iff_ne, bne_eq_false_iff_eq, eq_self, and_self, splice, V.cells, List.take_succ_cons, List.take_zero, List.take_nil, List.drop_zero, List.drop_succ_cons, List.drop_nil, List.cons_append, List.nil_append, List.append_nil, List.length_cons, List.length_nil, Nat.zero_add, Nat.reduceAdd, if_true, if_false, Bool.false_eq_true, beq_self_eq_true, decide_eq_decide, Bool.true_eq_false, or_false, false_or, or_true, true_or, and_false, false_and, not_true_eq_false, not_false_eq_true, Bool.and_true, Bool.true_and, Bool.not_true, Bool.not_false] at *; omega)) ?_)
               | (refine Exists.intro _ (Exists.intro _ (And.intro rfl ?_)))
               | (refine Exists.intro _ (And.intro rfl ?_))
               | (refine Exists.intro _ (Exists.intro _ (Exists.intro _ (Exists.intro _ (And.intro rfl ?_)))))
               | (refine ld_step rfl (by assumption) rfl ?_)
               | (refine lds_step rfl (by assumption) rfl ?_)
               | (refine fL_mk ?_)
               | (refine fH_mk ?_)
               | (refine fN_mk ?_)
               | (refine fLB_mk ?_)
               | (refine And.intro (by repeat (first | assumption | refine GLB_app ?_)) ?_)
               | (refine ld_step rfl ((rd_x0 _ _ _ _ _).trans rfl) rfl ?_)
               | (refine ld_step rfl ((rd_x1 _ _ _ _ _ _).trans rfl) rfl ?_)
               | (refine ld_step rfl ((rd_x2 _ _ _ _ _ _ _).trans rfl) rfl ?_)
               | (refine lds_step rfl ((rd_x0 _ _ _ _ _).trans rfl) rfl ?_)
               | (refine lds_step rfl ((rd_x1 _ _ _ _ _ _).trans rfl) rfl ?_)
               | (refine lds_step rfl ((rd_x2 _ _ _ _ _ _ _).trans rfl) rfl ?_)
               | (refine mem_step (st_eq rfl rfl rfl rfl (wr_last _ _ _ _ rfl)) ?_)
               | (refine drec_yes (by omega) ?_)
               | (refine drec_no (by omega) ?_)
               | (intro _)
               | fail)
      any_goals refine Halt.mk ?_
      any_goals show rC _ _ r17_2 _ _ _ _ _ _
      refine rC_seqH ?_
      repeat' (conv => whnf
               first
               | (refine Stop.mk ?_)
               | (refine fI_gen ?_; intro z hz)
               | (refine fO_gen ?_; intro z hz)
               | (refine ⟨⟨hp.2.2, hokn⟩, ?_⟩; intro b2 cap2 X ws q1 q2 q3 q4)
               | (refine dec_true (by assumption) ?_)
               | (refine dec_false (by assumption) ?_)
               | (refine dec_split (fun h => ?_) (fun h => ?_))
               | (apply silE)
               | (exact And.intro rfl (And.intro rfl (And.intro rfl rfl)))
               | (refine And.intro (by first | omega | ((simp only [decide_eq_true_eq, decide_eq_false_iff_not, Bool.and_eq_true, beq_iff_eq, Bool.not_eq_true', Bool.not_eq_false'] at *); omega) | (subst_vars; simp only [Int.ofNat_eq_natCast, tq_not, fq_not, tq_and, fq_and, tq_or, fq_or, tq_beq, fq_beq, tq_bne, fq_bne, tq_dec, fq_dec, one1, V.tup.injEq, V.agg.injEq, List.cons.injEq, V.int.injEq, V.bool.injEq, true_and, and_true, decide_eq_true_eq, decide_eq_false_iff_not, Bool.and_eq_true, Bool.and_eq_false_iff, Bool.or_eq_true, Bool.or_eq_false_iff, Bool.not_eq_true', Bool.not_eq_false', beq_iff_eq, wrap_u32, wrap_i64, wrap_u8, beq_eq_false_iff_ne, ne_eq, bne_iff_ne, bne_eq_false_iff_eq, eq_self, and_self, splice, V.cells, List.take_succ_cons, List.take_zero, List.take_nil, List.drop_zero, List.drop_succ_cons, List.drop_nil, List.cons_append, List.nil_append, List.append_nil, List.length_cons, List.length_nil, Nat.zero_add, Nat.reduceAdd, if_true, if_false, Bool.false_eq_true, beq_self_eq_true, decide_eq_decide, Bool.true_eq_false, or_false, false_or, or_true, true_or, and_false, false_and, not_true_eq_false, not_false_eq_true, Bool.and_true, Bool.true_and, Bool.not_true, Bool.not_false] at *; omega)) ?_)
               | (refine Exists.intro _ (Exists.intro _ (And.intro rfl ?_)))
               | (refine Exists.intro _ (And.intro rfl ?_))
               | (refine Exists.intro _ (Exists.intro _ (Exists.intro _ (Exists.intro _ (And.intro rfl ?_)))))
               | (refine ld_step rfl (by assumption) rfl ?_)
               | (refine lds_step rfl (by assumption) rfl ?_)
               | (refine fL_mk ?_)
               | (refine fH_mk ?_)
               | (refine fN_mk ?_)
               | (refine fLB_mk ?_)
               | (refine And.intro (by repeat (first | assumption | refine GLB_app ?_)) ?_)
               | (refine ld_step rfl ((rd_x0 _ _ _ _ _).trans rfl) rfl ?_)
               | (refine ld_step rfl ((rd_x1 _ _ _ _ _ _).trans rfl) rfl ?_)
               | (refine ld_step rfl ((rd_x2 _ _ _ _ _ _ _).trans rfl) rfl ?_)
               | (refine lds_step rfl ((rd_x0 _ _ _ _ _).trans rfl) rfl ?_)
               | (refine lds_step rfl ((rd_x1 _ _ _ _ _ _).trans rfl) rfl ?_)
               | (refine lds_step rfl ((rd_x2 _ _ _ _ _ _ _).trans rfl) rfl ?_)
               | (refine mem_step (st_eq rfl rfl rfl rfl (wr_last _ _ _ _ rfl)) ?_)
               | (refine drec_yes (by omega) ?_)
               | (refine drec_no (by omega) ?_)
               | (intro _)
               | fail)
      refine Halt.mk ?_
      show rC _ _ r17_3 _ _ _ _ _ _
      obtain ⟨m, rfl⟩ : ∃ m : Nat, n = (m : Int) := ⟨n.toNat, by omega⟩
      refine rC_seqH ?_
      repeat' (conv => whnf
               first
               | (refine Stop.mk ?_)
               | (refine fI_mk ?_)
               | (refine fO_mk ?_)
               | (refine fN_mk ?_)
               | fail)
      conv => whnf
      refine rLoop_ctr (c := rC (tab [(30, s30), (31, s31)]) k l17_0) m 10 (false :: false :: false :: false :: false :: false :: false :: false :: false :: false :: false :: false :: false :: false :: false :: false :: false :: false :: false :: true :: true :: true :: true :: true :: true :: true :: true :: true :: true :: true :: true :: true :: true :: true :: true :: true :: []) (fun i tm L H e g => H = (Hx ++ X).set c (BB (wrB l off.toNat v i)) ∧ L = [] ∧ e = false ∧ g = true) (by omega) rfl ⟨(hr.app X).same.symm, rfl, rfl, rfl⟩ ?_
      intro i0 hi0
      conv => whnf
      intro j
      conv => whnf
      intro j
      conv => whnf
      intro j
      conv => whnf
      intro j
      conv => whnf
      intro j
      conv => whnf
      intro j
      conv => whnf
      intro j
      conv => whnf
      intro j
      conv => whnf
      intro j
      conv => whnf
      intro j
      conv => whnf
      intro j
      conv => whnf
      intro j
      conv => whnf
      intro j
      conv => whnf
      intro j
      conv => whnf
      intro j
      conv => whnf
      intro j
      conv => whnf
      intro j
      conv => whnf
      refine Halt.mk ?_
      rintro L H' e g ⟨rfl, rfl, rfl, rfl⟩ K kn kx kr
      have hr2 : RefAt ((Hx ++ X).set c (BB (wrB l off.toNat v i0))) i c (wrB l off.toNat v i0) := (hr.app X).set (wrB_len _ _ _ _) (wrB_bd hr.u _ _ _)
      have hl2 := wrB_len l off.toNat v i0
      repeat' (conv => whnf
               first
               | (refine Stop.mk ?_)
               | (refine fI_mk ?_)
               | (refine fO_mk ?_)
               | (refine fN_mk ?_)
               | fail)
      conv => whnf
      refine dec_split (fun h => ?_) (fun h => ?_)
      · have hlt : i0 < m := by have := of_decide_eq_true h; omega
        clear kx kr
        have hw : IntKind.i64.wrap (off + (i0 : Int)) = off + (i0 : Int) := wrap_i64_id (by omega) (by omega)
        have hby : rd ((Hx ++ X).set c (BB (wrB l off.toNat v i0))) b2 (0 + i0 * 1) 1 = some [.int .u8 (v / 256 ^ i0 % 256)] := by
          unfold rd
          rw [List.getElem?_set_ne (by omega), q3]
          show cut ((bytesV m v).flatMap encB ++ ws) _ _ = _
          have hg := bytesV_get m i0 v hp.2.2.1 hlt
          have e1 : ((bytesV m v).flatMap encB ++ ws)[i0]? = some (.int .u8 (v / 256 ^ i0 % 256)) := by
            rw [List.getElem?_append_left (by rw [flat_len encB_len, bytesV_len]; omega), encB_map, List.getElem?_map, hg]; rfl
          obtain ⟨e2, e3⟩ := List.getElem?_eq_some_iff.1 e1
          unfold cut
          rw [Nat.zero_add, Nat.mul_one, if_pos (by omega)]
          show some ((((bytesV m v).flatMap encB ++ ws).drop i0).take 1) = _
          rw [List.drop_eq_getElem_cons e2, e3]
          rfl
        have hwr : wr ((Hx ++ X).set c (BB (wrB l off.toNat v i0))) c (0 + (off + (i0 : Int)).toNat * 1) [.int .u8 (v / 256 ^ i0 % 256)] = some (((Hx ++ X).set c (BB (wrB l off.toNat v i0))).set c (BB (wrB l off.toNat v (i0 + 1)))) := by
          have := wr_one hr2.w (i := (off + (i0 : Int)).toNat) (by rw [flat_len encB_len]; omega) (.int .u8 (v / 256 ^ i0 % 256))
          rw [this]
          unfold BB
          rw [encB_map, encB_map, wrB, List.map_set, show off.toNat + i0 = (off + (i0 : Int)).toNat by omega]
        repeat' (conv => whnf
                 first
                 | (refine Stop.mk ?_)
                 | (refine fI_is hw ?_)
                 | (refine fI_i64 (by first | omega | (simp only [Int.ofNat_eq_natCast] at *; omega)) ?_; intro z hz)
                 | (refine fI_u32 (by first | omega | (simp only [Int.ofNat_eq_natCast] at *; omega)) ?_; intro z hz)
                 | (refine fI_u8 (by first | omega | (simp only [Int.ofNat_eq_natCast] at *; omega)) ?_; intro z hz)
                 | (refine fI_u64 (by first | omega | (simp only [Int.ofNat_eq_natCast] at *; omega)) ?_; intro z hz)
                 | (refine fI_tdiv (by first | omega | (simp only [Int.ofNat_eq_natCast] at *; omega)) ?_; intro z hz)
                 | (refine fI_tmod (by first | omega | (simp only [Int.ofNat_eq_natCast] at *; omega)) ?_; intro z hz)
                 | (refine fI_gen ?_; intro z hz)
                 | (refine fO_gen ?_; intro z hz)
                 | (refine pure_step (ixs_eq rfl rfl (by omega) (show _ < (l.length : Int) by omega)) ?_)
                 | (refine pure_step (ixs_eq rfl rfl (by omega) (show _ < (m : Int) by omega)) ?_)
                 | (refine ld_step rfl hr2.rd1 (by rw [hl2]; rfl) ?_)
                 | (refine lds_step rfl hr2.rd1 (by rw [hl2]; rfl) ?_)
                 | (refine ld_step rfl hby rfl ?_)
                 | (refine lds_step rfl hby rfl ?_)
                 | (refine mem_step (st_eq rfl rfl rfl rfl hwr) ?_)
                 | (refine dec_true (by assumption) ?_)
                 | (refine dec_false (by assumption) ?_)
                 | (refine dec_split (fun h => ?_) (fun h => ?_))
                 | (apply silE)
                 | (exact And.intro rfl (And.intro rfl (And.intro rfl rfl)))
                 | (refine And.intro (by first | omega | ((simp only [decide_eq_true_eq, decide_eq_false_iff_not, Bool.and_eq_true, beq_iff_eq, Bool.not_eq_true', Bool.not_eq_false'] at *); omega) | (subst_vars; simp only [Int.ofNat_eq_natCast, tq_not, fq_not, tq_and, fq_and, tq_or, fq_or, tq_beq, fq_beq, tq_bne, fq_bne, tq_dec, fq_dec, one1, V.tup.injEq, V.agg.injEq, List.cons.injEq, V.int.injEq, V.bool.injEq, true_and, and_true, decide_eq_true_eq, decide_eq_false_iff_not, Bool.and_eq_true, Bool.and_eq_false_iff, Bool.or_eq_true, Bool.or_eq_false_iff, Bool.not_eq_true', Bool.not_eq_false', beq_iff_eq, wrap_u32, wrap_i64, wrap_u8, beq_eq_false_iff_ne, ne_eq, bne_iff_ne, bne_eq_false_iff_eq, eq_self, and_self, splice, V.cells, List.take_succ_cons, List.take_zero, List.take_nil, List.drop_zero, List.drop_succ_cons, List.drop_nil, List.cons_append, List.nil_append, List.append_nil, List.length_cons, List.length_nil, Nat.zero_add, Nat.reduceAdd, if_true, if_false, Bool.false_eq_true, beq_self_eq_true, decide_eq_decide, Bool.true_eq_false, or_false, false_or, or_true, true_or, and_false, false_and, not_true_eq_false, not_false_eq_true, Bool.and_true, Bool.true_and, Bool.not_true, Bool.not_false] at *; omega)) ?_)
                 | (refine Exists.intro _ (Exists.intro _ (And.intro rfl ?_)))
                 | (refine Exists.intro _ (And.intro rfl ?_))
                 | (refine Exists.intro _ (Exists.intro _ (Exists.intro _ (Exists.intro _ (And.intro rfl ?_)))))
                 | (refine ld_step rfl (by assumption) rfl ?_)
                 | (refine lds_step rfl (by assumption) rfl ?_)
                 | (refine fL_mk ?_)
                 | (refine fH_mk ?_)
                 | (refine fN_mk ?_)
                 | (refine fLB_mk ?_)
                 | (refine And.intro (by repeat (first | assumption | refine GLB_app ?_)) ?_)
                 | (refine ld_step rfl ((rd_x0 _ _ _ _ _).trans rfl) rfl ?_)
                 | (refine ld_step rfl ((rd_x1 _ _ _ _ _ _).trans rfl) rfl ?_)
                 | (refine ld_step rfl ((rd_x2 _ _ _ _ _ _ _).trans rfl) rfl ?_)
                 | (refine lds_step rfl ((rd_x0 _ _ _ _ _).trans rfl) rfl ?_)
                 | (refine lds_step rfl ((rd_x1 _ _ _ _ _ _).trans rfl) rfl ?_)
                 | (refine lds_step rfl ((rd_x2 _ _ _ _ _ _ _).trans rfl) rfl ?_)
                 | (refine mem_step (st_eq rfl rfl rfl rfl (wr_last _ _ _ _ rfl)) ?_)
                 | (refine drec_yes (by omega) ?_)
                 | (refine drec_no (by omega) ?_)
                 | (intro _)
                 | fail)
        conv => whnf
        subst hz
        exact kn hlt _ _ _ _ _ rfl ⟨List.set_set _, rfl, rfl, rfl⟩
      · clear kn kr
        have hie : i0 = m := by have := of_decide_eq_false h; omega
        subst hie
        repeat' (conv => whnf
                 first
                 | (refine Stop.mk ?_)
                 | (refine fI_gen ?_; intro z hz)
                 | (refine fO_gen ?_; intro z hz)
                 | (refine kx _ _ _ _ _ _ ?_)
                 | (refine dec_true (by assumption) ?_)
                 | (refine dec_false (by assumption) ?_)
                 | (refine dec_split (fun h => ?_) (fun h => ?_))
                 | (apply silE)
                 | (exact And.intro rfl (And.intro rfl (And.intro rfl rfl)))
                 | (refine And.intro (by first | omega | ((simp only [decide_eq_true_eq, decide_eq_false_iff_not, Bool.and_eq_true, beq_iff_eq, Bool.not_eq_true', Bool.not_eq_false'] at *); omega) | (subst_vars; simp only [Int.ofNat_eq_natCast, tq_not, fq_not, tq_and, fq_and, tq_or, fq_or, tq_beq, fq_beq, tq_bne, fq_bne, tq_dec, fq_dec, one1, V.tup.injEq, V.agg.injEq, List.cons.injEq, V.int.injEq, V.bool.injEq, true_and, and_true, decide_eq_true_eq, decide_eq_false_iff_not, Bool.and_eq_true, Bool.and_eq_false_iff, Bool.or_eq_true, Bool.or_eq_false_iff, Bool.not_eq_true', Bool.not_eq_false', beq_iff_eq, wrap_u32, wrap_i64, wrap_u8, beq_eq_false_iff_ne, ne_eq, bne_iff_ne, bne_eq_false_iff_eq, eq_self, and_self, splice, V.cells, List.take_succ_cons, List.take_zero, List.take_nil, List.drop_zero, List.drop_succ_cons, List.drop_nil, List.cons_append, List.nil_append, List.append_nil, List.length_cons, List.length_nil, Nat.zero_add, Nat.reduceAdd, if_true, if_false, Bool.false_eq_true, beq_self_eq_true, decide_eq_decide, Bool.true_eq_false, or_false, false_or, or_true, true_or, and_false, false_and, not_true_eq_false, not_false_eq_true, Bool.and_true, Bool.true_and, Bool.not_true, Bool.not_false] at *; omega)) ?_)
                 | (refine Exists.intro _ (Exists.intro _ (And.intro rfl ?_)))
                 | (refine Exists.intro _ (And.intro rfl ?_))
                 | (refine Exists.intro _ (Exists.intro _ (Exists.intro _ (Exists.intro _ (And.intro rfl ?_)))))
                 | (refine ld_step rfl (by assumption) rfl ?_)
                 | (refine lds_step rfl (by assumption) rfl ?_)
                 | (refine fL_mk ?_)
                 | (refine fH_mk ?_)
                 | (refine fN_mk ?_)
                 | (refine fLB_mk ?_)
                 | (refine And.intro (by repeat (first | assumption | refine GLB_app ?_)) ?_)
                 | (refine ld_step rfl ((rd_x0 _ _ _ _ _).trans rfl) rfl ?_)
                 | (refine ld_step rfl ((rd_x1 _ _ _ _ _ _).trans rfl) rfl ?_)
                 | (refine ld_step rfl ((rd_x2 _ _ _ _ _ _ _).trans rfl) rfl ?_)
                 | (refine lds_step rfl ((rd_x0 _ _ _ _ _).trans rfl) rfl ?_)
                 | (refine lds_step rfl ((rd_x1 _ _ _ _ _ _).trans rfl) rfl ?_)
                 | (refine lds_step rfl ((rd_x2 _ _ _ _ _ _ _).trans rfl) rfl ?_)
                 | (refine mem_step (st_eq rfl rfl rfl rfl (wr_last _ _ _ _ rfl)) ?_)
                 | (refine drec_yes (by omega) ?_)
                 | (refine drec_no (by omega) ?_)
                 | (intro _)
                 | fail)
        refine Halt.mk ?_
        show rC _ _ r17_4 _ _ _ _ _ _
        repeat' (conv => whnf
                 first
                 | (refine Stop.mk ?_)
                 | (refine fI_gen ?_; intro z hz)
                 | (refine fO_gen ?_; intro z hz)
                 | (refine dec_true (by assumption) ?_)
                 | (refine dec_false (by assumption) ?_)
                 | (refine dec_split (fun h => ?_) (fun h => ?_))
                 | (apply silE)
                 | (exact And.intro rfl (And.intro rfl (And.intro rfl rfl)))
                 | (refine And.intro (by first | omega | ((simp only [decide_eq_true_eq, decide_eq_false_iff_not, Bool.and_eq_true, beq_iff_eq, Bool.not_eq_true', Bool.not_eq_false'] at *); omega) | (subst_vars; simp only [Int.ofNat_eq_natCast, tq_not, fq_not, tq_and, fq_and, tq_or, fq_or, tq_beq, fq_beq, tq_bne, fq_bne, tq_dec, fq_dec, one1, V.tup.injEq, V.agg.injEq, List.cons.injEq, V.int.injEq, V.bool.injEq, true_and, and_true, decide_eq_true_eq, decide_eq_false_iff_not, Bool.and_eq_true, Bool.and_eq_false_iff, Bool.or_eq_true, Bool.or_eq_false_iff, Bool.not_eq_true', Bool.not_eq_false', beq_iff_eq, wrap_u32, wrap_i64, wrap_u8, beq_eq_false_iff_ne, ne_eq, bne_iff_ne, bne_eq_false_iff_eq, eq_self, and_self, splice, V.cells, List.take_succ_cons, List.take_zero, List.take_nil, List.drop_zero, List.drop_succ_cons, List.drop_nil, List.cons_append, List.nil_append, List.append_nil, List.length_cons, List.length_nil, Nat.zero_add, Nat.reduceAdd, if_true, if_false, Bool.false_eq_true, beq_self_eq_true, decide_eq_decide, Bool.true_eq_false, or_false, false_or, or_true, true_or, and_false, false_and, not_true_eq_false, not_false_eq_true, Bool.and_true, Bool.true_and, Bool.not_true, Bool.not_false] at *; omega)) ?_)
                 | (refine Exists.intro _ (Exists.intro _ (And.intro rfl ?_)))
                 | (refine Exists.intro _ (And.intro rfl ?_))
                 | (refine Exists.intro _ (Exists.intro _ (Exists.intro _ (Exists.intro _ (And.intro rfl ?_)))))
                 | (refine ld_step rfl (by assumption) rfl ?_)
                 | (refine lds_step rfl (by assumption) rfl ?_)
                 | (refine fL_mk ?_)
                 | (refine fH_mk ?_)
                 | (refine fN_mk ?_)
                 | (refine fLB_mk ?_)
                 | (refine And.intro (by repeat (first | assumption | refine GLB_app ?_)) ?_)
                 | (refine ld_step rfl ((rd_x0 _ _ _ _ _).trans rfl) rfl ?_)
                 | (refine ld_step rfl ((rd_x1 _ _ _ _ _ _).trans rfl) rfl ?_)
                 | (refine ld_step rfl ((rd_x2 _ _ _ _ _ _ _).trans rfl) rfl ?_)
                 | (refine lds_step rfl ((rd_x0 _ _ _ _ _).trans rfl) rfl ?_)
                 | (refine lds_step rfl ((rd_x1 _ _ _ _ _ _).trans rfl) rfl ?_)
                 | (refine lds_step rfl ((rd_x2 _ _ _ _ _ _ _).trans rfl) rfl ?_)
                 | (refine mem_step (st_eq rfl rfl rfl rfl (wr_last _ _ _ _ rfl)) ?_)
                 | (refine drec_yes (by omega) ?_)
                 | (refine drec_no (by omega) ?_)
                 | (intro _)
                 | fail)
        conv => whnf
        refine leafH hq rfl ?_
        rw [List.set_append_left _ _ hcl, List.take_left' (by simp)]
        rfl
    · rw [if_neg h0, decide_eq_false h0, hr.same] at hq
      refine rC_seqH ?_
      repeat' (conv => whnf
               first
               | (refine Stop.mk ?_)
               | (refine fI_gen ?_; intro z hz)
               | (refine fO_gen ?_; intro z hz)
               | (refine dec_true (by assumption) ?_)
               | (refine dec_false (by assumption) ?_)
               | (refine dec_split (fun h => ?_) (fun h => ?_))
               | (apply silE)
               | (exact And.intro rfl (And.intro rfl (And.intro rfl rfl)))
               | (refine And.intro (by first | omega | ((simp only [decide_eq_true_eq, decide_eq_false_iff_not, Bool.and_eq_true, beq_iff_eq, Bool.not_eq_true', Bool.not_eq_false'] at *); omega) | (subst_vars; simp only [Int.ofNat_eq_natCast, tq_not, fq_not, tq_and, fq_and, tq_or, fq_or, tq_beq, fq_beq, tq_bne, fq_bne, tq_dec, fq_dec, one1, V.tup.injEq, V.agg.injEq, List.cons.injEq, V.int.injEq, V.bool.injEq, true_and, and_true, decide_eq_true_eq, decide_eq_false_iff_not, Bool.and_eq_true, Bool.and_eq_false_iff, Bool.or_eq_true, Bool.or_eq_false_iff, Bool.not_eq_true', Bool.not_eq_false', beq_iff_eq, wrap_u32, wrap_i64, wrap_u8, beq_eq_false_iff_ne, ne_eq, bne_iff_ne, bne_eq_false_iff_eq, eq_self, and_self, splice, V.cells, List.take_succ_cons, List.take_zero, List.take_nil, List.drop_zero, List.drop_succ_cons, List.drop_nil, List.cons_append, List.nil_append, List.append_nil, List.length_cons, List.length_nil, Nat.zero_add, Nat.reduceAdd, if_true, if_false, Bool.false_eq_true, beq_self_eq_true, decide_eq_decide, Bool.true_eq_false, or_false, false_or, or_true, true_or, and_false, false_and, not_true_eq_false, not_false_eq_true, Bool.and_true, Bool.true_and, Bool.not_true, Bool.not_false] at *; omega)) ?_)
               | (refine Exists.intro _ (Exists.intro _ (And.intro rfl ?_)))
               | (refine Exists.intro _ (And.intro rfl ?_))
               | (refine Exists.intro _ (Exists.intro _ (Exists.intro _ (Exists.intro _ (And.intro rfl ?_)))))
               | (refine ld_step rfl (by assumption) rfl ?_)
               | (refine lds_step rfl (by assumption) rfl ?_)
               | (refine fL_mk ?_)
               | (refine fH_mk ?_)
               | (refine fN_mk ?_)
               | (refine fLB_mk ?_)
               | (refine And.intro (by repeat (first | assumption | refine GLB_app ?_)) ?_)
               | (refine ld_step rfl ((rd_x0 _ _ _ _ _).trans rfl) rfl ?_)
               | (refine ld_step rfl ((rd_x1 _ _ _ _ _ _).trans rfl) rfl ?_)
               | (refine ld_step rfl ((rd_x2 _ _ _ _ _ _ _).trans rfl) rfl ?_)
               | (refine lds_step rfl ((rd_x0 _ _ _ _ _).trans rfl) rfl ?_)
               | (refine lds_step rfl ((rd_x1 _ _ _ _ _ _).trans rfl) rfl ?_)
               | (refine lds_step rfl ((rd_x2 _ _ _ _ _ _ _).trans rfl) rfl ?_)
               | (refine mem_step (st_eq rfl rfl rfl rfl (wr_last _ _ _ _ rfl)) ?_)
               | (refine drec_yes (by omega) ?_)
               | (refine drec_no (by omega) ?_)
               | (intro _)
               | fail)
      any_goals refine Halt.mk ?_
      any_goals show rC _ _ r17_1 _ _ _ _ _ _
      repeat' (conv => whnf
               first
               | (refine Stop.mk ?_)
               | (refine fO_is (decide_eq_false h0) ?_)
               | (refine fI_gen ?_; intro z hz)
               | (refine fO_gen ?_; intro z hz)
               | (refine ⟨⟨hp.1, hp.2.1⟩, c, l, hr, ?_⟩)
               | (refine dec_true (by assumption) ?_)
               | (refine dec_false (by assumption) ?_)
               | (refine dec_split (fun h => ?_) (fun h => ?_))
               | (apply silE)
               | (exact And.intro rfl (And.intro rfl (And.intro rfl rfl)))
               | (refine And.intro (by first | omega | ((simp only [decide_eq_true_eq, decide_eq_false_iff_not, Bool.and_eq_true, beq_iff_eq, Bool.not_eq_true', Bool.not_eq_false'] at *); omega) | (subst_vars; simp only [Int.ofNat_eq_natCast, tq_not, fq_not, tq_and, fq_and, tq_or, fq_or, tq_beq, fq_beq, tq_bne, fq_bne, tq_dec, fq_dec, one1, V.tup.injEq, V.agg.injEq, List.cons.injEq, V.int.injEq, V.bool.injEq, true_and, and_true, decide_eq_true_eq, decide_eq_false_iff_not, Bool.and_eq_true, Bool.and_eq_false_iff, Bool.or_eq_true, Bool.or_eq_false_iff, Bool.not_eq_true', Bool.not_eq_false', beq_iff_eq, wrap_u32, wrap_i64, wrap_u8, beq_eq_false_iff_ne, ne_eq, bne_iff_ne, bne_eq_false_iff_eq, eq_self, and_self, splice, V.cells, List.take_succ_cons, List.take_zero, List.take_nil, List.drop_zero, List.drop_succ_cons, List.drop_nil, List.cons_append, List.nil_append, List.append_nil, List.length_cons, List.length_nil, Nat.zero_add, Nat.reduceAdd, if_true, if_false, Bool.false_eq_true, beq_self_eq_true, decide_eq_decide, Bool.true_eq_false, or_false, false_or, or_true, true_or, and_false, false_and, not_true_eq_false, not_false_eq_true, Bool.and_true, Bool.true_and, Bool.not_true, Bool.not_false] at *; omega)) ?_)
               | (refine Exists.intro _ (Exists.intro _ (And.intro rfl ?_)))
               | (refine Exists.intro _ (And.intro rfl ?_))
               | (refine Exists.intro _ (Exists.intro _ (Exists.intro _ (Exists.intro _ (And.intro rfl ?_)))))
               | (refine ld_step rfl (by assumption) rfl ?_)
               | (refine lds_step rfl (by assumption) rfl ?_)
               | (refine fL_mk ?_)
               | (refine fH_mk ?_)
               | (refine fN_mk ?_)
               | (refine fLB_mk ?_)
               | (refine And.intro (by repeat (first | assumption | refine GLB_app ?_)) ?_)
               | (refine ld_step rfl ((rd_x0 _ _ _ _ _).trans rfl) rfl ?_)
               | (refine ld_step rfl ((rd_x1 _ _ _ _ _ _).trans rfl) rfl ?_)
               | (refine ld_step rfl ((rd_x2 _ _ _ _ _ _ _).trans rfl) rfl ?_)
               | (refine lds_step rfl ((rd_x0 _ _ _ _ _).trans rfl) rfl ?_)
               | (refine lds_step rfl ((rd_x1 _ _ _ _ _ _).trans rfl) rfl ?_)
               | (refine lds_step rfl ((rd_x2 _ _ _ _ _ _ _).trans rfl) rfl ?_)
               | (refine mem_step (st_eq rfl rfl rfl rfl (wr_last _ _ _ _ rfl)) ?_)
               | (refine drec_yes (by omega) ?_)
               | (refine drec_no (by omega) ?_)
               | (intro _)
               | fail)
      conv => whnf
      exact leafE hq rfl
  · exact hs.elim
theorem bytesW_get : ∀ (w : List Int) (m : Nat), (∀ x, x ∈ w → 0 ≤ x) → (bytesW w)[m]? = w[m / 4]?.map (fun x => x / 256 ^ (m % 4) % 256)
  | [], m, _ => by simp [bytesW]
  | x :: w, m, h => by
    have ih := bytesW_get w (m - 4) (fun y hy => h y (List.mem_cons_of_mem _ hy))
    have e : bytesW (x :: w) = bytesV 4 x ++ bytesW w := rfl
    rw [e]
    by_cases hm : m < 4
    · rw [List.getElem?_append_left (by rw [bytesV_len]; exact hm), bytesV_get 4 m x (h x List.mem_cons_self) hm, Nat.div_eq_of_lt hm, Nat.mod_eq_of_lt hm]
      rfl
    · rw [List.getElem?_append_right (by rw [bytesV_len]; omega), bytesV_len, ih]
      obtain ⟨d, rfl⟩ : ∃ d, m = d + 4 := ⟨m - 4, by omega⟩
      rw [Nat.add_sub_cancel, Nat.add_div_right _ (by decide), Nat.add_mod_right]
      rfl
theorem wrB_get (l : List Int) (o : Nat) (v : Int) (m : Nat) : ∀ n, o + n ≤ l.length → (wrB l o v n)[m]? = if o ≤ m ∧ m < o + n then some (v / 256 ^ (m - o) % 256) else l[m]?
  | 0, _ => by rw [wrB, if_neg (by omega)]
  | n + 1, h => by
    rw [wrB, List.getElem?_set, wrB_get l o v m n (by omega), wrB_len]
    by_cases h1 : o + n = m
    · rw [if_pos h1, if_pos (by omega), if_pos (by omega)]
      congr 3
      congr 1
      omega
    · rw [if_neg h1]
      by_cases h2 : o ≤ m ∧ m < o + n
      · rw [if_pos h2, if_pos (by omega)]
      · rw [if_neg h2, if_neg (by omega)]
theorem put_byte {n a x v : Int} (h : alP n a) (ha : 0 ≤ a) (hx : (0 ≤ x ∧ x < 4294967296)) (hv : (0 ≤ v ∧ v < 4294967296)) (k : Nat) (hk : k < 4) :
    putV n a x v / 256 ^ k % 256 = if a % 4 ≤ k ∧ (k : Int) < a % 4 + n then v / 256 ^ (k - (a % 4).toNat) % 256 else x / 256 ^ k % 256 := by
  have hk' : k = 0 ∨ k = 1 ∨ k = 2 ∨ k = 3 := by omega
  rcases al_facts h ha with ⟨rfl, hr, hl, h1, h2⟩ | ⟨rfl, hr, hl, h1, h2⟩ | ⟨rfl, hr, hl, h1, h2⟩ | ⟨rfl, hr, hl, h1, h2⟩ | ⟨rfl, hr, hl, h1, h2⟩ | ⟨rfl, hr, hl, h1, h2⟩ | ⟨rfl, hr, hl, h1, h2⟩ <;> rw [hr] <;> unfold putV <;> rw [h1, h2] <;> rcases hk' with rfl | rfl | rfl | rfl <;> simp <;> omega
theorem take_byte {n a x : Int} (h : alP n a) (ha : 0 ≤ a) (hx : (0 ≤ x ∧ x < 4294967296)) (k : Nat) (hk : (k : Int) < n) :
    takeV n a x / 256 ^ k % 256 = x / 256 ^ ((a % 4).toNat + k) % 256 := by
  rcases al_facts h ha with ⟨rfl, hr, hl, h1, h2⟩ | ⟨rfl, hr, hl, h1, h2⟩ | ⟨rfl, hr, hl, h1, h2⟩ | ⟨rfl, hr, hl, h1, h2⟩ | ⟨rfl, hr, hl, h1, h2⟩ | ⟨rfl, hr, hl, h1, h2⟩ | ⟨rfl, hr, hl, h1, h2⟩ <;> rw [hr] <;> unfold takeV <;> rw [h1, h2] <;> rcases (show k = 0 ∨ k = 1 ∨ k = 2 ∨ k = 3 by omega) with rfl | rfl | rfl | rfl <;> simp <;> omega
theorem fit4 {n a : Int} (h : alP n a) (ha : 0 ≤ a) : 1 ≤ n ∧ a % 4 + n ≤ 4 := by
  rcases al_facts h ha with ⟨rfl, hr, _⟩ | ⟨rfl, hr, _⟩ | ⟨rfl, hr, _⟩ | ⟨rfl, hr, _⟩ | ⟨rfl, hr, _⟩ | ⟨rfl, hr, _⟩ | ⟨rfl, hr, _⟩ <;> omega
theorem hasB_iff {w : List Int} {off n : Int} : hasB (bytesW w).length off n ↔ hasP w.length off n := by
  unfold hasB hasP
  rw [bytesW_len]
  constructor <;> (rintro ⟨h1, h2, h3⟩; exact ⟨h1, by omega, h3⟩)
theorem getD_get {w : List Int} {j : Nat} (hj : j < w.length) : w[j]? = some (w.getD j 0) := by
  rw [List.getD_eq_getElem?_getD, List.getElem?_eq_getElem hj]; rfl
theorem bytes_wr {w : List Int} (hu : U32s w) {off n v : Int} (hv : (0 ≤ v ∧ v < 4294967296)) (h0 : hasP w.length off n) : bytesW (wrL w off n v) = wrB (bytesW w) off.toNat v n.toNat := by
  have hj : (off / 4).toNat < w.length := by have := h0.1; have := h0.2.1; omega
  have hf := fit4 h0.2.2 h0.1
  have hx := hu _ (List.mem_of_getElem? (getD_get hj))
  have ho := h0.1
  have ho2 := h0.2.1
  have hnn : ∀ x, x ∈ wrL w off n v → 0 ≤ x := by
    intro x hx'
    unfold wrL at hx'
    rw [if_pos h0] at hx'
    rcases List.mem_or_eq_of_mem_set hx' with hx' | rfl
    · exact (hu x hx').1
    · exact (putV_bd h0.2.2 h0.1 hx hv).1
  apply List.ext_getElem?
  intro m
  rw [bytesW_get _ _ hnn, wrB_get _ _ _ _ _ (by rw [bytesW_len]; omega), bytesW_get _ _ (fun x hx => (hu x hx).1)]
  unfold wrL
  rw [if_pos h0, List.getElem?_set]
  by_cases hm : (off / 4).toNat = m / 4
  · rw [if_pos hm, if_pos hj, ← hm, getD_get hj]
    show some (putV n off (w.getD (off / 4).toNat 0) v / 256 ^ (m % 4) % 256) = _
    rw [put_byte h0.2.2 h0.1 hx hv (m % 4) (Nat.mod_lt _ (by decide))]
    by_cases hin : off.toNat ≤ m ∧ m < off.toNat + n.toNat
    · rw [if_pos hin, if_pos (by omega), show m % 4 - (off % 4).toNat = m - off.toNat by omega]
    · rw [if_neg hin, if_neg (by omega)]
      rfl
  · rw [if_neg hm, if_neg (by omega)]
theorem bytes_rd {w : List Int} (hu : U32s w) {off n : Int} (h0 : hasP w.length off n) : takeV n off (w.getD (off / 4).toNat 0) = ofB (((bytesW w).drop off.toNat).take n.toNat) := by
  have hj : (off / 4).toNat < w.length := by have := h0.1; have := h0.2.1; omega
  have hf := fit4 h0.2.2 h0.1
  have hx := hu _ (List.mem_of_getElem? (getD_get hj))
  have ho := h0.1
  have ho2 := h0.2.1
  have ht : 0 ≤ takeV n off (w.getD (off / 4).toNat 0) ∧ takeV n off (w.getD (off / 4).toNat 0) < 4294967296 ∧ lowV n (takeV n off (w.getD (off / 4).toNat 0)) = takeV n off (w.getD (off / 4).toNat 0) := by
    rcases al_facts h0.2.2 h0.1 with ⟨rfl, hr, hl, h1, h2⟩ | ⟨rfl, hr, hl, h1, h2⟩ | ⟨rfl, hr, hl, h1, h2⟩ | ⟨rfl, hr, hl, h1, h2⟩ | ⟨rfl, hr, hl, h1, h2⟩ | ⟨rfl, hr, hl, h1, h2⟩ | ⟨rfl, hr, hl, h1, h2⟩ <;> unfold takeV <;> rw [h1, h2] <;> simp [lowV] <;> omega
  have e : ((bytesW w).drop off.toNat).take n.toNat = bytesV n.toNat (takeV n off (w.getD (off / 4).toNat 0)) := by
    apply List.ext_getElem?
    intro i
    by_cases hi : i < n.toNat
    · rw [List.getElem?_take_of_lt hi, List.getElem?_drop, bytesW_get _ _ (fun x hx => (hu x hx).1), bytesV_get _ _ _ ht.1 hi, show (off.toNat + i) / 4 = (off / 4).toNat by omega, getD_get hj, take_byte h0.2.2 h0.1 hx i (by omega), show (off % 4).toNat + i = (off.toNat + i) % 4 by omega]
      rfl
    · rw [List.getElem?_eq_none (by rw [List.length_take]; omega), List.getElem?_eq_none (by rw [bytesV_len]; omega)]
  rw [e, ofB_bytes h0.2.2.1 ht.1 ht.2.1, ht.2.2]
theorem bytesW_bd {w : List Int} : ∀ x, x ∈ bytesW w → 0 ≤ x ∧ x < 256 := by
  intro x hx
  obtain ⟨y, _, hy⟩ := List.mem_flatMap.1 hx
  exact bytesV_bd _ _ x hy
def s15 : Sp := fun vs H Q => match vs with
  | [.ptr (some (i, 0)), .ptr (some (j, 0)), .int .i64 off, .int .i64 n] => ((-9223372036854775808 ≤ off ∧ off < 9223372036854775808) ∧ (-9223372036854775808 ≤ n ∧ n < 9223372036854775808)) ∧ GLB H ∧ ∃ b w c, (RamAt H i b w ∧ RefAt H j c (bytesW w)) ∧Q (.bool true) H false false
  | _ => False
theorem m15 : Mono s15 := by
  intro vs H Q Q' hQ h
  unfold s15 at h ⊢
  split at h
  all_goals first
    | exact h.elim
    | (repeat' (first | exact hQ _ _ _ _ h | refine And.imp_right (fun h => ?_) h | refine Exists.imp (fun _ h => ?_) h | (intro z; replace h := h z)))
theorem k15 : Snd Tryd.prog 2 15 s15 := by
  refine snd_of_ev (by kernel_rfl) (C := tab [(10, s10), (29, s29)]) (sndC_cons k10 (sndC_cons k29 (sndC_nil))) x15 n15 c15 30 ?_
  intro vs H Q hs
  unfold s15 at hs
  split at hs
  · rename_i i j off n
    obtain ⟨hp, hs⟩ := hs
    obtain ⟨hg, hs⟩ := hs
    obtain ⟨b, w, c, ⟨hr, hf⟩, hq⟩ := hs
    by_cases h0 : hasP w.length off n; (have h1 := hasB_iff.2 h0; have h2 := bytes_rd hr.u h0)
    all_goals
      repeat' (conv => whnf
               first
               | (refine Stop.mk ?_)
               | (refine fO_is (decide_eq_true h0) ?_)
               | (refine fO_is (decide_eq_false h0) ?_)
               | (refine fO_is (decide_eq_true h1) ?_)
               | (refine fO_is (decide_eq_false (fun h => h0 (hasB_iff.1 h))) ?_)
               | (refine fI_is ((if_pos h0).trans h2) ?_)
               | (refine fI_is (if_pos h1) ?_)
               | (refine fI_is (if_neg h0) ?_)
               | (refine fI_is (if_neg (fun h => h0 (hasB_iff.1 h))) ?_)
               | (refine fO_is (beq_self_eq_true _) ?_)
               | (refine fI_gen ?_; intro z hz)
               | (refine fO_gen ?_; intro z hz)
               | (refine ⟨hp.1, hg, _, _, hr, ?_⟩)
               | (refine ⟨hp, _, _, hf, ?_⟩)
               | (refine dec_true (by assumption) ?_)
               | (refine dec_false (by assumption) ?_)
               | (refine dec_split (fun h => ?_) (fun h => ?_))
               | (apply silE)
               | (exact And.intro rfl (And.intro rfl (And.intro rfl rfl)))
               | (refine And.intro (by first | omega | ((simp only [decide_eq_true_eq, decide_eq_false_iff_not, Bool.and_eq_true, beq_iff_eq, Bool.not_eq_true', Bool.not_eq_false'] at *); omega) | (subst_vars; simp only [Int.ofNat_eq_natCast, tq_not, fq_not, tq_and, fq_and, tq_or, fq_or, tq_beq, fq_beq, tq_bne, fq_bne, tq_dec, fq_dec, one1, V.tup.injEq, V.agg.injEq, List.cons.injEq, V.int.injEq, V.bool.injEq, true_and, and_true, decide_eq_true_eq, decide_eq_false_iff_not, Bool.and_eq_true, Bool.and_eq_false_iff, Bool.or_eq_true, Bool.or_eq_false_iff, Bool.not_eq_true', Bool.not_eq_false', beq_iff_eq, wrap_u32, wrap_i64, wrap_u8, beq_eq_false_iff_ne, ne_eq, bne_iff_ne, bne_eq_false_iff_eq, eq_self, and_self, splice, V.cells, List.take_succ_cons, List.take_zero, List.take_nil, List.drop_zero, List.drop_succ_cons, List.drop_nil, List.cons_append, List.nil_append, List.append_nil, List.length_cons, List.length_nil, Nat.zero_add, Nat.reduceAdd, if_true, if_false, Bool.false_eq_true, beq_self_eq_true, decide_eq_decide, Bool.true_eq_false, or_false, false_or, or_true, true_or, and_false, false_and, not_true_eq_false, not_false_eq_true, Bool.and_true, Bool.true_and, Bool.not_true, Bool.not_false] at *; omega)) ?_)
               | (refine Exists.intro _ (Exists.intro _ (And.intro rfl ?_)))
               | (refine Exists.intro _ (And.intro rfl ?_))
               | (refine Exists.intro _ (Exists.intro _ (Exists.intro _ (Exists.intro _ (And.intro rfl ?_)))))
               | (refine ld_step rfl (by assumption) rfl ?_)
               | (refine lds_step rfl (by assumption) rfl ?_)
               | (refine fL_mk ?_)
               | (refine fH_mk ?_)
               | (refine fN_mk ?_)
               | (refine fLB_mk ?_)
               | (refine And.intro (by repeat (first | assumption | refine GLB_app ?_)) ?_)
               | (refine ld_step rfl ((rd_x0 _ _ _ _ _).trans rfl) rfl ?_)
               | (refine ld_step rfl ((rd_x1 _ _ _ _ _ _).trans rfl) rfl ?_)
               | (refine ld_step rfl ((rd_x2 _ _ _ _ _ _ _).trans rfl) rfl ?_)
               | (refine lds_step rfl ((rd_x0 _ _ _ _ _).trans rfl) rfl ?_)
               | (refine lds_step rfl ((rd_x1 _ _ _ _ _ _).trans rfl) rfl ?_)
               | (refine lds_step rfl ((rd_x2 _ _ _ _ _ _ _).trans rfl) rfl ?_)
               | (refine mem_step (st_eq rfl rfl rfl rfl (wr_last _ _ _ _ rfl)) ?_)
               | (refine drec_yes (by omega) ?_)
               | (refine drec_no (by omega) ?_)
               | (intro _)
               | fail)
      all_goals
        conv => whnf
        exact leafE hq rfl
  · exact hs.elim
end Go.Ev
