/- dev: slots: turned rows, the chapter's example -/
import Derived.Test.YtjabpdepaldkfaaKcount
set_option linter.all false
namespace Go.Ev
open Go Go.Proofs
set_option maxRecDepth 4000
set_option maxHeartbeats 4000000
/-- a result in a row of bytes of one's own -/
def OwnI (Hx : List B) (l : List Int) (Q : Post) : Prop :=
  ∀ (b cap : Nat) (X : List B) (ws : List V), Hx.length ≤ b → l.length ≤ cap → (Hx ++ X)[b]? = some (.rw 3 (l.flatMap encI ++ ws)) → ws.length = cap - l.length → Q (.sl (some (b, 0)) l.length cap) (Hx ++ X) false true
theorem OwnI.mono {Hx : List B} {l : List Int} {Q Q' : Post} (hQ : ∀ v H e g, Q v H e g → Q' v H e g) (h : OwnI Hx l Q) : OwnI Hx l Q' := fun b cap X ws h1 h2 h3 h4 => hQ _ _ _ _ (h b cap X ws h1 h2 h3 h4)
theorem own_outI {Hx X : List B} {l : List Int} {w : V} (h : Own Hx.length (Hx ++ X) 3 1 w (l.flatMap encI)) (hl : l ≠ []) :
    ∃ b cap ws, w = .sl (some (b, 0)) l.length cap ∧ Hx.length ≤ b ∧ l.length ≤ cap ∧ (Hx ++ X)[b]? = some (.rw 3 (l.flatMap encI ++ ws)) ∧ ws.length = cap - l.length := by
  obtain ⟨m, cap, h1, h2, h3⟩ := h
  rw [flat_len encI_len, Nat.mul_one, Nat.mul_one] at h1
  subst h1
  rcases h3 with ⟨_, h3⟩ | ⟨b, zs, rfl, h4, h5, h6, h7⟩
  · exact absurd (List.eq_nil_of_length_eq_zero h3) hl
  · exact ⟨b, cap, zs, rfl, h4, h5, h7, by rw [h6, Nat.mul_one]⟩
theorem eq_step {l m : List Int} {i : Nat} (hl : l.length = m.length) (ht : l.take i = m.take i) (hi : i < l.length) (he : l[i] = m[i]'(hl ▸ hi)) : l.take (i + 1) = m.take (i + 1) := by
  rw [List.take_succ_eq_append_getElem hi, List.take_succ_eq_append_getElem (hl ▸ hi), ht, he]
def SameS : Sp := fun vs H Q => match vs with
  | [.sl p n c, .sl p2 m d] => ∃ l l2 : List Int, n = l.length ∧ m = l2.length ∧ l.length ≤ 4096 ∧ l2.length ≤ 4096 ∧ RdI H p l ∧ RdI H p2 l2 ∧ Q (.bool (decide (l = l2))) H false false
  | _ => False
def s11 : Sp := SameS
theorem k11 : Snd Try.prog 0 11 s11 := by
  refine snd_of_ev (by kernel_rfl) (C := tab []) (sndC_nil) x11 n11 c11 5000 ?_
  have hC : MonoC (tab []) := monoC_nil
  intro vs Hx Q hs
  unfold s11 SameS at hs
  split at hs
  · rename_i p n c p2 m d
    obtain ⟨l, l2, rfl, rfl, hl, hl2, h1, h2, hq⟩ := hs
    by_cases hne : l.length = l2.length
    · have hb : ((l.length : Int) != (l2.length : Int)) = false := by rw [hne]; exact bne_self_eq_false _
      suffices hh : ∀ k, 4200 < k → evFun (tab []) k e11 [.sl p l.length c, .sl p2 l2.length d] Hx Q from hh _ (by omega)
      intro k hk
      refine evFun_in (tm := SV.v (.sl p l.length c) :: SV.v (.sl p2 l2.length d) :: undefV :: undefV :: undefV :: undefV :: undefV :: undefV :: undefV :: undefV :: undefV :: undefV :: undefV :: undefV :: undefV :: undefV :: undefV :: undefV :: undefV :: undefV :: undefV :: undefV :: undefV :: undefV :: undefV :: undefV :: []) rfl ?_
      show rC _ _ r11_0 _ _ _ _ _ _
      refine rC_seqH ?_
      repeat' (conv => whnf
               first
               | (refine Stop.mk ?_)
               | (refine fI_gen ?_; intro z hz)
               | (refine fO_gen ?_; intro z hz)
               | (refine dec_true (by assumption) ?_)
               | (refine dec_false (by assumption) ?_)
               | (refine dec_split (fun h => ?_) (fun h => ?_))
               | (apply silE)
               | (refine Both.mk ?_ ?_)
               | (refine And.intro rfl ?_)
               | (exact And.intro rfl (And.intro rfl (And.intro rfl rfl)))
               | (refine And.intro (by first | omega | ((simp only [decide_eq_true_eq, decide_eq_false_iff_not, Bool.and_eq_true, beq_iff_eq, Bool.not_eq_true', Bool.not_eq_false'] at *); omega) | (subst_vars; simp only [Int.ofNat_eq_natCast, tq_not, fq_not, tq_and, fq_and, tq_or, fq_or, tq_beq, fq_beq, tq_bne, fq_bne, tq_dec, fq_dec, one1, V.tup.injEq, V.agg.injEq, List.cons.injEq, V.int.injEq, V.bool.injEq, true_and, and_true, decide_eq_true_eq, decide_eq_false_iff_not, Bool.and_eq_true, Bool.and_eq_false_iff, Bool.or_eq_true, Bool.or_eq_false_iff, Bool.not_eq_true', Bool.not_eq_false', beq_iff_eq, wrap_u32, wrap_i64, wrap_u8, beq_eq_false_iff_ne, ne_eq, bne_iff_ne, bne_eq_false_iff_eq, eq_self, and_self, splice, V.cells, List.take_succ_cons, List.take_zero, List.take_nil, List.drop_zero, List.drop_succ_cons, List.drop_nil, List.cons_append, List.nil_append, List.append_nil, List.length_cons, List.length_nil, Nat.zero_add, Nat.reduceAdd, if_true, if_false, Bool.false_eq_true, beq_self_eq_true, decide_eq_decide, Bool.true_eq_false, or_false, false_or, or_true, true_or, and_false, false_and, not_true_eq_false, not_false_eq_true, Bool.and_true, Bool.true_and, Bool.not_true, Bool.not_false] at *; omega)) ?_)
               | (refine Exists.intro _ (Exists.intro _ (And.intro rfl ?_)))
               | (refine Exists.intro _ (And.intro rfl ?_))
               | (refine Exists.intro _ (Exists.intro _ (Exists.intro _ (Exists.intro _ (And.intro rfl ?_)))))
               | (refine ld_step rfl (by assumption) rfl ?_)
               | (refine lds_step rfl (by assumption) rfl ?_)
               | (refine fL_mk ?_)
               | (refine fH_mk ?_)
               | (refine fN_mk ?_)
               | (refine fLB_mk ?_)
               | (refine And.intro (by repeat (first | assumption | refine GLB_app ?_)) ?_)
               | (refine ld_step rfl ((rd_x0 _ _ _ _ _).trans rfl) rfl ?_)
               | (refine ld_step rfl ((rd_x1 _ _ _ _ _ _).trans rfl) rfl ?_)
               | (refine ld_step rfl ((rd_x2 _ _ _ _ _ _ _).trans rfl) rfl ?_)
               | (refine lds_step rfl ((rd_x0 _ _ _ _ _).trans rfl) rfl ?_)
               | (refine lds_step rfl ((rd_x1 _ _ _ _ _ _).trans rfl) rfl ?_)
               | (refine lds_step rfl ((rd_x2 _ _ _ _ _ _ _).trans rfl) rfl ?_)
               | (refine mem_step (st_eq rfl rfl rfl rfl (wr_last _ _ _ _ rfl)) ?_)
               | (refine drec_yes (by omega) ?_)
               | (refine drec_no (by omega) ?_)
               | (intro _)
               | fail)
      any_goals refine Halt.mk ?_
      any_goals show rC _ _ r11_1 _ _ _ _ _ _
      refine rC_seqH ?_
      repeat' (conv => whnf
               first
               | (refine Stop.mk ?_)
               | (with_reducible refine fI_is (a := (l.length : Int)) rfl ?_)
               | (with_reducible refine fI_is (a := (l2.length : Int)) rfl ?_)
               | (refine fO_is hb ?_)
               | (refine fI_gen ?_; intro z hz)
               | (refine fO_gen ?_; intro z hz)
               | (refine dec_true (by assumption) ?_)
               | (refine dec_false (by assumption) ?_)
               | (refine dec_split (fun h => ?_) (fun h => ?_))
               | (apply silE)
               | (refine Both.mk ?_ ?_)
               | (refine And.intro rfl ?_)
               | (exact And.intro rfl (And.intro rfl (And.intro rfl rfl)))
               | (refine And.intro (by first | omega | ((simp only [decide_eq_true_eq, decide_eq_false_iff_not, Bool.and_eq_true, beq_iff_eq, Bool.not_eq_true', Bool.not_eq_false'] at *); omega) | (subst_vars; simp only [Int.ofNat_eq_natCast, tq_not, fq_not, tq_and, fq_and, tq_or, fq_or, tq_beq, fq_beq, tq_bne, fq_bne, tq_dec, fq_dec, one1, V.tup.injEq, V.agg.injEq, List.cons.injEq, V.int.injEq, V.bool.injEq, true_and, and_true, decide_eq_true_eq, decide_eq_false_iff_not, Bool.and_eq_true, Bool.and_eq_false_iff, Bool.or_eq_true, Bool.or_eq_false_iff, Bool.not_eq_true', Bool.not_eq_false', beq_iff_eq, wrap_u32, wrap_i64, wrap_u8, beq_eq_false_iff_ne, ne_eq, bne_iff_ne, bne_eq_false_iff_eq, eq_self, and_self, splice, V.cells, List.take_succ_cons, List.take_zero, List.take_nil, List.drop_zero, List.drop_succ_cons, List.drop_nil, List.cons_append, List.nil_append, List.append_nil, List.length_cons, List.length_nil, Nat.zero_add, Nat.reduceAdd, if_true, if_false, Bool.false_eq_true, beq_self_eq_true, decide_eq_decide, Bool.true_eq_false, or_false, false_or, or_true, true_or, and_false, false_and, not_true_eq_false, not_false_eq_true, Bool.and_true, Bool.true_and, Bool.not_true, Bool.not_false] at *; omega)) ?_)
               | (refine Exists.intro _ (Exists.intro _ (And.intro rfl ?_)))
               | (refine Exists.intro _ (And.intro rfl ?_))
               | (refine Exists.intro _ (Exists.intro _ (Exists.intro _ (Exists.intro _ (And.intro rfl ?_)))))
               | (refine ld_step rfl (by assumption) rfl ?_)
               | (refine lds_step rfl (by assumption) rfl ?_)
               | (refine fL_mk ?_)
               | (refine fH_mk ?_)
               | (refine fN_mk ?_)
               | (refine fLB_mk ?_)
               | (refine And.intro (by repeat (first | assumption | refine GLB_app ?_)) ?_)
               | (refine ld_step rfl ((rd_x0 _ _ _ _ _).trans rfl) rfl ?_)
               | (refine ld_step rfl ((rd_x1 _ _ _ _ _ _).trans rfl) rfl ?_)
               | (refine ld_step rfl ((rd_x2 _ _ _ _ _ _ _).trans rfl) rfl ?_)
               | (refine lds_step rfl ((rd_x0 _ _ _ _ _).trans rfl) rfl ?_)
               | (refine lds_step rfl ((rd_x1 _ _ _ _ _ _).trans rfl) rfl ?_)
               | (refine lds_step rfl ((rd_x2 _ _ _ _ _ _ _).trans rfl) rfl ?_)
               | (refine mem_step (st_eq rfl rfl rfl rfl (wr_last _ _ _ _ rfl)) ?_)
               | (refine drec_yes (by omega) ?_)
               | (refine drec_no (by omega) ?_)
               | (intro _)
               | fail)
      any_goals refine Halt.mk ?_
      any_goals show rC _ _ r11_2 _ _ _ _ _ _
      repeat' (conv => whnf
               first
               | (refine Stop.mk ?_)
               | (refine fI_mk ?_)
               | (refine fO_mk ?_)
               | (refine fN_mk ?_)
               | fail)
      conv => whnf
      refine rLoop_ctr (c := rC (tab []) k l11_0) l.length 5 (false :: false :: false :: false :: true :: false :: false :: false :: false :: false :: false :: true :: true :: true :: true :: true :: true :: true :: true :: true :: true :: true :: true :: true :: true :: true :: []) (fun i tm L H e g => l.take i = l2.take i ∧ L = [] ∧ H = Hx ∧ e = false ∧ g = false) (by omega) rfl ⟨by simp, rfl, rfl, rfl, rfl⟩ ?_
      intro i0 hi0
      conv => whnf
      intro j
      conv => whnf
      intro j
      conv => whnf
      intro j
      conv => whnf
      intro j
      conv => whnf
      intro j
      conv => whnf
      intro j
      conv => whnf
      intro j
      conv => whnf
      intro j
      conv => whnf
      intro j
      conv => whnf
      intro j
      conv => whnf
      intro j
      conv => whnf
      intro j
      conv => whnf
      intro j
      conv => whnf
      intro j
      conv => whnf
      intro j
      conv => whnf
      intro j
      conv => whnf
      refine Halt.mk ?_
      rintro L H' e g ⟨hti, rfl, rfl, rfl, rfl⟩ K kn kx kr
      repeat' (conv => whnf
               first
               | (refine Stop.mk ?_)
               | (refine fI_mk ?_)
               | (refine fO_mk ?_)
               | (refine fN_mk ?_)
               | fail)
      conv => whnf
      refine dec_split (fun h => ?_) (fun h => ?_)
      · have hlt : i0 < l.length := by have := of_decide_eq_true h; omega
        have hlt2 : i0 < l2.length := by omega
        obtain ⟨b, o, rfl⟩ := h1.some hlt
        obtain ⟨b2, o2, rfl⟩ := h2.some hlt2
        clear kx
        have e1 : ∀ p, p = o + i0 * 1 → rd H' b p 1 = some (encI l[i0]) := fun p hp => rd_el encI_len h1 i0 hlt p hp
        have e2 : ∀ p, p = o2 + i0 * 1 → rd H' b2 p 1 = some (encI l2[i0]) := fun p hp => rd_el encI_len h2 i0 hlt2 p hp
        by_cases hee : l[i0] = l2[i0]
        · have hbe : (l[i0] != l2[i0]) = false := by rw [hee]; exact bne_self_eq_false _
          clear kr
          repeat' (conv => whnf
                   first
                   | (refine Stop.mk ?_)
                   | (refine fO_is hbe ?_)
                   | (refine fI_i64 (by first | omega | (simp only [Int.ofNat_eq_natCast] at *; omega)) ?_; intro z hz)
                   | (refine fI_u32 (by first | omega | (simp only [Int.ofNat_eq_natCast] at *; omega)) ?_; intro z hz)
                   | (refine fI_u8 (by first | omega | (simp only [Int.ofNat_eq_natCast] at *; omega)) ?_; intro z hz)
                   | (refine fI_u64 (by first | omega | (simp only [Int.ofNat_eq_natCast] at *; omega)) ?_; intro z hz)
                   | (refine fI_tdiv (by first | omega | (simp only [Int.ofNat_eq_natCast] at *; omega)) ?_; intro z hz)
                   | (refine fI_tmod (by first | omega | (simp only [Int.ofNat_eq_natCast] at *; omega)) ?_; intro z hz)
                   | (refine fI_gen ?_; intro z hz)
                   | (refine fO_gen ?_; intro z hz)
                   | (refine pure_step (ixs_eq rfl rfl (by omega) (show _ < (l.length : Int) by omega)) ?_)
                   | (refine pure_step (ixs_eq rfl rfl (by omega) (show _ < (l2.length : Int) by omega)) ?_)
                   | (refine lds_step rfl (e1 _ (by first | omega | rfl)) rfl ?_)
                   | (refine lds_step rfl (e2 _ (by first | omega | rfl)) rfl ?_)
                   | (refine ld_step rfl (e1 _ (by first | omega | rfl)) rfl ?_)
                   | (refine ld_step rfl (e2 _ (by first | omega | rfl)) rfl ?_)
                   | (refine dec_true (by assumption) ?_)
                   | (refine dec_false (by assumption) ?_)
                   | (refine dec_split (fun h => ?_) (fun h => ?_))
                   | (apply silE)
                   | (refine Both.mk ?_ ?_)
                   | (refine And.intro rfl ?_)
                   | (exact And.intro rfl (And.intro rfl (And.intro rfl rfl)))
                   | (refine And.intro (by first | omega | ((simp only [decide_eq_true_eq, decide_eq_false_iff_not, Bool.and_eq_true, beq_iff_eq, Bool.not_eq_true', Bool.not_eq_false'] at *); omega) | (subst_vars; simp only [Int.ofNat_eq_natCast, tq_not, fq_not, tq_and, fq_and, tq_or, fq_or, tq_beq, fq_beq, tq_bne, fq_bne, tq_dec, fq_dec, one1, V.tup.injEq, V.agg.injEq, List.cons.injEq, V.int.injEq, V.bool.injEq, true_and, and_true, decide_eq_true_eq, decide_eq_false_iff_not, Bool.and_eq_true, Bool.and_eq_false_iff, Bool.or_eq_true, Bool.or_eq_false_iff, Bool.not_eq_true', Bool.not_eq_false', beq_iff_eq, wrap_u32, wrap_i64, wrap_u8, beq_eq_false_iff_ne, ne_eq, bne_iff_ne, bne_eq_false_iff_eq, eq_self, and_self, splice, V.cells, List.take_succ_cons, List.take_zero, List.take_nil, List.drop_zero, List.drop_succ_cons, List.drop_nil, List.cons_append, List.nil_append, List.append_nil, List.length_cons, List.length_nil, Nat.zero_add, Nat.reduceAdd, if_true, if_false, Bool.false_eq_true, beq_self_eq_true, decide_eq_decide, Bool.true_eq_false, or_false, false_or, or_true, true_or, and_false, false_and, not_true_eq_false, not_false_eq_true, Bool.and_true, Bool.true_and, Bool.not_true, Bool.not_false] at *; omega)) ?_)
                   | (refine Exists.intro _ (Exists.intro _ (And.intro rfl ?_)))
                   | (refine Exists.intro _ (And.intro rfl ?_))
                   | (refine Exists.intro _ (Exists.intro _ (Exists.intro _ (Exists.intro _ (And.intro rfl ?_)))))
                   | (refine ld_step rfl (by assumption) rfl ?_)
                   | (refine lds_step rfl (by assumption) rfl ?_)
                   | (refine fL_mk ?_)
                   | (refine fH_mk ?_)
                   | (refine fN_mk ?_)
                   | (refine fLB_mk ?_)
                   | (refine And.intro (by repeat (first | assumption | refine GLB_app ?_)) ?_)
                   | (refine ld_step rfl ((rd_x0 _ _ _ _ _).trans rfl) rfl ?_)
                   | (refine ld_step rfl ((rd_x1 _ _ _ _ _ _).trans rfl) rfl ?_)
                   | (refine ld_step rfl ((rd_x2 _ _ _ _ _ _ _).trans rfl) rfl ?_)
                   | (refine lds_step rfl ((rd_x0 _ _ _ _ _).trans rfl) rfl ?_)
                   | (refine lds_step rfl ((rd_x1 _ _ _ _ _ _).trans rfl) rfl ?_)
                   | (refine lds_step rfl ((rd_x2 _ _ _ _ _ _ _).trans rfl) rfl ?_)
                   | (refine mem_step (st_eq rfl rfl rfl rfl (wr_last _ _ _ _ rfl)) ?_)
                   | (refine drec_yes (by omega) ?_)
                   | (refine drec_no (by omega) ?_)
                   | (intro _)
                   | fail)
          conv => whnf
          subst hz
          exact kn hlt _ _ _ _ _ rfl ⟨eq_step hne hti hlt hee, rfl, rfl, rfl, rfl⟩
        · have hbe : (l[i0] != l2[i0]) = true := by simpa using hee
          clear kn
          repeat' (conv => whnf
                   first
                   | (refine Stop.mk ?_)
                   | (refine fO_is hbe ?_)
                   | (refine fI_i64 (by first | omega | (simp only [Int.ofNat_eq_natCast] at *; omega)) ?_; intro z hz)
                   | (refine fI_u32 (by first | omega | (simp only [Int.ofNat_eq_natCast] at *; omega)) ?_; intro z hz)
                   | (refine fI_u8 (by first | omega | (simp only [Int.ofNat_eq_natCast] at *; omega)) ?_; intro z hz)
                   | (refine fI_u64 (by first | omega | (simp only [Int.ofNat_eq_natCast] at *; omega)) ?_; intro z hz)
                   | (refine fI_tdiv (by first | omega | (simp only [Int.ofNat_eq_natCast] at *; omega)) ?_; intro z hz)
                   | (refine fI_tmod (by first | omega | (simp only [Int.ofNat_eq_natCast] at *; omega)) ?_; intro z hz)
                   | (refine fI_gen ?_; intro z hz)
                   | (refine fO_gen ?_; intro z hz)
                   | (refine pure_step (ixs_eq rfl rfl (by omega) (show _ < (l.length : Int) by omega)) ?_)
                   | (refine pure_step (ixs_eq rfl rfl (by omega) (show _ < (l2.length : Int) by omega)) ?_)
                   | (refine lds_step rfl (e1 _ (by first | omega | rfl)) rfl ?_)
                   | (refine lds_step rfl (e2 _ (by first | omega | rfl)) rfl ?_)
                   | (refine ld_step rfl (e1 _ (by first | omega | rfl)) rfl ?_)
                   | (refine ld_step rfl (e2 _ (by first | omega | rfl)) rfl ?_)
                   | (refine dec_true (by assumption) ?_)
                   | (refine dec_false (by assumption) ?_)
                   | (refine dec_split (fun h => ?_) (fun h => ?_))
                   | (apply silE)
                   | (refine Both.mk ?_ ?_)
                   | (refine And.intro rfl ?_)
                   | (exact And.intro rfl (And.intro rfl (And.intro rfl rfl)))
                   | (refine And.intro (by first | omega | ((simp only [decide_eq_true_eq, decide_eq_false_iff_not, Bool.and_eq_true, beq_iff_eq, Bool.not_eq_true', Bool.not_eq_false'] at *); omega) | (subst_vars; simp only [Int.ofNat_eq_natCast, tq_not, fq_not, tq_and, fq_and, tq_or, fq_or, tq_beq, fq_beq, tq_bne, fq_bne, tq_dec, fq_dec, one1, V.tup.injEq, V.agg.injEq, List.cons.injEq, V.int.injEq, V.bool.injEq, true_and, and_true, decide_eq_true_eq, decide_eq_false_iff_not, Bool.and_eq_true, Bool.and_eq_false_iff, Bool.or_eq_true, Bool.or_eq_false_iff, Bool.not_eq_true', Bool.not_eq_false', beq_iff_eq, wrap_u32, wrap_i64, wrap_u8, beq_eq_false_iff_ne, ne_eq, bne_iff_ne, bne_eq_false_iff_eq, eq_self, and_self, splice, V.cells, List.take_succ_cons, List.take_zero, List.take_nil, List.drop_zero, List.drop_succ_cons, List.drop_nil, List.cons_append, List.nil_append, List.append_nil, List.length_cons, List.length_nil, Nat.zero_add, Nat.reduceAdd, if_true, if_false, Bool.false_eq_true, beq_self_eq_true, decide_eq_decide, Bool.true_eq_false, or_false, false_or, or_true, true_or, and_false, false_and, not_true_eq_false, not_false_eq_true, Bool.and_true, Bool.true_and, Bool.not_true, Bool.not_false] at *; omega)) ?_)
                   | (refine Exists.intro _ (Exists.intro _ (And.intro rfl ?_)))
                   | (refine Exists.intro _ (And.intro rfl ?_))
                   | (refine Exists.intro _ (Exists.intro _ (Exists.intro _ (Exists.intro _ (And.intro rfl ?_)))))
                   | (refine ld_step rfl (by assumption) rfl ?_)
                   | (refine lds_step rfl (by assumption) rfl ?_)
                   | (refine fL_mk ?_)
                   | (refine fH_mk ?_)
                   | (refine fN_mk ?_)
                   | (refine fLB_mk ?_)
                   | (refine And.intro (by repeat (first | assumption | refine GLB_app ?_)) ?_)
                   | (refine ld_step rfl ((rd_x0 _ _ _ _ _).trans rfl) rfl ?_)
                   | (refine ld_step rfl ((rd_x1 _ _ _ _ _ _).trans rfl) rfl ?_)
                   | (refine ld_step rfl ((rd_x2 _ _ _ _ _ _ _).trans rfl) rfl ?_)
                   | (refine lds_step rfl ((rd_x0 _ _ _ _ _).trans rfl) rfl ?_)
                   | (refine lds_step rfl ((rd_x1 _ _ _ _ _ _).trans rfl) rfl ?_)
                   | (refine lds_step rfl ((rd_x2 _ _ _ _ _ _ _).trans rfl) rfl ?_)
                   | (refine mem_step (st_eq rfl rfl rfl rfl (wr_last _ _ _ _ rfl)) ?_)
                   | (refine drec_yes (by omega) ?_)
                   | (refine drec_no (by omega) ?_)
                   | (intro _)
                   | fail)
          conv => whnf
          refine kr _ _ _ _ _ ?_
          conv => whnf
          refine leafE hq ?_
          rw [decide_eq_false (show ¬ l = l2 from fun hh => hee (by subst hh; rfl))]
          rfl
      · clear kn kr
        have hie : i0 = l.length := by have := of_decide_eq_false h; omega
        subst hie
        have hll : l = l2 := by have h3 := hti; rw [List.take_length, hne, List.take_length] at h3; exact h3
        repeat' (conv => whnf
                 first
                 | (refine Stop.mk ?_)
                 | (refine fI_gen ?_; intro z hz)
                 | (refine fO_gen ?_; intro z hz)
                 | (refine kx _ _ _ _ _ _ ?_)
                 | (refine dec_true (by assumption) ?_)
                 | (refine dec_false (by assumption) ?_)
                 | (refine dec_split (fun h => ?_) (fun h => ?_))
                 | (apply silE)
                 | (refine Both.mk ?_ ?_)
                 | (refine And.intro rfl ?_)
                 | (exact And.intro rfl (And.intro rfl (And.intro rfl rfl)))
                 | (refine And.intro (by first | omega | ((simp only [decide_eq_true_eq, decide_eq_false_iff_not, Bool.and_eq_true, beq_iff_eq, Bool.not_eq_true', Bool.not_eq_false'] at *); omega) | (subst_vars; simp only [Int.ofNat_eq_natCast, tq_not, fq_not, tq_and, fq_and, tq_or, fq_or, tq_beq, fq_beq, tq_bne, fq_bne, tq_dec, fq_dec, one1, V.tup.injEq, V.agg.injEq, List.cons.injEq, V.int.injEq, V.bool.injEq, true_and, and_true, decide_eq_true_eq, decide_eq_false_iff_not, Bool.and_eq_true, Bool.and_eq_false_iff, Bool.or_eq_true, Bool.or_eq_false_iff, Bool.not_eq_true', Bool.not_eq_false', beq_iff_eq, wrap_u32, wrap_i64, wrap_u8, beq_eq_false_iff_ne, ne_eq, bne_iff_ne, bne_eq_false_iff_eq, eq_self, and_self, splice, V.cells, List.take_succ_cons, List.take_zero, List.take_nil, List.drop_zero, List.drop_succ_cons, List.drop_nil, List.cons_append, List.nil_append, List.append_nil, List.length_cons, List.length_nil, Nat.zero_add, Nat.reduceAdd, if_true, if_false, Bool.false_eq_true, beq_self_eq_true, decide_eq_decide, Bool.true_eq_false, or_false, false_or, or_true, true_or, and_false, false_and, not_true_eq_false, not_false_eq_true, Bool.and_true, Bool.true_and, Bool.not_true, Bool.not_false] at *; omega)) ?_)
                 | (refine Exists.intro _ (Exists.intro _ (And.intro rfl ?_)))
                 | (refine Exists.intro _ (And.intro rfl ?_))
                 | (refine Exists.intro _ (Exists.intro _ (Exists.intro _ (Exists.intro _ (And.intro rfl ?_)))))
                 | (refine ld_step rfl (by assumption) rfl ?_)
                 | (refine lds_step rfl (by assumption) rfl ?_)
                 | (refine fL_mk ?_)
                 | (refine fH_mk ?_)
                 | (refine fN_mk ?_)
                 | (refine fLB_mk ?_)
                 | (refine And.intro (by repeat (first | assumption | refine GLB_app ?_)) ?_)
                 | (refine ld_step rfl ((rd_x0 _ _ _ _ _).trans rfl) rfl ?_)
                 | (refine ld_step rfl ((rd_x1 _ _ _ _ _ _).trans rfl) rfl ?_)
                 | (refine ld_step rfl ((rd_x2 _ _ _ _ _ _ _).trans rfl) rfl ?_)
                 | (refine lds_step rfl ((rd_x0 _ _ _ _ _).trans rfl) rfl ?_)
                 | (refine lds_step rfl ((rd_x1 _ _ _ _ _ _).trans rfl) rfl ?_)
                 | (refine lds_step rfl ((rd_x2 _ _ _ _ _ _ _).trans rfl) rfl ?_)
                 | (refine mem_step (st_eq rfl rfl rfl rfl (wr_last _ _ _ _ rfl)) ?_)
                 | (refine drec_yes (by omega) ?_)
                 | (refine drec_no (by omega) ?_)
                 | (intro _)
                 | fail)
        conv => whnf
        refine leafE hq ?_
        rw [decide_eq_true hll]
        rfl
    · have hb : ((l.length : Int) != (l2.length : Int)) = true := by simp; omega
      repeat' (conv => whnf
               first
               | (refine Stop.mk ?_)
               | (with_reducible refine fI_is (a := (l.length : Int)) rfl ?_)
               | (with_reducible refine fI_is (a := (l2.length : Int)) rfl ?_)
               | (refine fO_is hb ?_)
               | (refine fI_gen ?_; intro z hz)
               | (refine fO_gen ?_; intro z hz)
               | (refine dec_true (by assumption) ?_)
               | (refine dec_false (by assumption) ?_)
               | (refine dec_split (fun h => ?_) (fun h => ?_))
               | (apply silE)
               | (refine Both.mk ?_ ?_)
               | (refine And.intro rfl ?_)
               | (exact And.intro rfl (And.intro rfl (And.intro rfl rfl)))
               | (refine And.intro (by first | omega | ((simp only [decide_eq_true_eq, decide_eq_false_iff_not, Bool.and_eq_true, beq_iff_eq, Bool.not_eq_true', Bool.not_eq_false'] at *); omega) | (subst_vars; simp only [Int.ofNat_eq_natCast, tq_not, fq_not, tq_and, fq_and, tq_or, fq_or, tq_beq, fq_beq, tq_bne, fq_bne, tq_dec, fq_dec, one1, V.tup.injEq, V.agg.injEq, List.cons.injEq, V.int.injEq, V.bool.injEq, true_and, and_true, decide_eq_true_eq, decide_eq_false_iff_not, Bool.and_eq_true, Bool.and_eq_false_iff, Bool.or_eq_true, Bool.or_eq_false_iff, Bool.not_eq_true', Bool.not_eq_false', beq_iff_eq, wrap_u32, wrap_i64, wrap_u8, beq_eq_false_iff_ne, ne_eq, bne_iff_ne, bne_eq_false_iff_eq, eq_self, and_self, splice, V.cells, List.take_succ_cons, List.take_zero, List.take_nil, List.drop_zero, List.drop_succ_cons, List.drop_nil, List.cons_append, List.nil_append, List.append_nil, List.length_cons, List.length_nil, Nat.zero_add, Nat.reduceAdd, if_true, if_false, Bool.false_eq_true, beq_self_eq_true, decide_eq_decide, Bool.true_eq_false, or_false, false_or, or_true, true_or, and_false, false_and, not_true_eq_false, not_false_eq_true, Bool.and_true, Bool.true_and, Bool.not_true, Bool.not_false] at *; omega)) ?_)
               | (refine Exists.intro _ (Exists.intro _ (And.intro rfl ?_)))
               | (refine Exists.intro _ (And.intro rfl ?_))
               | (refine Exists.intro _ (Exists.intro _ (Exists.intro _ (Exists.intro _ (And.intro rfl ?_)))))
               | (refine ld_step rfl (by assumption) rfl ?_)
               | (refine lds_step rfl (by assumption) rfl ?_)
               | (refine fL_mk ?_)
               | (refine fH_mk ?_)
               | (refine fN_mk ?_)
               | (refine fLB_mk ?_)
               | (refine And.intro (by repeat (first | assumption | refine GLB_app ?_)) ?_)
               | (refine ld_step rfl ((rd_x0 _ _ _ _ _).trans rfl) rfl ?_)
               | (refine ld_step rfl ((rd_x1 _ _ _ _ _ _).trans rfl) rfl ?_)
               | (refine ld_step rfl ((rd_x2 _ _ _ _ _ _ _).trans rfl) rfl ?_)
               | (refine lds_step rfl ((rd_x0 _ _ _ _ _).trans rfl) rfl ?_)
               | (refine lds_step rfl ((rd_x1 _ _ _ _ _ _).trans rfl) rfl ?_)
               | (refine lds_step rfl ((rd_x2 _ _ _ _ _ _ _).trans rfl) rfl ?_)
               | (refine mem_step (st_eq rfl rfl rfl rfl (wr_last _ _ _ _ rfl)) ?_)
               | (refine drec_yes (by omega) ?_)
               | (refine drec_no (by omega) ?_)
               | (intro _)
               | fail)
      conv => whnf
      refine leafE hq ?_
      rw [decide_eq_false (show ¬ l = l2 from fun hh => hne (by rw [hh]))]
      rfl
  · exact hs.elim
/-- 'append' of zeros to nothing -/
theorem appz_nil {tm : List SV} {L : List LB} {H : List B} {e g : Bool} {ty : TypeId} {bytes : Nat} {zs : List V} {x y : Opd} {K : KV} {k : IntKind} {l : Int} (hx : x.val tm = some (.sl none 0 0)) (hy : y.val tm = some (.int k l)) (hl : 0 < l ∧ l ≤ 4096) (hb : bytes ≤ 64)
    (hK : ∀ c, l.toNat ≤ c + 1 → K (.v (.sl (some (H.length, 0)) l.toNat (c + 1))) L (H ++ [.rw ty (reps l.toNat zs ++ reps (c + 1 - l.toNat) zs)]) e true) : AtApp (evApp tm L H e g ty 0 bytes zs x y K) := by
  refine AtApp.mk ?_
  show evAppz tm L H e ty bytes zs x y K
  unfold evAppz
  rw [hx, hy]
  refine ⟨hl.1, by omega, ?_⟩
  have hbb : (0 + l.toNat) * bytes ≤ 4096 * 64 := Nat.mul_le_mul (by omega) hb
  refine ⟨by omega, by omega, fun c h1 h2 => ?_⟩
  obtain ⟨c, rfl⟩ : ∃ c', c = c' + 1 := ⟨c - 1, by omega⟩
  have := hK c (by omega)
  simpa only [Nat.zero_add, List.nil_append] using this
def s24 : Sp := fun vs H Q => match vs with
  | [.sl none 0 0, .int .i64 n] => (1 ≤ n ∧ n ≤ 4096) ∧ ∀ (cap : Nat) (zs : List V), n.toNat ≤ cap → zs.length = cap → Q (.sl (some (H.length, 0)) 0 cap) (H ++ [.rw 3 zs]) false true
  | _ => False
theorem m24 : Mono s24 := by
  intro vs H Q Q' hQ h
  unfold s24 at h ⊢
  split at h
  all_goals first
    | exact h.elim
    | (repeat' (first | exact hQ _ _ _ _ h | refine And.imp_right (fun h => ?_) h | refine Exists.imp (fun _ h => ?_) h | (intro z; replace h := h z)))
theorem k24 : Snd Try.prog 0 24 s24 := by
  refine snd_of_ev (by kernel_rfl) (C := tab []) (sndC_nil) x24 n24 c24 30 ?_
  intro vs H Q hs
  unfold s24 at hs
  split at hs
  · rename_i n
    obtain ⟨hn, hq⟩ := hs
    repeat' (conv => whnf
             first
             | (refine Stop.mk ?_)
             | (refine fI_i64 (by first | omega | (simp only [Int.ofNat_eq_natCast] at *; omega)) ?_; intro z hz)
             | (refine fI_u32 (by first | omega | (simp only [Int.ofNat_eq_natCast] at *; omega)) ?_; intro z hz)
             | (refine fI_u8 (by first | omega | (simp only [Int.ofNat_eq_natCast] at *; omega)) ?_; intro z hz)
             | (refine fI_u64 (by first | omega | (simp only [Int.ofNat_eq_natCast] at *; omega)) ?_; intro z hz)
             | (refine fI_tdiv (by first | omega | (simp only [Int.ofNat_eq_natCast] at *; omega)) ?_; intro z hz)
             | (refine fI_tmod (by first | omega | (simp only [Int.ofNat_eq_natCast] at *; omega)) ?_; intro z hz)
             | (refine fI_gen ?_; intro z hz)
             | (refine fO_gen ?_; intro z hz)
             | (refine appz_nil rfl rfl (by simp only [Int.ofNat_eq_natCast] at *; omega) (by decide) ?_; intro c hc)
             | (refine dec_true (by assumption) ?_)
             | (refine dec_false (by assumption) ?_)
             | ((with_reducible refine dec_trueH ?tst ?_); (case tst => (first | rfl | ((try clear hC); (try clear kn); (try clear kx); (try clear kr); (try clear kn1); (try clear kx1); (try clear kr1); (try clear kn2); (try clear kx2); (try clear kr2); (try clear kn3); (try clear kx3); (try clear kr3); subst_vars; simp only [Int.ofNat_eq_natCast, tq_not, fq_not, tq_and, fq_and, tq_or, fq_or, tq_beq, fq_beq, tq_bne, fq_bne, tq_dec, fq_dec, one1, V.tup.injEq, V.agg.injEq, List.cons.injEq, V.int.injEq, V.bool.injEq, true_and, and_true, decide_eq_true_eq, decide_eq_false_iff_not, Bool.and_eq_true, Bool.and_eq_false_iff, Bool.or_eq_true, Bool.or_eq_false_iff, Bool.not_eq_true', Bool.not_eq_false', beq_iff_eq, wrap_u32, wrap_i64, wrap_u8, beq_eq_false_iff_ne, ne_eq, bne_iff_ne, bne_eq_false_iff_eq, eq_self, and_self, splice, V.cells, List.take_succ_cons, List.take_zero, List.take_nil, List.drop_zero, List.drop_succ_cons, List.drop_nil, List.cons_append, List.nil_append, List.append_nil, List.length_cons, List.length_nil, Nat.zero_add, Nat.reduceAdd, if_true, if_false, Bool.false_eq_true, beq_self_eq_true, decide_eq_decide, Bool.true_eq_false, or_false, false_or, or_true, true_or, and_false, false_and, not_true_eq_false, not_false_eq_true, Bool.and_true, Bool.true_and, Bool.not_true, Bool.not_false] at *; first | done | assumption | omega))); intro h)
             | ((with_reducible refine dec_falseH ?tst ?_); (case tst => (first | rfl | ((try clear hC); (try clear kn); (try clear kx); (try clear kr); (try clear kn1); (try clear kx1); (try clear kr1); (try clear kn2); (try clear kx2); (try clear kr2); (try clear kn3); (try clear kx3); (try clear kr3); subst_vars; simp only [Int.ofNat_eq_natCast, tq_not, fq_not, tq_and, fq_and, tq_or, fq_or, tq_beq, fq_beq, tq_bne, fq_bne, tq_dec, fq_dec, one1, V.tup.injEq, V.agg.injEq, List.cons.injEq, V.int.injEq, V.bool.injEq, true_and, and_true, decide_eq_true_eq, decide_eq_false_iff_not, Bool.and_eq_true, Bool.and_eq_false_iff, Bool.or_eq_true, Bool.or_eq_false_iff, Bool.not_eq_true', Bool.not_eq_false', beq_iff_eq, wrap_u32, wrap_i64, wrap_u8, beq_eq_false_iff_ne, ne_eq, bne_iff_ne, bne_eq_false_iff_eq, eq_self, and_self, splice, V.cells, List.take_succ_cons, List.take_zero, List.take_nil, List.drop_zero, List.drop_succ_cons, List.drop_nil, List.cons_append, List.nil_append, List.append_nil, List.length_cons, List.length_nil, Nat.zero_add, Nat.reduceAdd, if_true, if_false, Bool.false_eq_true, beq_self_eq_true, decide_eq_decide, Bool.true_eq_false, or_false, false_or, or_true, true_or, and_false, false_and, not_true_eq_false, not_false_eq_true, Bool.and_true, Bool.true_and, Bool.not_true, Bool.not_false] at *; first | done | assumption | omega))); intro h)
             | (refine dec_split (fun h => ?_) (fun h => ?_))
             | (apply silE)
             | (refine Both.mk ?_ ?_)
             | (refine And.intro rfl ?_)
             | (exact And.intro rfl (And.intro rfl (And.intro rfl rfl)))
             | (refine And.intro (by first | omega | ((simp only [decide_eq_true_eq, decide_eq_false_iff_not, Bool.and_eq_true, beq_iff_eq, Bool.not_eq_true', Bool.not_eq_false'] at *); omega) | (subst_vars; simp only [Int.ofNat_eq_natCast, tq_not, fq_not, tq_and, fq_and, tq_or, fq_or, tq_beq, fq_beq, tq_bne, fq_bne, tq_dec, fq_dec, one1, V.tup.injEq, V.agg.injEq, List.cons.injEq, V.int.injEq, V.bool.injEq, true_and, and_true, decide_eq_true_eq, decide_eq_false_iff_not, Bool.and_eq_true, Bool.and_eq_false_iff, Bool.or_eq_true, Bool.or_eq_false_iff, Bool.not_eq_true', Bool.not_eq_false', beq_iff_eq, wrap_u32, wrap_i64, wrap_u8, beq_eq_false_iff_ne, ne_eq, bne_iff_ne, bne_eq_false_iff_eq, eq_self, and_self, splice, V.cells, List.take_succ_cons, List.take_zero, List.take_nil, List.drop_zero, List.drop_succ_cons, List.drop_nil, List.cons_append, List.nil_append, List.append_nil, List.length_cons, List.length_nil, Nat.zero_add, Nat.reduceAdd, if_true, if_false, Bool.false_eq_true, beq_self_eq_true, decide_eq_decide, Bool.true_eq_false, or_false, false_or, or_true, true_or, and_false, false_and, not_true_eq_false, not_false_eq_true, Bool.and_true, Bool.true_and, Bool.not_true, Bool.not_false] at *; omega)) ?_)
             | (refine Exists.intro _ (Exists.intro _ (And.intro rfl ?_)))
             | (refine Exists.intro _ (And.intro rfl ?_))
             | (refine Exists.intro _ (Exists.intro _ (Exists.intro _ (Exists.intro _ (And.intro rfl ?_)))))
             | (refine ld_step rfl (by assumption) rfl ?_)
             | (refine lds_step rfl (by assumption) rfl ?_)
             | (refine fL_mk ?_)
             | (refine fH_mk ?_)
             | (refine fN_mk ?_)
             | (refine fLB_mk ?_)
             | (refine And.intro (by repeat (first | assumption | refine GLB_app ?_)) ?_)
             | (refine ld_step rfl ((rd_x0 _ _ _ _ _).trans rfl) rfl ?_)
             | (refine ld_step rfl ((rd_x1 _ _ _ _ _ _).trans rfl) rfl ?_)
             | (refine ld_step rfl ((rd_x2 _ _ _ _ _ _ _).trans rfl) rfl ?_)
             | (refine lds_step rfl ((rd_x0 _ _ _ _ _).trans rfl) rfl ?_)
             | (refine lds_step rfl ((rd_x1 _ _ _ _ _ _).trans rfl) rfl ?_)
             | (refine lds_step rfl ((rd_x2 _ _ _ _ _ _ _).trans rfl) rfl ?_)
             | (refine mem_step (st_eq rfl rfl rfl rfl (wr_last _ _ _ _ rfl)) ?_)
             | (refine drec_yes (by omega) ?_)
             | (refine drec_no (by omega) ?_)
             | (intro _)
             | fail)
    all_goals (conv => whnf)
    all_goals
      refine drec_no (by simp [one1, V.lt]) ?_
      subst_vars
      exact hq (c + 1) _ (by simp only [Int.ofNat_eq_natCast] at *; omega) (by simp [reps_len]; simp only [Int.ofNat_eq_natCast] at *; omega)
  · exact hs.elim
theorem encI_one (l : List Int) : (l.flatMap encI).all V.one = true := by
  induction l with
  | nil => rfl
  | cons a l ih => rw [List.flatMap_cons, List.all_append, ih]; rfl
theorem encI_lt (l : List Int) : V.ltL 0 (l.flatMap encI) = true := by
  rw [ltL_iff]
  intro v hv
  obtain ⟨x, _, hx⟩ := List.mem_flatMap.1 hv
  simp only [encI, List.mem_cons, List.not_mem_nil, or_false] at hx
  subst hx; rfl
theorem own_emptyI {H : List B} {cap : Nat} {zs : List V} (h : zs.length = cap) : Own H.length (H ++ [.rw 3 zs]) 3 1 (.sl (some (H.length, 0)) 0 cap) ([] : List V) :=
  ⟨0, cap, rfl, rfl, Or.inr ⟨H.length, zs, rfl, Nat.le_refl _, Nat.zero_le _, by simpa using h, List.getElem?_concat_length⟩⟩
def s18 : Sp := fun vs H Q => match vs with
  | [.sl (some (b, o)) 2 cp] => ∃ (p1 p2 : Nat × Nat) (c1 c2 : Nat) (l1 l2 : List Int), rd H b o 2 = some [.sl (some p1) l1.length c1, .sl (some p2) l2.length c2] ∧ (RdI H (some p1) l1 ∧ RdI H (some p2) l2) ∧ (1 ≤ l1.length ∧ 1 ≤ l2.length ∧ l1.length + l2.length ≤ 4096) ∧ OwnI H (l1 ++ l2) Q
  | _ => False
theorem m18 : Mono s18 := by
  intro vs H Q Q' hQ h
  unfold s18 at h ⊢
  split at h
  · obtain ⟨p1, p2, c1, c2, l1, l2, h1, h2, h3, h4⟩ := h
    exact ⟨p1, p2, c1, c2, l1, l2, h1, h2, h3, h4.mono hQ⟩
  · exact h.elim
theorem k18 : Snd Try.prog 0 18 s18 := by
  refine snd_of_ev (by kernel_rfl) (C := tab [(24, s24)]) (sndC_cons k24 (sndC_nil)) x18 n18 c18 30 ?_
  have hC : MonoC (tab [(24, s24)]) := monoC_cons m24 (monoC_nil)
  intro vs H Q hs
  unfold s18 at hs
  split at hs
  · rename_i b o cp
    obtain ⟨⟨b1, o1⟩, ⟨b2, o2⟩, c1, c2, l1, l2, hr, ⟨d1, d2⟩, hn, hq⟩ := hs
    have r0 := rd_sub hr 0 1 (by omega)
    have r1 := rd_sub hr 1 1 (by omega)
    simp only [List.drop_zero, List.drop_succ_cons, List.take_succ_cons, List.take_zero] at r0 r1
    clear hr
    repeat' (conv => whnf
             first
             | (refine Stop.mk ?_)
             | (refine fI_i64 (by first | omega | (simp only [Int.ofNat_eq_natCast] at *; omega)) ?_; intro z hz)
             | (refine fI_u32 (by first | omega | (simp only [Int.ofNat_eq_natCast] at *; omega)) ?_; intro z hz)
             | (refine fI_u8 (by first | omega | (simp only [Int.ofNat_eq_natCast] at *; omega)) ?_; intro z hz)
             | (refine fI_u64 (by first | omega | (simp only [Int.ofNat_eq_natCast] at *; omega)) ?_; intro z hz)
             | (refine fI_tdiv (by first | omega | (simp only [Int.ofNat_eq_natCast] at *; omega)) ?_; intro z hz)
             | (refine fI_tmod (by first | omega | (simp only [Int.ofNat_eq_natCast] at *; omega)) ?_; intro z hz)
             | (refine fI_gen ?_; intro z hz)
             | (refine fO_gen ?_; intro z hz)
             | (refine pure_step (ixs_eq rfl rfl (by decide) (by decide)) ?_)
             | (refine ld_step rfl r0 rfl ?_)
             | (refine ld_step rfl r1 rfl ?_)
             | (refine ld_step rfl (rd_app r0 _) rfl ?_)
             | (refine ld_step rfl (rd_app r1 _) rfl ?_)
             | (refine And.intro (by omega) ?_; intro cap zs hcap hzs; have w0 := own_emptyI (H := H) hzs)
             | (refine app_own1 rfl rfl rfl w1 (news_eq (rd_app d2 _) (encI_one _)) rfl (flat_len encI_len _) (encI_one _) (by omega) (by omega) (by simp only [List.length_append, flat_len encI_len, List.length_nil]; omega) (by simp only [List.length_append, flat_len encI_len, List.length_nil]; omega) (encI_lt _) ?_; intro w X2 g2 w2 hg2 hX2; clear w1)
             | (refine app_own1 rfl rfl rfl w0 (news_eq (rd_app d1 _) (encI_one _)) rfl (flat_len encI_len _) (encI_one _) (by omega) (by omega) (by simp only [List.length_append, flat_len encI_len, List.length_nil]; omega) (by simp only [List.length_append, flat_len encI_len, List.length_nil]; omega) (encI_lt _) ?_; intro w X1 g1 w1 hg1 hX1; clear w0)
             | (refine dec_true (by assumption) ?_)
             | (refine dec_false (by assumption) ?_)
             | ((with_reducible refine dec_trueH ?tst ?_); (case tst => (first | rfl | ((try clear hC); (try clear kn); (try clear kx); (try clear kr); (try clear kn1); (try clear kx1); (try clear kr1); (try clear kn2); (try clear kx2); (try clear kr2); (try clear kn3); (try clear kx3); (try clear kr3); subst_vars; simp only [Int.ofNat_eq_natCast, tq_not, fq_not, tq_and, fq_and, tq_or, fq_or, tq_beq, fq_beq, tq_bne, fq_bne, tq_dec, fq_dec, one1, V.tup.injEq, V.agg.injEq, List.cons.injEq, V.int.injEq, V.bool.injEq, true_and, and_true, decide_eq_true_eq, decide_eq_false_iff_not, Bool.and_eq_true, Bool.and_eq_false_iff, Bool.or_eq_true, Bool.or_eq_false_iff, Bool.not_eq_true', Bool.not_eq_false', beq_iff_eq, wrap_u32, wrap_i64, wrap_u8, beq_eq_false_iff_ne, ne_eq, bne_iff_ne, bne_eq_false_iff_eq, eq_self, and_self, splice, V.cells, List.take_succ_cons, List.take_zero, List.take_nil, List.drop_zero, List.drop_succ_cons, List.drop_nil, List.cons_append, List.nil_append, List.append_nil, List.length_cons, List.length_nil, Nat.zero_add, Nat.reduceAdd, if_true, if_false, Bool.false_eq_true, beq_self_eq_true, decide_eq_decide, Bool.true_eq_false, or_false, false_or, or_true, true_or, and_false, false_and, not_true_eq_false, not_false_eq_true, Bool.and_true, Bool.true_and, Bool.not_true, Bool.not_false] at *; first | done | assumption | omega))); intro h)
             | ((with_reducible refine dec_falseH ?tst ?_); (case tst => (first | rfl | ((try clear hC); (try clear kn); (try clear kx); (try clear kr); (try clear kn1); (try clear kx1); (try clear kr1); (try clear kn2); (try clear kx2); (try clear kr2); (try clear kn3); (try clear kx3); (try clear kr3); subst_vars; simp only [Int.ofNat_eq_natCast, tq_not, fq_not, tq_and, fq_and, tq_or, fq_or, tq_beq, fq_beq, tq_bne, fq_bne, tq_dec, fq_dec, one1, V.tup.injEq, V.agg.injEq, List.cons.injEq, V.int.injEq, V.bool.injEq, true_and, and_true, decide_eq_true_eq, decide_eq_false_iff_not, Bool.and_eq_true, Bool.and_eq_false_iff, Bool.or_eq_true, Bool.or_eq_false_iff, Bool.not_eq_true', Bool.not_eq_false', beq_iff_eq, wrap_u32, wrap_i64, wrap_u8, beq_eq_false_iff_ne, ne_eq, bne_iff_ne, bne_eq_false_iff_eq, eq_self, and_self, splice, V.cells, List.take_succ_cons, List.take_zero, List.take_nil, List.drop_zero, List.drop_succ_cons, List.drop_nil, List.cons_append, List.nil_append, List.append_nil, List.length_cons, List.length_nil, Nat.zero_add, Nat.reduceAdd, if_true, if_false, Bool.false_eq_true, beq_self_eq_true, decide_eq_decide, Bool.true_eq_false, or_false, false_or, or_true, true_or, and_false, false_and, not_true_eq_false, not_false_eq_true, Bool.and_true, Bool.true_and, Bool.not_true, Bool.not_false] at *; first | done | assumption | omega))); intro h)
             | (refine dec_split (fun h => ?_) (fun h => ?_))
             | (apply silE)
             | (refine Both.mk ?_ ?_)
             | (refine And.intro rfl ?_)
             | (exact And.intro rfl (And.intro rfl (And.intro rfl rfl)))
             | (refine And.intro (by first | omega | ((simp only [decide_eq_true_eq, decide_eq_false_iff_not, Bool.and_eq_true, beq_iff_eq, Bool.not_eq_true', Bool.not_eq_false'] at *); omega) | (subst_vars; simp only [Int.ofNat_eq_natCast, tq_not, fq_not, tq_and, fq_and, tq_or, fq_or, tq_beq, fq_beq, tq_bne, fq_bne, tq_dec, fq_dec, one1, V.tup.injEq, V.agg.injEq, List.cons.injEq, V.int.injEq, V.bool.injEq, true_and, and_true, decide_eq_true_eq, decide_eq_false_iff_not, Bool.and_eq_true, Bool.and_eq_false_iff, Bool.or_eq_true, Bool.or_eq_false_iff, Bool.not_eq_true', Bool.not_eq_false', beq_iff_eq, wrap_u32, wrap_i64, wrap_u8, beq_eq_false_iff_ne, ne_eq, bne_iff_ne, bne_eq_false_iff_eq, eq_self, and_self, splice, V.cells, List.take_succ_cons, List.take_zero, List.take_nil, List.drop_zero, List.drop_succ_cons, List.drop_nil, List.cons_append, List.nil_append, List.append_nil, List.length_cons, List.length_nil, Nat.zero_add, Nat.reduceAdd, if_true, if_false, Bool.false_eq_true, beq_self_eq_true, decide_eq_decide, Bool.true_eq_false, or_false, false_or, or_true, true_or, and_false, false_and, not_true_eq_false, not_false_eq_true, Bool.and_true, Bool.true_and, Bool.not_true, Bool.not_false] at *; omega)) ?_)
             | (refine Exists.intro _ (Exists.intro _ (And.intro rfl ?_)))
             | (refine Exists.intro _ (And.intro rfl ?_))
             | (refine Exists.intro _ (Exists.intro _ (Exists.intro _ (Exists.intro _ (And.intro rfl ?_)))))
             | (refine ld_step rfl (by assumption) rfl ?_)
             | (refine lds_step rfl (by assumption) rfl ?_)
             | (refine fL_mk ?_)
             | (refine fH_mk ?_)
             | (refine fN_mk ?_)
             | (refine fLB_mk ?_)
             | (refine And.intro (by repeat (first | assumption | refine GLB_app ?_)) ?_)
             | (refine ld_step rfl ((rd_x0 _ _ _ _ _).trans rfl) rfl ?_)
             | (refine ld_step rfl ((rd_x1 _ _ _ _ _ _).trans rfl) rfl ?_)
             | (refine ld_step rfl ((rd_x2 _ _ _ _ _ _ _).trans rfl) rfl ?_)
             | (refine lds_step rfl ((rd_x0 _ _ _ _ _).trans rfl) rfl ?_)
             | (refine lds_step rfl ((rd_x1 _ _ _ _ _ _).trans rfl) rfl ?_)
             | (refine lds_step rfl ((rd_x2 _ _ _ _ _ _ _).trans rfl) rfl ?_)
             | (refine mem_step (st_eq rfl rfl rfl rfl (wr_last _ _ _ _ rfl)) ?_)
             | (refine drec_yes (by omega) ?_)
             | (refine drec_no (by omega) ?_)
             | (intro _)
             | fail)
    all_goals (conv => whnf)
    all_goals
      obtain rfl : g2 = true := hg2 (hg1 rfl)
      have w4 : Own H.length (H ++ X2) 3 1 w ((l1 ++ l2).flatMap encI) := by rw [List.flatMap_append]; exact w2
      obtain ⟨bb, cc, ws, rfl, q1, q2, q3, q4⟩ := own_outI w4 (by intro hh; have := congrArg List.length hh; simp only [List.length_append, List.length_nil] at this; omega)
      conv => whnf
      refine drec_no (by simp [one1, V.lt, V.ltL]; omega) ?_
      exact hq bb cc X2 ws q1 q2 q3 q4
  · exact hs.elim
def exI : List Int := [0, 1, -1, 1]
theorem exI_right : rightI exI := by decide
/-- the example's row, turned by one -/
def s12 : Sp := fun vs H Q => match vs with
  | [.sl (some (b, o)) 4 4, .int .i64 1] => RdI H (some (b, o)) exI ∧ OwnI H [1, -1, 1, 0] Q
  | _ => False
theorem OwnI.at {Hx H' : List B} {l : List Int} {Q : Post} (h : OwnI Hx l Q) (hx : ∃ Y, H' = Hx ++ Y) {bb cc : Nat} {X : List B} {ws : List V} (q1 : H'.length ≤ bb) (q2 : l.length ≤ cc) (q3 : (H' ++ X)[bb]? = some (.rw 3 (l.flatMap encI ++ ws))) (q4 : ws.length = cc - l.length) : Q (.sl (some (bb, 0)) l.length cc) (H' ++ X) false true := by
  obtain ⟨Y, rfl⟩ := hx
  rw [List.length_append] at q1
  rw [List.append_assoc] at q3 ⊢
  exact h bb cc (Y ++ X) ws (by omega) q2 q3 q4
theorem k12 : Snd Try.prog 0 12 s12 := by
  refine snd_of_ev (by kernel_rfl) (C := tab [(6, s6), (18, s18)]) (sndC_cons k6 (sndC_cons k18 (sndC_nil))) x12 n12 c12 30 ?_
  have hC : MonoC (tab [(6, s6), (18, s18)]) := monoC_cons m6 (monoC_cons m18 (monoC_nil))
  intro vs H Q hs
  unfold s12 at hs
  split at hs
  · rename_i b o
    obtain ⟨hr, hq⟩ := hs
    have hd : RdI H (some (b, o + 1 * 1)) [1, -1, 1] := rd_dropI hr 1 (by decide)
    have ht : RdI H (some (b, o)) [0] := rd_takeI hr 1
    repeat' (conv => whnf
             first
             | (refine Stop.mk ?_)
             | (refine fO_is (decide_eq_true exI_right) ?_)
             | (refine fI_gen ?_; intro z hz)
             | (refine fO_gen ?_; intro z hz)
             | (refine ⟨exI, rfl, hr, ?_⟩)
             | (refine pure_step (rem_eq rfl rfl (by decide)) ?_)
             | (refine ⟨(b, o + 1 * 1), (b, o), 3, 4, [1, -1, 1], [0], (rd_x0 _ _ _ _ _).trans rfl, ⟨hd.app _, ht.app _⟩, by decide, ?_⟩; intro bb cc X ws q1 q2 q3 q4)
             | (refine dec_true (by assumption) ?_)
             | (refine dec_false (by assumption) ?_)
             | (refine dec_split (fun h => ?_) (fun h => ?_))
             | (apply silE)
             | (refine Both.mk ?_ ?_)
             | (refine And.intro rfl ?_)
             | (exact And.intro rfl (And.intro rfl (And.intro rfl rfl)))
             | (refine And.intro (by first | omega | ((simp only [decide_eq_true_eq, decide_eq_false_iff_not, Bool.and_eq_true, beq_iff_eq, Bool.not_eq_true', Bool.not_eq_false'] at *); omega) | (subst_vars; simp only [Int.ofNat_eq_natCast, tq_not, fq_not, tq_and, fq_and, tq_or, fq_or, tq_beq, fq_beq, tq_bne, fq_bne, tq_dec, fq_dec, one1, V.tup.injEq, V.agg.injEq, List.cons.injEq, V.int.injEq, V.bool.injEq, true_and, and_true, decide_eq_true_eq, decide_eq_false_iff_not, Bool.and_eq_true, Bool.and_eq_false_iff, Bool.or_eq_true, Bool.or_eq_false_iff, Bool.not_eq_true', Bool.not_eq_false', beq_iff_eq, wrap_u32, wrap_i64, wrap_u8, beq_eq_false_iff_ne, ne_eq, bne_iff_ne, bne_eq_false_iff_eq, eq_self, and_self, splice, V.cells, List.take_succ_cons, List.take_zero, List.take_nil, List.drop_zero, List.drop_succ_cons, List.drop_nil, List.cons_append, List.nil_append, List.append_nil, List.length_cons, List.length_nil, Nat.zero_add, Nat.reduceAdd, if_true, if_false, Bool.false_eq_true, beq_self_eq_true, decide_eq_decide, Bool.true_eq_false, or_false, false_or, or_true, true_or, and_false, false_and, not_true_eq_false, not_false_eq_true, Bool.and_true, Bool.true_and, Bool.not_true, Bool.not_false] at *; omega)) ?_)
             | (refine Exists.intro _ (Exists.intro _ (And.intro rfl ?_)))
             | (refine Exists.intro _ (And.intro rfl ?_))
             | (refine Exists.intro _ (Exists.intro _ (Exists.intro _ (Exists.intro _ (And.intro rfl ?_)))))
             | (refine ld_step rfl (by assumption) rfl ?_)
             | (refine lds_step rfl (by assumption) rfl ?_)
             | (refine fL_mk ?_)
             | (refine fH_mk ?_)
             | (refine fN_mk ?_)
             | (refine fLB_mk ?_)
             | (refine And.intro (by repeat (first | assumption | refine GLB_app ?_)) ?_)
             | (refine ld_step rfl ((rd_x0 _ _ _ _ _).trans rfl) rfl ?_)
             | (refine ld_step rfl ((rd_x1 _ _ _ _ _ _).trans rfl) rfl ?_)
             | (refine ld_step rfl ((rd_x2 _ _ _ _ _ _ _).trans rfl) rfl ?_)
             | (refine lds_step rfl ((rd_x0 _ _ _ _ _).trans rfl) rfl ?_)
             | (refine lds_step rfl ((rd_x1 _ _ _ _ _ _).trans rfl) rfl ?_)
             | (refine lds_step rfl ((rd_x2 _ _ _ _ _ _ _).trans rfl) rfl ?_)
             | (refine mem_step (st_eq rfl rfl rfl rfl (wr_last _ _ _ _ rfl)) ?_)
             | (refine drec_yes (by omega) ?_)
             | (refine drec_no (by omega) ?_)
             | (intro _)
             | fail)
    all_goals (conv => whnf)
    all_goals
      refine drec_no (by simp [one1, V.lt, V.ltL]; simp at q1; omega) ?_
      exact OwnI.at hq ⟨_, rfl⟩ q1 q2 q3 q4
  · exact hs.elim
theorem ex_next : nxP exI 0 1 := by decide
theorem ex_ah : ahV exI 0 1 = 3 := by decide
theorem ex_own : ownV exI 6 = -1 := by decide
theorem ex_may0 : mayP exI 0 [] := by decide
theorem ex_may1 : mayP exI 1 [] := by decide
theorem ex_w0 : wtV exI 0 exI.length = 3 := by decide
theorem ex_w1 : wtV exI 1 exI.length = 1 := by decide
theorem ex_cnt : cntV exI 1 = 2 := by decide
def s5 : Sp := fun vs H Q => match vs with
  | [] => Q (.bool true) H false false
  | _ => False
theorem m5 : Mono s5 := by
  intro vs H Q Q' hQ h
  unfold s5 at h ⊢
  split at h
  all_goals first
    | exact h.elim
    | (repeat' (first | exact hQ _ _ _ _ h | refine And.imp_right (fun h => ?_) h | refine Exists.imp (fun _ h => ?_) h | (intro z; replace h := h z)))
theorem k5 : Snd Try.prog 0 5 s5 := by
  refine snd_of_ev (by kernel_rfl) (C := tab [(7, s7), (8, s8), (9, s9), (10, s10), (11, s11), (12, s12)]) (sndC_cons k7 (sndC_cons k8 (sndC_cons k9 (sndC_cons k10 (sndC_cons k11 (sndC_cons k12 (sndC_nil))))))) x5 n5 c5 30 ?_
  intro vs H Q hs
  unfold s5 at hs
  split at hs
  · have hq := hs
    clear hs
    have e1 : (if nxP exI 0 1 then (1 : Int) + ahV exI 0 (1 : Int).toNat else 0) = 4 := by rw [if_pos ex_next]; exact congrArg (1 + ·) ex_ah
    have e2 : (if mayP exI 0 [] then wtV exI 0 exI.length else -1) = 3 := by rw [if_pos ex_may0]; exact ex_w0
    have e3 : (if mayP exI 1 [] then wtV exI 1 exI.length else -1) = 1 := by rw [if_pos ex_may1]; exact ex_w1
    have hr : ∀ X, RdI (H ++ [.rw 3 (exI.flatMap encI)] ++ X) (some (H.length, 0)) exI := fun X => rd_app ((rd_x0 _ _ _ _ _).trans rfl) X
    have hr0 : RdI (H ++ [.rw 3 (exI.flatMap encI)]) (some (H.length, 0)) exI := (rd_x0 _ _ _ _ _).trans rfl
    repeat' (conv => whnf
             first
             | (refine Stop.mk ?_)
             | (refine fO_is (decide_eq_true ex_next) ?_)
             | (refine fI_is e1 ?_)
             | (refine fI_is e2 ?_)
             | (refine fI_is e3 ?_)
             | (refine fI_is ex_own ?_)
             | (refine fI_is ex_cnt ?_)
             | (refine fO_is (b := true) rfl ?_)
             | (refine fI_gen ?_; intro z hz)
             | (refine fO_gen ?_; intro z hz)
             | (refine Exists.intro exI (And.intro rfl (And.intro (by decide) (And.intro hr0 ?_))))
             | (refine Exists.intro exI (And.intro rfl (And.intro hr0 ?_)))
             | (refine And.intro hr0 ?_; intro bb cc X ws q1 q2 q3 q4)
             | (refine Exists.intro [1, -1, 1, 0] (Exists.intro [1, -1, 1, 0] (And.intro rfl (And.intro rfl (And.intro (by decide) (And.intro (by decide) (And.intro (rd_app (rd_block q3 (flat_len encI_len _)) _) (And.intro ((rd_x0 _ _ _ _ _).trans rfl) ?_))))))))
             | (refine dec_true (by assumption) ?_)
             | (refine dec_false (by assumption) ?_)
             | (refine dec_split (fun h => ?_) (fun h => ?_))
             | (apply silE)
             | (refine Both.mk ?_ ?_)
             | (refine And.intro rfl ?_)
             | (exact And.intro rfl (And.intro rfl (And.intro rfl rfl)))
             | (refine And.intro (by first | omega | ((simp only [decide_eq_true_eq, decide_eq_false_iff_not, Bool.and_eq_true, beq_iff_eq, Bool.not_eq_true', Bool.not_eq_false'] at *); omega) | (subst_vars; simp only [Int.ofNat_eq_natCast, tq_not, fq_not, tq_and, fq_and, tq_or, fq_or, tq_beq, fq_beq, tq_bne, fq_bne, tq_dec, fq_dec, one1, V.tup.injEq, V.agg.injEq, List.cons.injEq, V.int.injEq, V.bool.injEq, true_and, and_true, decide_eq_true_eq, decide_eq_false_iff_not, Bool.and_eq_true, Bool.and_eq_false_iff, Bool.or_eq_true, Bool.or_eq_false_iff, Bool.not_eq_true', Bool.not_eq_false', beq_iff_eq, wrap_u32, wrap_i64, wrap_u8, beq_eq_false_iff_ne, ne_eq, bne_iff_ne, bne_eq_false_iff_eq, eq_self, and_self, splice, V.cells, List.take_succ_cons, List.take_zero, List.take_nil, List.drop_zero, List.drop_succ_cons, List.drop_nil, List.cons_append, List.nil_append, List.append_nil, List.length_cons, List.length_nil, Nat.zero_add, Nat.reduceAdd, if_true, if_false, Bool.false_eq_true, beq_self_eq_true, decide_eq_decide, Bool.true_eq_false, or_false, false_or, or_true, true_or, and_false, false_and, not_true_eq_false, not_false_eq_true, Bool.and_true, Bool.true_and, Bool.not_true, Bool.not_false] at *; omega)) ?_)
             | (refine Exists.intro _ (Exists.intro _ (And.intro rfl ?_)))
             | (refine Exists.intro _ (And.intro rfl ?_))
             | (refine Exists.intro _ (Exists.intro _ (Exists.intro _ (Exists.intro _ (And.intro rfl ?_)))))
             | (refine ld_step rfl (by assumption) rfl ?_)
             | (refine lds_step rfl (by assumption) rfl ?_)
             | (refine fL_mk ?_)
             | (refine fH_mk ?_)
             | (refine fN_mk ?_)
             | (refine fLB_mk ?_)
             | (refine And.intro (by repeat (first | assumption | refine GLB_app ?_)) ?_)
             | (refine ld_step rfl ((rd_x0 _ _ _ _ _).trans rfl) rfl ?_)
             | (refine ld_step rfl ((rd_x1 _ _ _ _ _ _).trans rfl) rfl ?_)
             | (refine ld_step rfl ((rd_x2 _ _ _ _ _ _ _).trans rfl) rfl ?_)
             | (refine lds_step rfl ((rd_x0 _ _ _ _ _).trans rfl) rfl ?_)
             | (refine lds_step rfl ((rd_x1 _ _ _ _ _ _).trans rfl) rfl ?_)
             | (refine lds_step rfl ((rd_x2 _ _ _ _ _ _ _).trans rfl) rfl ?_)
             | (refine mem_step (st_eq rfl rfl rfl rfl (wr_last _ _ _ _ rfl)) ?_)
             | (refine drec_yes (by omega) ?_)
             | (refine drec_no (by omega) ?_)
             | (intro _)
             | fail)
    all_goals (conv => whnf)
    all_goals trace_state
    all_goals exact leafH hq rfl (take_app3 H _ _ _)
  · exact hs.elim
end Go.Ev
