/- dev: ram: bytes -/
import Derived.Test.YtcpecapbknnaeaaDoorKlawa
set_option linter.all false
namespace Go.Ev
open Go Go.Proofs
set_option maxRecDepth 4000
set_option maxHeartbeats 4000000
def svAt : List SV → Nat → SV
  | [], _ => undefV
  | x :: _, 0 => x
  | _ :: l, n + 1 => svAt l n
/-- a result in a row of bytes of one's own -/
def OwnB (Hx : List B) (l : List Int) (Q : Post) : Prop :=
  ∀ (b cap : Nat) (X : List B) (ws : List V), Hx.length ≤ b → l.length ≤ cap → (Hx ++ X)[b]? = some (.rw 5 (l.flatMap encB ++ ws)) → ws.length = cap - l.length → Q (.sl (some (b, 0)) l.length cap) (Hx ++ X) false true
theorem OwnB.mono {Hx : List B} {l : List Int} {Q Q' : Post} (hQ : ∀ v H e g, Q v H e g → Q' v H e g) (h : OwnB Hx l Q) : OwnB Hx l Q' := fun b cap X ws h1 h2 h3 h4 => hQ _ _ _ _ (h b cap X ws h1 h2 h3 h4)
theorem own_out {Hx X : List B} {l : List Int} {w : V} (h : Own Hx.length (Hx ++ X) 5 1 w (l.flatMap encB)) (hl : l ≠ []) :
    ∃ b cap ws, w = .sl (some (b, 0)) l.length cap ∧ Hx.length ≤ b ∧ l.length ≤ cap ∧ (Hx ++ X)[b]? = some (.rw 5 (l.flatMap encB ++ ws)) ∧ ws.length = cap - l.length := by
  obtain ⟨m, cap, h1, h2, h3⟩ := h
  rw [flat_len encB_len, Nat.mul_one, Nat.mul_one] at h1
  subst h1
  rcases h3 with ⟨_, h3⟩ | ⟨b, zs, rfl, h4, h5, h6, h7⟩
  · exact absurd (List.eq_nil_of_length_eq_zero h3) hl
  · exact ⟨b, cap, zs, rfl, h4, h5, h7, by rw [h6, Nat.mul_one]⟩
theorem bytesV_succ : ∀ (i : Nat) (v : Int), 0 ≤ v → bytesV (i + 1) v = bytesV i v ++ [v / 256 ^ i % 256]
  | 0, v, _ => by simp [bytesV]
  | i + 1, v, h => by
    have h1 := bytesV_succ i (v / 256) (Int.ediv_nonneg h (by decide))
    rw [bytesV, h1, bytesV, List.cons_append, Int.ediv_ediv_of_nonneg (by decide)]
    congr 4
    rw [Int.pow_succ, Int.mul_comm]
theorem shr8 {v : Int} (i : Nat) (hi : i < 4) (h : (0 ≤ v ∧ v < 4294967296)) : v.fdiv (2 ^ (min (8 * (i : Int)).toNat IntKind.u32.bits)) = v / 256 ^ i := by
  have : i = 0 ∨ i = 1 ∨ i = 2 ∨ i = 3 := by omega
  rcases this with rfl | rfl | rfl | rfl <;> exact Int.fdiv_eq_ediv_of_nonneg _ (by decide)
def s22 : Sp := fun vs H Q => match vs with
  | [.int .u32 v, .int .i64 n] => ((0 ≤ v ∧ v < 4294967296) ∧ okS n) ∧ GLB H ∧ OwnB H (bytesV n.toNat v) Q
  | _ => False
theorem m22 : Mono s22 := by
  intro vs H Q Q' hQ h
  unfold s22 at h ⊢
  split at h
  · exact ⟨h.1, h.2.1, h.2.2.mono hQ⟩
  · exact h.elim
theorem k22 : Snd Tryd.prog 2 22 s22 := by
  refine snd_of_ev (by kernel_rfl) (C := tab [(21, s21)]) (sndC_cons k21 (sndC_nil)) x22 n22 c22 50 ?_
  have hC : MonoC (tab [(21, s21)]) := monoC_cons m21 (monoC_nil)
  intro vs Hx Q hs
  unfold s22 at hs
  split at hs
  · rename_i v n
    obtain ⟨⟨hv, hn⟩, hg, hq⟩ := hs
    obtain ⟨n, rfl⟩ := Int.eq_ofNat_of_zero_le (show 0 ≤ n by unfold okS at hn; omega)
    have hn4 : 1 ≤ n ∧ n ≤ 4 := by unfold okS at hn; omega
    have hq' : OwnB Hx (bytesV n v) Q := hq
    clear hq
    suffices hh : ∀ k, 10 < k → evFun (tab [(21, s21)]) k e22 [.int .u32 v, .int .i64 (n : Int)] Hx Q from hh _ (by omega)
    intro k hk
    refine evFun_in (tm := SV.v (.int .u32 v) :: SV.v (.int .i64 (n : Int)) :: undefV :: undefV :: undefV :: undefV :: undefV :: undefV :: undefV :: undefV :: undefV :: undefV :: undefV :: undefV :: undefV :: undefV :: undefV :: undefV :: undefV :: undefV :: undefV :: undefV :: undefV :: []) rfl ?_
    show rC _ _ r22_0 _ _ _ _ _ _
    refine rC_seqH ?_
    repeat' (conv => whnf
             first
             | (refine Stop.mk ?_)
             | (refine fI_gen ?_; intro z hz)
             | (refine fO_gen ?_; intro z hz)
             | (refine dec_true (by assumption) ?_)
             | (refine dec_false (by assumption) ?_)
             | (refine dec_split (fun h => ?_) (fun h => ?_))
             | (apply silE)
             | (exact And.intro rfl (And.intro rfl (And.intro rfl rfl)))
             | (refine And.intro (by first | omega | ((simp only [decide_eq_true_eq, decide_eq_false_iff_not, Bool.and_eq_true, beq_iff_eq, Bool.not_eq_true', Bool.not_eq_false'] at *); omega) | (subst_vars; simp only [Int.ofNat_eq_natCast, tq_not, fq_not, tq_and, fq_and, tq_or, fq_or, tq_beq, fq_beq, tq_bne, fq_bne, tq_dec, fq_dec, one1, V.tup.injEq, V.agg.injEq, List.cons.injEq, V.int.injEq, V.bool.injEq, true_and, and_true, decide_eq_true_eq, decide_eq_false_iff_not, Bool.and_eq_true, Bool.and_eq_false_iff, Bool.or_eq_true, Bool.or_eq_false_iff, Bool.not_eq_true', Bool.not_eq_false', beq_iff_eq, wrap_u32, wrap_i64, wrap_u8, beq_eq_false_iff_ne, ne_eq, bne_iff_ne, bne_eq_false_iff_eq, eq_self, and_self, splice, V.cells, List.take_succ_cons, List.take_zero, List.take_nil, List.drop_zero, List.drop_succ_cons, List.drop_nil, List.cons_append, List.nil_append, List.append_nil, List.length_cons, List.length_nil, Nat.zero_add, Nat.reduceAdd, if_true, if_false, Bool.false_eq_true, beq_self_eq_true, decide_eq_decide, Bool.true_eq_false, or_false, false_or, or_true, true_or, and_false, false_and, not_true_eq_false, not_false_eq_true, Bool.and_true, Bool.true_and, Bool.not_true, Bool.not_false] at *; omega)) ?_)
             | (refine Exists.intro _ (Exists.intro _ (And.intro rfl ?_)))
             | (refine Exists.intro _ (And.intro rfl ?_))
             | (refine Exists.intro _ (Exists.intro _ (Exists.intro _ (Exists.intro _ (And.intro rfl ?_)))))
             | (refine ld_step rfl (by assumption) rfl ?_)
             | (refine lds_step rfl (by assumption) rfl ?_)
             | (refine fL_mk ?_)
             | (refine fH_mk ?_)
             | (refine fN_mk ?_)
             | (refine fLB_mk ?_)
             | (refine And.intro (by repeat (first | assumption | refine GLB_app ?_)) ?_)
             | (refine ld_step rfl ((rd_x0 _ _ _ _ _).trans rfl) rfl ?_)
             | (refine ld_step rfl ((rd_x1 _ _ _ _ _ _).trans rfl) rfl ?_)
             | (refine ld_step rfl ((rd_x2 _ _ _ _ _ _ _).trans rfl) rfl ?_)
             | (refine lds_step rfl ((rd_x0 _ _ _ _ _).trans rfl) rfl ?_)
             | (refine lds_step rfl ((rd_x1 _ _ _ _ _ _).trans rfl) rfl ?_)
             | (refine lds_step rfl ((rd_x2 _ _ _ _ _ _ _).trans rfl) rfl ?_)
             | (refine mem_step (st_eq rfl rfl rfl rfl (wr_last _ _ _ _ rfl)) ?_)
             | (refine drec_yes (by omega) ?_)
             | (refine drec_no (by omega) ?_)
             | (intro _)
             | fail)
    any_goals refine Halt.mk ?_
    any_goals show rC _ _ r22_1 _ _ _ _ _ _
    refine rC_seqH ?_
    repeat' (conv => whnf
             first
             | (refine Stop.mk ?_)
             | (refine fO_is (decide_eq_true hn) ?_)
             | (refine fI_gen ?_; intro z hz)
             | (refine fO_gen ?_; intro z hz)
             | (refine ⟨hg, ?_⟩)
             | (refine dec_true (by assumption) ?_)
             | (refine dec_false (by assumption) ?_)
             | (refine dec_split (fun h => ?_) (fun h => ?_))
             | (apply silE)
             | (exact And.intro rfl (And.intro rfl (And.intro rfl rfl)))
             | (refine And.intro (by first | omega | ((simp only [decide_eq_true_eq, decide_eq_false_iff_not, Bool.and_eq_true, beq_iff_eq, Bool.not_eq_true', Bool.not_eq_false'] at *); omega) | (subst_vars; simp only [Int.ofNat_eq_natCast, tq_not, fq_not, tq_and, fq_and, tq_or, fq_or, tq_beq, fq_beq, tq_bne, fq_bne, tq_dec, fq_dec, one1, V.tup.injEq, V.agg.injEq, List.cons.injEq, V.int.injEq, V.bool.injEq, true_and, and_true, decide_eq_true_eq, decide_eq_false_iff_not, Bool.and_eq_true, Bool.and_eq_false_iff, Bool.or_eq_true, Bool.or_eq_false_iff, Bool.not_eq_true', Bool.not_eq_false', beq_iff_eq, wrap_u32, wrap_i64, wrap_u8, beq_eq_false_iff_ne, ne_eq, bne_iff_ne, bne_eq_false_iff_eq, eq_self, and_self, splice, V.cells, List.take_succ_cons, List.take_zero, List.take_nil, List.drop_zero, List.drop_succ_cons, List.drop_nil, List.cons_append, List.nil_append, List.append_nil, List.length_cons, List.length_nil, Nat.zero_add, Nat.reduceAdd, if_true, if_false, Bool.false_eq_true, beq_self_eq_true, decide_eq_decide, Bool.true_eq_false, or_false, false_or, or_true, true_or, and_false, false_and, not_true_eq_false, not_false_eq_true, Bool.and_true, Bool.true_and, Bool.not_true, Bool.not_false] at *; omega)) ?_)
             | (refine Exists.intro _ (Exists.intro _ (And.intro rfl ?_)))
             | (refine Exists.intro _ (And.intro rfl ?_))
             | (refine Exists.intro _ (Exists.intro _ (Exists.intro _ (Exists.intro _ (And.intro rfl ?_)))))
             | (refine ld_step rfl (by assumption) rfl ?_)
             | (refine lds_step rfl (by assumption) rfl ?_)
             | (refine fL_mk ?_)
             | (refine fH_mk ?_)
             | (refine fN_mk ?_)
             | (refine fLB_mk ?_)
             | (refine And.intro (by repeat (first | assumption | refine GLB_app ?_)) ?_)
             | (refine ld_step rfl ((rd_x0 _ _ _ _ _).trans rfl) rfl ?_)
             | (refine ld_step rfl ((rd_x1 _ _ _ _ _ _).trans rfl) rfl ?_)
             | (refine ld_step rfl ((rd_x2 _ _ _ _ _ _ _).trans rfl) rfl ?_)
             | (refine lds_step rfl ((rd_x0 _ _ _ _ _).trans rfl) rfl ?_)
             | (refine lds_step rfl ((rd_x1 _ _ _ _ _ _).trans rfl) rfl ?_)
             | (refine lds_step rfl ((rd_x2 _ _ _ _ _ _ _).trans rfl) rfl ?_)
             | (refine mem_step (st_eq rfl rfl rfl rfl (wr_last _ _ _ _ rfl)) ?_)
             | (refine drec_yes (by omega) ?_)
             | (refine drec_no (by omega) ?_)
             | (intro _)
             | fail)
    any_goals refine Halt.mk ?_
    any_goals show rC _ _ r22_2 _ _ _ _ _ _
    repeat' (conv => whnf
             first
             | (refine Stop.mk ?_)
             | (refine fI_mk ?_)
             | (refine fO_mk ?_)
             | (refine fN_mk ?_)
             | fail)
    conv => whnf
    refine rLoop_ctr (c := rC (tab [(21, s21)]) k l22_0) n 10 (false :: false :: false :: false :: true :: true :: false :: false :: false :: false :: false :: true :: true :: true :: true :: true :: true :: true :: true :: true :: true :: true :: false :: []) (fun i tm L H e g => (∃ X w, svAt tm 4 = .v w ∧ H = Hx ++ X ∧ Own Hx.length H 5 1 w ((bytesV i v).flatMap encB) ∧ (i = 0 ∨ g = true)) ∧ L = [] ∧ e = false) (by omega) rfl ⟨⟨[], _, rfl, (List.append_nil _).symm, Own.nil _ _ _ _, Or.inl rfl⟩, rfl, rfl⟩ ?_
    intro i0 hi0
    conv => whnf
    intro j
    conv => whnf
    intro j
    conv => whnf
    intro j
    conv => whnf
    intro j
    conv => whnf
    intro j
    conv => whnf
    intro j
    conv => whnf
    intro j
    conv => whnf
    intro j
    conv => whnf
    intro j
    conv => whnf
    intro j
    conv => whnf
    intro j
    conv => whnf
    intro j
    conv => whnf
    intro j
    conv => whnf
    refine Halt.mk ?_
    rintro L H' e g ⟨⟨X, w, h4, rfl, hown, hgi⟩, rfl, rfl⟩ K kn kx kr
    conv at h4 => lhs; whnf
    subst h4
    repeat' (conv => whnf
             first
             | (refine Stop.mk ?_)
             | (refine fI_mk ?_)
             | (refine fO_mk ?_)
             | (refine fN_mk ?_)
             | fail)
    conv => whnf
    refine dec_split (fun h => ?_) (fun h => ?_)
    · have hlt : i0 < n := by have := of_decide_eq_true h; omega
      clear kx kr
      have hw8 : IntKind.i64.wrap (8 * (i0 : Int)) = 8 * (i0 : Int) := wrap_i64_id (by omega) (by omega)
      have hsh := shr8 i0 (by omega) hv
      have hl : (bytesV i0 v).length = i0 := bytesV_len _ _
      repeat' (conv => whnf
               first
               | (refine Stop.mk ?_)
               | (refine fI_is hw8 ?_)
               | (refine fI_is hsh ?_)
               | (refine fI_is (wrap_u8 _) ?_)
               | (refine fI_i64 (by first | omega | (simp only [Int.ofNat_eq_natCast] at *; omega)) ?_; intro z hz)
               | (refine fI_u32 (by first | omega | (simp only [Int.ofNat_eq_natCast] at *; omega)) ?_; intro z hz)
               | (refine fI_u8 (by first | omega | (simp only [Int.ofNat_eq_natCast] at *; omega)) ?_; intro z hz)
               | (refine fI_u64 (by first | omega | (simp only [Int.ofNat_eq_natCast] at *; omega)) ?_; intro z hz)
               | (refine fI_tdiv (by first | omega | (simp only [Int.ofNat_eq_natCast] at *; omega)) ?_; intro z hz)
               | (refine fI_tmod (by first | omega | (simp only [Int.ofNat_eq_natCast] at *; omega)) ?_; intro z hz)
               | (refine fI_gen ?_; intro z hz)
               | (refine fO_gen ?_; intro z hz)
               | (refine pure_step (shr_eq rfl rfl (by omega)) ?_)
               | (refine app_own1 (List.append_assoc _ _ _) rfl rfl (hown.app _) (news_eq (rd_last _ _ _ _ rfl) rfl) rfl rfl rfl (by omega) (by omega) (by rw [flat_len encB_len, hl]; show (i0 * 1 + 1) * 1 ≤ _; omega) (by rw [flat_len encB_len, hl]; show i0 * 1 + 1 < _; omega) rfl ?_; intro w' X' g' hown' hg1 hX)
               | (refine dec_true (by assumption) ?_)
               | (refine dec_false (by assumption) ?_)
               | (refine dec_split (fun h => ?_) (fun h => ?_))
               | (apply silE)
               | (exact And.intro rfl (And.intro rfl (And.intro rfl rfl)))
               | (refine And.intro (by first | omega | ((simp only [decide_eq_true_eq, decide_eq_false_iff_not, Bool.and_eq_true, beq_iff_eq, Bool.not_eq_true', Bool.not_eq_false'] at *); omega) | (subst_vars; simp only [Int.ofNat_eq_natCast, tq_not, fq_not, tq_and, fq_and, tq_or, fq_or, tq_beq, fq_beq, tq_bne, fq_bne, tq_dec, fq_dec, one1, V.tup.injEq, V.agg.injEq, List.cons.injEq, V.int.injEq, V.bool.injEq, true_and, and_true, decide_eq_true_eq, decide_eq_false_iff_not, Bool.and_eq_true, Bool.and_eq_false_iff, Bool.or_eq_true, Bool.or_eq_false_iff, Bool.not_eq_true', Bool.not_eq_false', beq_iff_eq, wrap_u32, wrap_i64, wrap_u8, beq_eq_false_iff_ne, ne_eq, bne_iff_ne, bne_eq_false_iff_eq, eq_self, and_self, splice, V.cells, List.take_succ_cons, List.take_zero, List.take_nil, List.drop_zero, List.drop_succ_cons, List.drop_nil, List.cons_append, List.nil_append, List.append_nil, List.length_cons, List.length_nil, Nat.zero_add, Nat.reduceAdd, if_true, if_false, Bool.false_eq_true, beq_self_eq_true, decide_eq_decide, Bool.true_eq_false, or_false, false_or, or_true, true_or, and_false, false_and, not_true_eq_false, not_false_eq_true, Bool.and_true, Bool.true_and, Bool.not_true, Bool.not_false] at *; omega)) ?_)
               | (refine Exists.intro _ (Exists.intro _ (And.intro rfl ?_)))
               | (refine Exists.intro _ (And.intro rfl ?_))
               | (refine Exists.intro _ (Exists.intro _ (Exists.intro _ (Exists.intro _ (And.intro rfl ?_)))))
               | (refine ld_step rfl (by assumption) rfl ?_)
               | (refine lds_step rfl (by assumption) rfl ?_)
               | (refine fL_mk ?_)
               | (refine fH_mk ?_)
               | (refine fN_mk ?_)
               | (refine fLB_mk ?_)
               | (refine And.intro (by repeat (first | assumption | refine GLB_app ?_)) ?_)
               | (refine ld_step rfl ((rd_x0 _ _ _ _ _).trans rfl) rfl ?_)
               | (refine ld_step rfl ((rd_x1 _ _ _ _ _ _).trans rfl) rfl ?_)
               | (refine ld_step rfl ((rd_x2 _ _ _ _ _ _ _).trans rfl) rfl ?_)
               | (refine lds_step rfl ((rd_x0 _ _ _ _ _).trans rfl) rfl ?_)
               | (refine lds_step rfl ((rd_x1 _ _ _ _ _ _).trans rfl) rfl ?_)
               | (refine lds_step rfl ((rd_x2 _ _ _ _ _ _ _).trans rfl) rfl ?_)
               | (refine mem_step (st_eq rfl rfl rfl rfl (wr_last _ _ _ _ rfl)) ?_)
               | (refine drec_yes (by omega) ?_)
               | (refine drec_no (by omega) ?_)
               | (intro _)
               | fail)
      conv => whnf
      subst hz
      refine kn hlt _ _ _ _ _ rfl ⟨⟨X', w', rfl, rfl, ?_, Or.inr (hg1 rfl)⟩, rfl, rfl⟩
      rw [bytesV_succ i0 v hv.1, List.flatMap_append]
      exact hown'
    · clear kn kr
      have hie : i0 = n := by have := of_decide_eq_false h; omega
      subst hie
      obtain rfl : g = true := by rcases hgi with hgi | hgi; omega; exact hgi
      obtain ⟨b, cap, ws, rfl, h1, h2, h3, h4⟩ := own_out hown (by intro hh; have := bytesV_len i0 v; rw [hh] at this; simp at this; omega)
      repeat' (conv => whnf
               first
               | (refine Stop.mk ?_)
               | (refine fI_gen ?_; intro z hz)
               | (refine fO_gen ?_; intro z hz)
               | (refine kx _ _ _ _ _ _ ?_)
               | (refine dec_true (by assumption) ?_)
               | (refine dec_false (by assumption) ?_)
               | (refine dec_split (fun h => ?_) (fun h => ?_))
               | (apply silE)
               | (exact And.intro rfl (And.intro rfl (And.intro rfl rfl)))
               | (refine And.intro (by first | omega | ((simp only [decide_eq_true_eq, decide_eq_false_iff_not, Bool.and_eq_true, beq_iff_eq, Bool.not_eq_true', Bool.not_eq_false'] at *); omega) | (subst_vars; simp only [Int.ofNat_eq_natCast, tq_not, fq_not, tq_and, fq_and, tq_or, fq_or, tq_beq, fq_beq, tq_bne, fq_bne, tq_dec, fq_dec, one1, V.tup.injEq, V.agg.injEq, List.cons.injEq, V.int.injEq, V.bool.injEq, true_and, and_true, decide_eq_true_eq, decide_eq_false_iff_not, Bool.and_eq_true, Bool.and_eq_false_iff, Bool.or_eq_true, Bool.or_eq_false_iff, Bool.not_eq_true', Bool.not_eq_false', beq_iff_eq, wrap_u32, wrap_i64, wrap_u8, beq_eq_false_iff_ne, ne_eq, bne_iff_ne, bne_eq_false_iff_eq, eq_self, and_self, splice, V.cells, List.take_succ_cons, List.take_zero, List.take_nil, List.drop_zero, List.drop_succ_cons, List.drop_nil, List.cons_append, List.nil_append, List.append_nil, List.length_cons, List.length_nil, Nat.zero_add, Nat.reduceAdd, if_true, if_false, Bool.false_eq_true, beq_self_eq_true, decide_eq_decide, Bool.true_eq_false, or_false, false_or, or_true, true_or, and_false, false_and, not_true_eq_false, not_false_eq_true, Bool.and_true, Bool.true_and, Bool.not_true, Bool.not_false] at *; omega)) ?_)
               | (refine Exists.intro _ (Exists.intro _ (And.intro rfl ?_)))
               | (refine Exists.intro _ (And.intro rfl ?_))
               | (refine Exists.intro _ (Exists.intro _ (Exists.intro _ (Exists.intro _ (And.intro rfl ?_)))))
               | (refine ld_step rfl (by assumption) rfl ?_)
               | (refine lds_step rfl (by assumption) rfl ?_)
               | (refine fL_mk ?_)
               | (refine fH_mk ?_)
               | (refine fN_mk ?_)
               | (refine fLB_mk ?_)
               | (refine And.intro (by repeat (first | assumption | refine GLB_app ?_)) ?_)
               | (refine ld_step rfl ((rd_x0 _ _ _ _ _).trans rfl) rfl ?_)
               | (refine ld_step rfl ((rd_x1 _ _ _ _ _ _).trans rfl) rfl ?_)
               | (refine ld_step rfl ((rd_x2 _ _ _ _ _ _ _).trans rfl) rfl ?_)
               | (refine lds_step rfl ((rd_x0 _ _ _ _ _).trans rfl) rfl ?_)
               | (refine lds_step rfl ((rd_x1 _ _ _ _ _ _).trans rfl) rfl ?_)
               | (refine lds_step rfl ((rd_x2 _ _ _ _ _ _ _).trans rfl) rfl ?_)
               | (refine mem_step (st_eq rfl rfl rfl rfl (wr_last _ _ _ _ rfl)) ?_)
               | (refine drec_yes (by omega) ?_)
               | (refine drec_no (by omega) ?_)
               | (intro _)
               | fail)
      conv => whnf
      refine drec_no (by simp [one1, V.lt, V.ltL]; omega) ?_
      exact hq' b cap X ws h1 h2 h3 h4
  · exact hs.elim
/-- a loop that counts up by four in slot ctr -/
theorem rLoop_ctr4 {c : List SV → List LB → List B → Bool → Bool → KE → Prop} {Q : KE} {f : Nat} {tm : List SV} {L : List LB} {H : List B} {e g : Bool} (N ctr : Nat) (mask : List Bool) (I : Nat → List SV → List LB → List B → Bool → Bool → Prop)
    (hf : N < f) (h0 : agree mask (tm.set ctr (.v (.int .i64 (4 * ((0 : Nat) : Int))))) tm) (hI : I 0 tm L H e g)
    (hstep : ∀ i : Nat, i ≤ N → havoc mask (tm.set ctr (.v (.int .i64 (4 * (i : Int))))) fun tm1 => Halt (∀ L H e g, I i tm1 L H e g → ∀ K : KE,
      (i < N → ∀ tm' L H e g, agree mask (tm.set ctr (.v (.int .i64 (4 * ((i + 1 : Nat) : Int))))) tm' → I (i + 1) tm' L H e g → K .n tm' L H e g) →
      (∀ id tm L H e g, Q (.x id) tm L H e g → K (.x id) tm L H e g) → (∀ tm L H e g, Q .r tm L H e g → K .r tm L H e g) → c tm1 L H e g K)) : rLoop c f tm L H e g Q := by
  refine rLoop_for N (fun i tm1 L H e g => agree mask (tm.set ctr (.v (.int .i64 (4 * (i : Int))))) tm1 ∧ I i tm1 L H e g) ?_ N 0 f tm L H e g (by omega) hf ⟨h0, hI⟩
  intro i tm1 L H e g hi ⟨ha, hI⟩ K kn kx kr
  exact (havoc_agree (hstep i hi) ha).out L H e g hI K (fun hlt tm' L H e g h1 h2 => kn hlt tm' L H e g ⟨h1, h2⟩) kx kr
/-- all bytes of words -/
def bytesW (l : List Int) : List Int := l.flatMap (bytesV 4)
theorem bytesW_len : ∀ l : List Int, (bytesW l).length = 4 * l.length
  | [] => rfl
  | x :: l => by
    have := bytesW_len l
    unfold bytesW at *
    rw [List.flatMap_cons, List.length_append, bytesV_len, this, List.length_cons]
    omega
theorem bytesW_take {l : List Int} {i : Nat} (hi : i < l.length) : bytesW (l.take (i + 1)) = bytesW (l.take i) ++ bytesV 4 (l.getD i 0) := by
  unfold bytesW
  rw [List.take_succ_eq_append_getElem hi, List.flatMap_append]
  simp [List.getD_eq_getElem?_getD, hi]
theorem bytes_one (l : List Int) : (l.flatMap encB).all V.one = true := by
  rw [List.all_eq_true]
  intro v hv
  obtain ⟨x, _, hx⟩ := List.mem_flatMap.1 hv
  simp [encB] at hx; subst hx; rfl
theorem bytes_ltL (l : List Int) : V.ltL 0 (l.flatMap encB) = true := ltL_flat (fun _ _ => rfl) l 0
theorem take0 {a w : Int} (h : a % 4 = 0) (hw : (0 ≤ w ∧ w < 4294967296)) : takeV 4 a w = w := by
  unfold takeV
  rw [show pw a = 1 by unfold pw; rw [if_pos h], show qn 4 = 4294967296 from rfl]
  omega
def s32 : Sp := fun vs H Q => match vs with
  | [.int .i64 n, .fn f [.ptr (some (i, 0))] []] => f = 10 ∧ GLB H ∧ ∃ b l, RamAt H i b l ∧ n = 4 * (l.length : Int) ∧ OwnB H (bytesW l) Q
  | _ => False
theorem m32 : Mono s32 := by
  intro vs H Q Q' hQ h
  unfold s32 at h ⊢
  split at h
  · obtain ⟨h1, h2, b, l, h3, h4, h5⟩ := h
    exact ⟨h1, h2, b, l, h3, h4, h5.mono hQ⟩
  · exact h.elim
theorem k32 : Snd Tryd.prog 2 32 s32 := by
  refine snd_of_ev (by kernel_rfl) (C := tab [(22, s22), (10, s10)]) (sndC_cons k22 (sndC_cons k10 (sndC_nil))) x32 n32 c32 1100 ?_
  have hC : MonoC (tab [(22, s22), (10, s10)]) := monoC_cons m22 (monoC_cons m10 (monoC_nil))
  intro vs Hx Q hs
  unfold s32 at hs
  split at hs
  · rename_i n f i
    obtain ⟨rfl, hg, bb, l, hr, rfl, hq⟩ := hs
    have hn := hr.n
    suffices hh : ∀ k, 1050 < k → evFun (tab [(22, s22), (10, s10)]) k e32 [.int .i64 (4 * (l.length : Int)), .fn 10 [.ptr (some (i, 0))] []] Hx Q from hh _ (by omega)
    intro k hk
    refine evFun_in (tm := SV.v (.int .i64 (4 * (l.length : Int))) :: SV.v (.fn 10 [.ptr (some (i, 0))] []) :: undefV :: undefV :: undefV :: undefV :: undefV :: undefV :: undefV :: undefV :: undefV :: undefV :: undefV :: undefV :: undefV :: undefV :: undefV :: undefV :: undefV :: undefV :: undefV :: undefV :: undefV :: undefV :: []) rfl ?_
    show rC _ _ r32_0 _ _ _ _ _ _
    refine rC_seqH ?_
    repeat' (conv => whnf
             first
             | (refine Stop.mk ?_)
             | (refine fI_gen ?_; intro z hz)
             | (refine fO_gen ?_; intro z hz)
             | (refine dec_true (by assumption) ?_)
             | (refine dec_false (by assumption) ?_)
             | (refine dec_split (fun h => ?_) (fun h => ?_))
             | (apply silE)
             | (exact And.intro rfl (And.intro rfl (And.intro rfl rfl)))
             | (refine And.intro (by first | omega | ((simp only [decide_eq_true_eq, decide_eq_false_iff_not, Bool.and_eq_true, beq_iff_eq, Bool.not_eq_true', Bool.not_eq_false'] at *); omega) | (subst_vars; simp only [Int.ofNat_eq_natCast, tq_not, fq_not, tq_and, fq_and, tq_or, fq_or, tq_beq, fq_beq, tq_bne, fq_bne, tq_dec, fq_dec, one1, V.tup.injEq, V.agg.injEq, List.cons.injEq, V.int.injEq, V.bool.injEq, true_and, and_true, decide_eq_true_eq, decide_eq_false_iff_not, Bool.and_eq_true, Bool.and_eq_false_iff, Bool.or_eq_true, Bool.or_eq_false_iff, Bool.not_eq_true', Bool.not_eq_false', beq_iff_eq, wrap_u32, wrap_i64, wrap_u8, beq_eq_false_iff_ne, ne_eq, bne_iff_ne, bne_eq_false_iff_eq, eq_self, and_self, splice, V.cells, List.take_succ_cons, List.take_zero, List.take_nil, List.drop_zero, List.drop_succ_cons, List.drop_nil, List.cons_append, List.nil_append, List.append_nil, List.length_cons, List.length_nil, Nat.zero_add, Nat.reduceAdd, if_true, if_false, Bool.false_eq_true, beq_self_eq_true, decide_eq_decide, Bool.true_eq_false, or_false, false_or, or_true, true_or, and_false, false_and, not_true_eq_false, not_false_eq_true, Bool.and_true, Bool.true_and, Bool.not_true, Bool.not_false] at *; omega)) ?_)
             | (refine Exists.intro _ (Exists.intro _ (And.intro rfl ?_)))
             | (refine Exists.intro _ (And.intro rfl ?_))
             | (refine Exists.intro _ (Exists.intro _ (Exists.intro _ (Exists.intro _ (And.intro rfl ?_)))))
             | (refine ld_step rfl (by assumption) rfl ?_)
             | (refine lds_step rfl (by assumption) rfl ?_)
             | (refine fL_mk ?_)
             | (refine fH_mk ?_)
             | (refine fN_mk ?_)
             | (refine fLB_mk ?_)
             | (refine And.intro (by repeat (first | assumption | refine GLB_app ?_)) ?_)
             | (refine ld_step rfl ((rd_x0 _ _ _ _ _).trans rfl) rfl ?_)
             | (refine ld_step rfl ((rd_x1 _ _ _ _ _ _).trans rfl) rfl ?_)
             | (refine ld_step rfl ((rd_x2 _ _ _ _ _ _ _).trans rfl) rfl ?_)
             | (refine lds_step rfl ((rd_x0 _ _ _ _ _).trans rfl) rfl ?_)
             | (refine lds_step rfl ((rd_x1 _ _ _ _ _ _).trans rfl) rfl ?_)
             | (refine lds_step rfl ((rd_x2 _ _ _ _ _ _ _).trans rfl) rfl ?_)
             | (refine mem_step (st_eq rfl rfl rfl rfl (wr_last _ _ _ _ rfl)) ?_)
             | (refine drec_yes (by omega) ?_)
             | (refine drec_no (by omega) ?_)
             | (intro _)
             | fail)
    any_goals refine Halt.mk ?_
    any_goals show rC _ _ r32_1 _ _ _ _ _ _
    repeat' (conv => whnf
             first
             | (refine Stop.mk ?_)
             | (refine fI_mk ?_)
             | (refine fO_mk ?_)
             | (refine fN_mk ?_)
             | fail)
    conv => whnf
    refine rLoop_ctr4 (c := rC (tab [(22, s22), (10, s10)]) k l32_0) l.length 5 (false :: false :: false :: false :: true :: false :: true :: true :: true :: true :: true :: true :: true :: true :: true :: true :: true :: true :: true :: true :: true :: true :: true :: false :: []) (fun i tm L H e g => (∃ X w, svAt tm 4 = .v w ∧ H = Hx ++ X ∧ Own Hx.length H 5 1 w ((bytesW (l.take i)).flatMap encB) ∧ (i = 0 ∨ g = true)) ∧ L = [] ∧ e = false) (by omega) rfl ⟨⟨[], _, rfl, (List.append_nil _).symm, Own.nil _ _ _ _, Or.inl rfl⟩, rfl, rfl⟩ ?_
    intro i0 hi0
    conv => whnf
    intro j
    conv => whnf
    intro j
    conv => whnf
    intro j
    conv => whnf
    intro j
    conv => whnf
    intro j
    conv => whnf
    intro j
    conv => whnf
    intro j
    conv => whnf
    intro j
    conv => whnf
    intro j
    conv => whnf
    intro j
    conv => whnf
    intro j
    conv => whnf
    intro j
    conv => whnf
    intro j
    conv => whnf
    intro j
    conv => whnf
    intro j
    conv => whnf
    intro j
    conv => whnf
    intro j
    conv => whnf
    intro j
    conv => whnf
    refine Halt.mk ?_
    rintro L H' e g ⟨⟨X, w, h4, rfl, hown, hgi⟩, rfl, rfl⟩ K kn kx kr
    conv at h4 => lhs; whnf
    subst h4
    repeat' (conv => whnf
             first
             | (refine Stop.mk ?_)
             | (refine fI_mk ?_)
             | (refine fO_mk ?_)
             | (refine fN_mk ?_)
             | fail)
    conv => whnf
    refine dec_split (fun h => ?_) (fun h => ?_)
    · have hlt : i0 < l.length := by have := of_decide_eq_true h; omega
      clear kx kr
      have hP : hasP l.length (4 * (i0 : Int)) 4 := ⟨by omega, by omega, ⟨Or.inr (Or.inr rfl), by omega⟩⟩
      have hj : (4 * (i0 : Int) / 4).toNat = i0 := by omega
      have hb := hr.bd i0
      have hv : (if hasP l.length (4 * (i0 : Int)) 4 then takeV 4 (4 * (i0 : Int)) (l.getD (4 * (i0 : Int) / 4).toNat 0) else 0) = l.getD i0 0 := by rw [if_pos hP, hj]; exact take0 (by omega) hb
      have h44 : okS 4 := Or.inr (Or.inr rfl)
      have hlen : (bytesW (l.take i0)).length = 4 * i0 := by rw [bytesW_len, List.length_take]; omega
      repeat' (conv => whnf
               first
               | (refine Stop.mk ?_)
               | (refine fI_is hv ?_)
               | (refine fO_is (decide_eq_true hP) ?_)
               | (refine fI_i64 (by first | omega | (simp only [Int.ofNat_eq_natCast] at *; omega)) ?_; intro z hz)
               | (refine fI_u32 (by first | omega | (simp only [Int.ofNat_eq_natCast] at *; omega)) ?_; intro z hz)
               | (refine fI_u8 (by first | omega | (simp only [Int.ofNat_eq_natCast] at *; omega)) ?_; intro z hz)
               | (refine fI_u64 (by first | omega | (simp only [Int.ofNat_eq_natCast] at *; omega)) ?_; intro z hz)
               | (refine fI_tdiv (by first | omega | (simp only [Int.ofNat_eq_natCast] at *; omega)) ?_; intro z hz)
               | (refine fI_tmod (by first | omega | (simp only [Int.ofNat_eq_natCast] at *; omega)) ?_; intro z hz)
               | (refine fI_gen ?_; intro z hz)
               | (refine fO_gen ?_; intro z hz)
               | (refine ⟨⟨by omega, by omega⟩, GLB_app hg, _, _, hr.app X, ?_⟩)
               | (refine ⟨⟨hb, h44⟩, GLB_app hg, ?_⟩; intro b2 cap2 X2 ws2 q1 q2 q3 q4)
               | (refine app_own1 (List.append_assoc _ _ _) rfl rfl (hown.app _) (news_eq (n := 4) (rd_block q3 (by rw [flat_len encB_len, bytesV_len]; rfl)) (bytes_one _)) rfl (by rw [flat_len encB_len, bytesV_len]; rfl) (bytes_one _) (by omega) (by omega) (by rw [flat_len encB_len, flat_len encB_len, bytesV_len, hlen]; show (4 * i0 * 1 + 4 * 1) * 1 ≤ _; omega) (by rw [flat_len encB_len, flat_len encB_len, bytesV_len, hlen]; show 4 * i0 * 1 + 4 * 1 < _; omega) (bytes_ltL _) ?_; intro w' X' g' hown' hg1 hX)
               | (refine dec_true (by assumption) ?_)
               | (refine dec_false (by assumption) ?_)
               | (refine dec_split (fun h => ?_) (fun h => ?_))
               | (apply silE)
               | (exact And.intro rfl (And.intro rfl (And.intro rfl rfl)))
               | (refine And.intro (by first | omega | ((simp only [decide_eq_true_eq, decide_eq_false_iff_not, Bool.and_eq_true, beq_iff_eq, Bool.not_eq_true', Bool.not_eq_false'] at *); omega) | (subst_vars; simp only [Int.ofNat_eq_natCast, tq_not, fq_not, tq_and, fq_and, tq_or, fq_or, tq_beq, fq_beq, tq_bne, fq_bne, tq_dec, fq_dec, one1, V.tup.injEq, V.agg.injEq, List.cons.injEq, V.int.injEq, V.bool.injEq, true_and, and_true, decide_eq_true_eq, decide_eq_false_iff_not, Bool.and_eq_true, Bool.and_eq_false_iff, Bool.or_eq_true, Bool.or_eq_false_iff, Bool.not_eq_true', Bool.not_eq_false', beq_iff_eq, wrap_u32, wrap_i64, wrap_u8, beq_eq_false_iff_ne, ne_eq, bne_iff_ne, bne_eq_false_iff_eq, eq_self, and_self, splice, V.cells, List.take_succ_cons, List.take_zero, List.take_nil, List.drop_zero, List.drop_succ_cons, List.drop_nil, List.cons_append, List.nil_append, List.append_nil, List.length_cons, List.length_nil, Nat.zero_add, Nat.reduceAdd, if_true, if_false, Bool.false_eq_true, beq_self_eq_true, decide_eq_decide, Bool.true_eq_false, or_false, false_or, or_true, true_or, and_false, false_and, not_true_eq_false, not_false_eq_true, Bool.and_true, Bool.true_and, Bool.not_true, Bool.not_false] at *; omega)) ?_)
               | (refine Exists.intro _ (Exists.intro _ (And.intro rfl ?_)))
               | (refine Exists.intro _ (And.intro rfl ?_))
               | (refine Exists.intro _ (Exists.intro _ (Exists.intro _ (Exists.intro _ (And.intro rfl ?_)))))
               | (refine ld_step rfl (by assumption) rfl ?_)
               | (refine lds_step rfl (by assumption) rfl ?_)
               | (refine fL_mk ?_)
               | (refine fH_mk ?_)
               | (refine fN_mk ?_)
               | (refine fLB_mk ?_)
               | (refine And.intro (by repeat (first | assumption | refine GLB_app ?_)) ?_)
               | (refine ld_step rfl ((rd_x0 _ _ _ _ _).trans rfl) rfl ?_)
               | (refine ld_step rfl ((rd_x1 _ _ _ _ _ _).trans rfl) rfl ?_)
               | (refine ld_step rfl ((rd_x2 _ _ _ _ _ _ _).trans rfl) rfl ?_)
               | (refine lds_step rfl ((rd_x0 _ _ _ _ _).trans rfl) rfl ?_)
               | (refine lds_step rfl ((rd_x1 _ _ _ _ _ _).trans rfl) rfl ?_)
               | (refine lds_step rfl ((rd_x2 _ _ _ _ _ _ _).trans rfl) rfl ?_)
               | (refine mem_step (st_eq rfl rfl rfl rfl (wr_last _ _ _ _ rfl)) ?_)
               | (refine drec_yes (by omega) ?_)
               | (refine drec_no (by omega) ?_)
               | (intro _)
               | fail)
      conv => whnf
      subst hz
      refine kn hlt _ _ _ _ _ rfl ⟨⟨X', w', rfl, rfl, ?_, Or.inr (hg1 (Bool.or_true _))⟩, rfl, rfl⟩
      rw [bytesW_take hlt, List.flatMap_append]
      exact hown'
    · clear kn kr
      have hie : i0 = l.length := by have := of_decide_eq_false h; omega
      subst hie
      obtain rfl : g = true := by rcases hgi with hgi | hgi; omega; exact hgi
      rw [List.take_length] at hown
      obtain ⟨b, cap, ws, rfl, h1, h2, h3, h4⟩ := own_out hown (by intro hh; have := bytesW_len l; rw [hh] at this; simp at this; omega)
      repeat' (conv => whnf
               first
               | (refine Stop.mk ?_)
               | (refine fI_gen ?_; intro z hz)
               | (refine fO_gen ?_; intro z hz)
               | (refine kx _ _ _ _ _ _ ?_)
               | (refine dec_true (by assumption) ?_)
               | (refine dec_false (by assumption) ?_)
               | (refine dec_split (fun h => ?_) (fun h => ?_))
               | (apply silE)
               | (exact And.intro rfl (And.intro rfl (And.intro rfl rfl)))
               | (refine And.intro (by first | omega | ((simp only [decide_eq_true_eq, decide_eq_false_iff_not, Bool.and_eq_true, beq_iff_eq, Bool.not_eq_true', Bool.not_eq_false'] at *); omega) | (subst_vars; simp only [Int.ofNat_eq_natCast, tq_not, fq_not, tq_and, fq_and, tq_or, fq_or, tq_beq, fq_beq, tq_bne, fq_bne, tq_dec, fq_dec, one1, V.tup.injEq, V.agg.injEq, List.cons.injEq, V.int.injEq, V.bool.injEq, true_and, and_true, decide_eq_true_eq, decide_eq_false_iff_not, Bool.and_eq_true, Bool.and_eq_false_iff, Bool.or_eq_true, Bool.or_eq_false_iff, Bool.not_eq_true', Bool.not_eq_false', beq_iff_eq, wrap_u32, wrap_i64, wrap_u8, beq_eq_false_iff_ne, ne_eq, bne_iff_ne, bne_eq_false_iff_eq, eq_self, and_self, splice, V.cells, List.take_succ_cons, List.take_zero, List.take_nil, List.drop_zero, List.drop_succ_cons, List.drop_nil, List.cons_append, List.nil_append, List.append_nil, List.length_cons, List.length_nil, Nat.zero_add, Nat.reduceAdd, if_true, if_false, Bool.false_eq_true, beq_self_eq_true, decide_eq_decide, Bool.true_eq_false, or_false, false_or, or_true, true_or, and_false, false_and, not_true_eq_false, not_false_eq_true, Bool.and_true, Bool.true_and, Bool.not_true, Bool.not_false] at *; omega)) ?_)
               | (refine Exists.intro _ (Exists.intro _ (And.intro rfl ?_)))
               | (refine Exists.intro _ (And.intro rfl ?_))
               | (refine Exists.intro _ (Exists.intro _ (Exists.intro _ (Exists.intro _ (And.intro rfl ?_)))))
               | (refine ld_step rfl (by assumption) rfl ?_)
               | (refine lds_step rfl (by assumption) rfl ?_)
               | (refine fL_mk ?_)
               | (refine fH_mk ?_)
               | (refine fN_mk ?_)
               | (refine fLB_mk ?_)
               | (refine And.intro (by repeat (first | assumption | refine GLB_app ?_)) ?_)
               | (refine ld_step rfl ((rd_x0 _ _ _ _ _).trans rfl) rfl ?_)
               | (refine ld_step rfl ((rd_x1 _ _ _ _ _ _).trans rfl) rfl ?_)
               | (refine ld_step rfl ((rd_x2 _ _ _ _ _ _ _).trans rfl) rfl ?_)
               | (refine lds_step rfl ((rd_x0 _ _ _ _ _).trans rfl) rfl ?_)
               | (refine lds_step rfl ((rd_x1 _ _ _ _ _ _).trans rfl) rfl ?_)
               | (refine lds_step rfl ((rd_x2 _ _ _ _ _ _ _).trans rfl) rfl ?_)
               | (refine mem_step (st_eq rfl rfl rfl rfl (wr_last _ _ _ _ rfl)) ?_)
               | (refine drec_yes (by omega) ?_)
               | (refine drec_no (by omega) ?_)
               | (intro _)
               | fail)
      conv => whnf
      refine drec_no (by simp [one1, V.lt, V.ltL]; omega) ?_
      exact hq b cap X ws h1 h2 h3 h4
  · exact hs.elim
def s18 : Sp := fun vs H Q => match vs with
  | [.ptr (some (i, 0))] => GLB H ∧ ∃ b l, RamAt H i b l ∧ OwnB H (bytesW l) Q
  | _ => False
theorem m18 : Mono s18 := by
  intro vs H Q Q' hQ h
  unfold s18 at h ⊢
  split at h
  · obtain ⟨h2, b, l, h3, h5⟩ := h
    exact ⟨h2, b, l, h3, h5.mono hQ⟩
  · exact h.elim
theorem k18 : Snd Tryd.prog 2 18 s18 := by
  refine snd_of_ev (by kernel_rfl) (C := tab [(12, s12), (32, s32)]) (sndC_cons k12 (sndC_cons k32 (sndC_nil))) x18 n18 c18 30 ?_
  intro vs Hx Q hs
  unfold s18 at hs
  split at hs
  · rename_i i
    obtain ⟨hg, b, l, hr, hq⟩ := hs
    repeat' (conv => whnf
             first
             | (refine Stop.mk ?_)
             | (with_reducible refine fI_is (a := 4 * (l.length : Int)) rfl ?_)
             | (refine fI_gen ?_; intro z hz)
             | (refine fO_gen ?_; intro z hz)
             | (refine ⟨_, _, hr, ?_⟩)
             | (refine ⟨rfl, hg, _, _, hr, rfl, ?_⟩; intro b2 cap2 X2 ws2 q1 q2 q3 q4)
             | (refine dec_true (by assumption) ?_)
             | (refine dec_false (by assumption) ?_)
             | (refine dec_split (fun h => ?_) (fun h => ?_))
             | (apply silE)
             | (exact And.intro rfl (And.intro rfl (And.intro rfl rfl)))
             | (refine And.intro (by first | omega | ((simp only [decide_eq_true_eq, decide_eq_false_iff_not, Bool.and_eq_true, beq_iff_eq, Bool.not_eq_true', Bool.not_eq_false'] at *); omega) | (subst_vars; simp only [Int.ofNat_eq_natCast, tq_not, fq_not, tq_and, fq_and, tq_or, fq_or, tq_beq, fq_beq, tq_bne, fq_bne, tq_dec, fq_dec, one1, V.tup.injEq, V.agg.injEq, List.cons.injEq, V.int.injEq, V.bool.injEq, true_and, and_true, decide_eq_true_eq, decide_eq_false_iff_not, Bool.and_eq_true, Bool.and_eq_false_iff, Bool.or_eq_true, Bool.or_eq_false_iff, Bool.not_eq_true', Bool.not_eq_false', beq_iff_eq, wrap_u32, wrap_i64, wrap_u8, beq_eq_false_iff_ne, ne_eq, bne_iff_ne, bne_eq_false_iff_eq, eq_self, and_self, splice, V.cells, List.take_succ_cons, List.take_zero, List.take_nil, List.drop_zero, List.drop_succ_cons, List.drop_nil, List.cons_append, List.nil_append, List.append_nil, List.length_cons, List.length_nil, Nat.zero_add, Nat.reduceAdd, if_true, if_false, Bool.false_eq_true, beq_self_eq_true, decide_eq_decide, Bool.true_eq_false, or_false, false_or, or_true, true_or, and_false, false_and, not_true_eq_false, not_false_eq_true, Bool.and_true, Bool.true_and, Bool.not_true, Bool.not_false] at *; omega)) ?_)
             | (refine Exists.intro _ (Exists.intro _ (And.intro rfl ?_)))
             | (refine Exists.intro _ (And.intro rfl ?_))
             | (refine Exists.intro _ (Exists.intro _ (Exists.intro _ (Exists.intro _ (And.intro rfl ?_)))))
             | (refine ld_step rfl (by assumption) rfl ?_)
             | (refine lds_step rfl (by assumption) rfl ?_)
             | (refine fL_mk ?_)
             | (refine fH_mk ?_)
             | (refine fN_mk ?_)
             | (refine fLB_mk ?_)
             | (refine And.intro (by repeat (first | assumption | refine GLB_app ?_)) ?_)
             | (refine ld_step rfl ((rd_x0 _ _ _ _ _).trans rfl) rfl ?_)
             | (refine ld_step rfl ((rd_x1 _ _ _ _ _ _).trans rfl) rfl ?_)
             | (refine ld_step rfl ((rd_x2 _ _ _ _ _ _ _).trans rfl) rfl ?_)
             | (refine lds_step rfl ((rd_x0 _ _ _ _ _).trans rfl) rfl ?_)
             | (refine lds_step rfl ((rd_x1 _ _ _ _ _ _).trans rfl) rfl ?_)
             | (refine lds_step rfl ((rd_x2 _ _ _ _ _ _ _).trans rfl) rfl ?_)
             | (refine mem_step (st_eq rfl rfl rfl rfl (wr_last _ _ _ _ rfl)) ?_)
             | (refine drec_yes (by omega) ?_)
             | (refine drec_no (by omega) ?_)
             | (intro _)
             | fail)
    conv => whnf
    refine drec_no (by simp [one1, V.lt, V.ltL]; omega) ?_
    exact hq b2 cap2 X2 ws2 q1 q2 q3 q4
  · exact hs.elim
theorem clr_eq {tm : List SV} {L : List LB} {H : List B} {e g : Bool} {x : Opd} {i b : Nat} {l : List Int} (hr : RamAt H i b l) (hx : x.val tm = some (.sl (some (b, 0)) l.length l.length)) :
    memOp tm L H e g (.clr [.int .u32 0] x) = some (.v (.tup []), L, H.set b (WB (List.replicate l.length 0)), e, g) := by
  have h1 : wr H b 0 (reps l.length [.int .u32 0]) = some (H.set b (WB (List.replicate l.length 0))) := by
    unfold wr; rw [hr.w]
    unfold WB
    simp only []
    rw [reps_ws, if_pos (by rw [wsV_len, wsV_len]; simp)]
    congr 3
    unfold splice
    rw [wsV_len, List.length_replicate, List.take_zero, List.nil_append, List.drop_eq_nil_of_le (by rw [wsV_len]; omega), List.append_nil]
  simp only [memOp, hx, h1]
def s16 : Sp := fun vs H Q => match vs with
  | [.ptr (some (i, 0))] => ∃ b l, RamAt H i b l ∧Q (.tup []) (H.set b (WB (List.replicate l.length 0))) false false
  | _ => False
theorem m16 : Mono s16 := by
  intro vs H Q Q' hQ h
  unfold s16 at h ⊢
  split at h
  all_goals first
    | exact h.elim
    | (repeat' (first | exact hQ _ _ _ _ h | refine And.imp_right (fun h => ?_) h | refine Exists.imp (fun _ h => ?_) h | (intro z; replace h := h z)))
theorem k16 : Snd Tryd.prog 2 16 s16 := by
  refine snd_of_ev (by kernel_rfl) (C := tab []) (sndC_nil) x16 n16 c16 30 ?_
  intro vs H Q hs
  unfold s16 at hs
  split at hs
  · rename_i i
    obtain ⟨b, l, hr, hq⟩ := hs
    repeat' (conv => whnf
             first
             | (refine Stop.mk ?_)
             | (refine fI_gen ?_; intro z hz)
             | (refine fO_gen ?_; intro z hz)
             | (refine ld_step rfl hr.rd1 rfl ?_)
             | (refine mem_step (clr_eq hr rfl) ?_)
             | (refine dec_true (by assumption) ?_)
             | (refine dec_false (by assumption) ?_)
             | (refine dec_split (fun h => ?_) (fun h => ?_))
             | (apply silE)
             | (exact And.intro rfl (And.intro rfl (And.intro rfl rfl)))
             | (refine And.intro (by first | omega | ((simp only [decide_eq_true_eq, decide_eq_false_iff_not, Bool.and_eq_true, beq_iff_eq, Bool.not_eq_true', Bool.not_eq_false'] at *); omega) | (subst_vars; simp only [Int.ofNat_eq_natCast, tq_not, fq_not, tq_and, fq_and, tq_or, fq_or, tq_beq, fq_beq, tq_bne, fq_bne, tq_dec, fq_dec, one1, V.tup.injEq, V.agg.injEq, List.cons.injEq, V.int.injEq, V.bool.injEq, true_and, and_true, decide_eq_true_eq, decide_eq_false_iff_not, Bool.and_eq_true, Bool.and_eq_false_iff, Bool.or_eq_true, Bool.or_eq_false_iff, Bool.not_eq_true', Bool.not_eq_false', beq_iff_eq, wrap_u32, wrap_i64, wrap_u8, beq_eq_false_iff_ne, ne_eq, bne_iff_ne, bne_eq_false_iff_eq, eq_self, and_self, splice, V.cells, List.take_succ_cons, List.take_zero, List.take_nil, List.drop_zero, List.drop_succ_cons, List.drop_nil, List.cons_append, List.nil_append, List.append_nil, List.length_cons, List.length_nil, Nat.zero_add, Nat.reduceAdd, if_true, if_false, Bool.false_eq_true, beq_self_eq_true, decide_eq_decide, Bool.true_eq_false, or_false, false_or, or_true, true_or, and_false, false_and, not_true_eq_false, not_false_eq_true, Bool.and_true, Bool.true_and, Bool.not_true, Bool.not_false] at *; omega)) ?_)
             | (refine Exists.intro _ (Exists.intro _ (And.intro rfl ?_)))
             | (refine Exists.intro _ (And.intro rfl ?_))
             | (refine Exists.intro _ (Exists.intro _ (Exists.intro _ (Exists.intro _ (And.intro rfl ?_)))))
             | (refine ld_step rfl (by assumption) rfl ?_)
             | (refine lds_step rfl (by assumption) rfl ?_)
             | (refine fL_mk ?_)
             | (refine fH_mk ?_)
             | (refine fN_mk ?_)
             | (refine fLB_mk ?_)
             | (refine And.intro (by repeat (first | assumption | refine GLB_app ?_)) ?_)
             | (refine ld_step rfl ((rd_x0 _ _ _ _ _).trans rfl) rfl ?_)
             | (refine ld_step rfl ((rd_x1 _ _ _ _ _ _).trans rfl) rfl ?_)
             | (refine ld_step rfl ((rd_x2 _ _ _ _ _ _ _).trans rfl) rfl ?_)
             | (refine lds_step rfl ((rd_x0 _ _ _ _ _).trans rfl) rfl ?_)
             | (refine lds_step rfl ((rd_x1 _ _ _ _ _ _).trans rfl) rfl ?_)
             | (refine lds_step rfl ((rd_x2 _ _ _ _ _ _ _).trans rfl) rfl ?_)
             | (refine mem_step (st_eq rfl rfl rfl rfl (wr_last _ _ _ _ rfl)) ?_)
             | (refine drec_yes (by omega) ?_)
             | (refine drec_no (by omega) ?_)
             | (intro _)
             | fail)
    all_goals
      conv => whnf
      exact hq
  · exact hs.elim
end Go.Ev
