/- dev: AccessBack -/
import Derived.Test.YtngbaiiokdladaaDoorKawk4
set_option linter.all false
namespace Go.Ev
open Go Go.Proofs
set_option maxRecDepth 4000
set_option maxHeartbeats 4000000
theorem dec_rec {w : Int} {wr : Bool} {a n d : Int} (h : accP w wr a n d) (ha : (0 ≤ a ∧ a < 4294967296)) (hd : (0 ≤ d ∧ d < 4294967296)) : decV (recV w wr a n d) = .tup [.agg [.int .i64 w, .bool wr, .int .u32 a, .int .i64 n, .int .u32 d], .int .i64 0] := by
  have e1 : dW (recV w wr a n d) = w := by show w % 256 = w; have := h.1; omega
  have e2 : dWr (recV w wr a n d) = wr := by
    show (flV wr n % 2 != 0) = wr
    rcases h.2.2.1 with rfl | rfl | rfl <;> cases wr <;> decide
  have e3 : dN (recV w wr a n d) = n := by
    show (if flV wr n - flV wr n % 2 = 2 then 2 else if flV wr n - flV wr n % 2 = 4 then 4 else 1) = n
    rcases h.2.2.1 with rfl | rfl | rfl <;> cases wr <;> decide
  have e4 : dA (recV w wr a n d) = a := by
    have := ofB_bytes (n := 4) (by decide) ha.1 ha.2
    rw [lowV4] at this
    exact this
  have e5 : dD (recV w wr a n d) = d := by
    have := ofB_bytes (n := 4) (by decide) hd.1 hd.2
    rw [lowV4] at this
    exact this
  have hk : okR (recV w wr a n d) := ⟨recV_len _ _ _ _ _, by rw [e1, e2, e3, e4, e5]; exact h, by rw [e1, e2, e3, e4, e5]⟩
  rw [decV_ok hk, e1, e2, e3, e4, e5]
theorem recV_bd {w : Int} {wr : Bool} {a n d : Int} : ∀ x, x ∈ recV w wr a n d → 0 ≤ x ∧ x < 256 := by
  intro x hx
  unfold recV at hx
  simp only [List.mem_append, List.mem_cons, List.not_mem_nil, or_false] at hx
  have hf : 0 ≤ flV wr n ∧ flV wr n ≤ 5 := by unfold flV; repeat' (split) <;> omega
  rcases hx with (((rfl | rfl | rfl | rfl)) | hx) | hx
  · omega
  · omega
  · omega
  · omega
  · exact bytesV_bd _ _ x hx
  · exact bytesV_bd _ _ x hx
theorem okR_bd {l : List Int} (h : okR l) (hb : ∀ x, x ∈ l → 0 ≤ x ∧ x < 256) : (0 ≤ dA l ∧ dA l < 4294967296) ∧ (0 ≤ dD l ∧ dD l < 4294967296) ∧ (-9223372036854775808 ≤ dN l ∧ dN l < 9223372036854775808) := by
  have := h.2.1.2.2.1
  refine ⟨?_, ?_, ?_⟩
  · obtain ⟨a0, a1, a2, a3, a4, a5, a6, a7, a8, a9, a10, a11, rfl⟩ := len12 h.1
    exact ofB4_bd (hb a4 (by simp)) (hb a5 (by simp)) (hb a6 (by simp)) (hb a7 (by simp))
  · obtain ⟨a0, a1, a2, a3, a4, a5, a6, a7, a8, a9, a10, a11, rfl⟩ := len12 h.1
    exact ofB4_bd (hb a8 (by simp)) (hb a9 (by simp)) (hb a10 (by simp)) (hb a11 (by simp))
  · unfold okS at this; omega
theorem acc_fit {w : Int} {wr : Bool} {a n d : Int} (h : accP w wr a n d) (ha : (0 ≤ a ∧ a < 4294967296)) : (1 ≤ n ∧ n ≤ 4294967296 - a) ∧ ¬ ((a + n - 1) % 4 < a % 4) := by
  refine ⟨alP_fit h.2.1 ha.1 ha.2, ?_⟩
  have := h.2.1.2
  rcases h.2.2.1 with rfl | rfl | rfl <;> omega
def s17l : Sp := fun vs H Q => match vs with
  | [.sl p n c] => 12 < n ∧ Q (.tup [.agg [.int .i64 0, .bool false, .int .u32 0, .int .i64 0, .int .u32 0], .int .i64 3]) H false false
  | _ => False
theorem m17l : Mono s17l := by
  intro vs H Q Q' hQ h
  unfold s17l at h ⊢
  split at h
  all_goals first
    | exact h.elim
    | (repeat' (first | exact hQ _ _ _ _ h | refine And.imp_right (fun h => ?_) h | refine Exists.imp (fun _ h => ?_) h | (intro z; replace h := h z)))
theorem k17l : Snd Tryd.prog 1 17 s17l := by
  refine snd_of_ev (by kernel_rfl) (C := tab [(12, s12), (33, s33), (34, s34)]) (sndC_cons k12 (sndC_cons k33 (sndC_cons k34 (sndC_nil)))) x17 n17 c17 30 ?_
  intro vs H Q hs
  unfold s17l at hs
  split at hs
  · rename_i p n c
    obtain ⟨hn, hq⟩ := hs
    have hd : decide ((n : Int) > 12) = true := decide_eq_true (by omega)
    repeat' (conv => whnf
             first
             | (refine Stop.mk ?_)
             | (with_reducible refine fI_is (a := (n : Int)) rfl ?_)
             | (refine fO_is hd ?_)
             | (refine fI_gen ?_; intro z hz)
             | (refine fO_gen ?_; intro z hz)
             | (refine dec_true (by assumption) ?_)
             | (refine dec_false (by assumption) ?_)
             | (refine dec_split (fun h => ?_) (fun h => ?_))
             | (apply silE)
             | (refine Both.mk ?_ ?_)
             | (refine And.intro rfl ?_)
             | (exact And.intro rfl (And.intro rfl (And.intro rfl rfl)))
             | (refine And.intro (by first | omega | ((simp only [decide_eq_true_eq, decide_eq_false_iff_not, Bool.and_eq_true, beq_iff_eq, Bool.not_eq_true', Bool.not_eq_false'] at *); omega) | (subst_vars; simp only [Int.ofNat_eq_natCast, tq_not, fq_not, tq_and, fq_and, tq_or, fq_or, tq_beq, fq_beq, tq_bne, fq_bne, tq_dec, fq_dec, one1, V.tup.injEq, V.agg.injEq, List.cons.injEq, V.int.injEq, V.bool.injEq, true_and, and_true, decide_eq_true_eq, decide_eq_false_iff_not, Bool.and_eq_true, Bool.and_eq_false_iff, Bool.or_eq_true, Bool.or_eq_false_iff, Bool.not_eq_true', Bool.not_eq_false', beq_iff_eq, wrap_u32, wrap_i64, wrap_u8, beq_eq_false_iff_ne, ne_eq, bne_iff_ne, bne_eq_false_iff_eq, eq_self, and_self, splice, V.cells, List.take_succ_cons, List.take_zero, List.take_nil, List.drop_zero, List.drop_succ_cons, List.drop_nil, List.cons_append, List.nil_append, List.append_nil, List.length_cons, List.length_nil, Nat.zero_add, Nat.reduceAdd, if_true, if_false, Bool.false_eq_true, beq_self_eq_true, decide_eq_decide, Bool.true_eq_false, or_false, false_or, or_true, true_or, and_false, false_and, not_true_eq_false, not_false_eq_true, Bool.and_true, Bool.true_and, Bool.not_true, Bool.not_false] at *; omega)) ?_)
             | (refine Exists.intro _ (Exists.intro _ (And.intro rfl ?_)))
             | (refine Exists.intro _ (And.intro rfl ?_))
             | (refine Exists.intro _ (Exists.intro _ (Exists.intro _ (Exists.intro _ (And.intro rfl ?_)))))
             | (refine ld_step rfl (by assumption) rfl ?_)
             | (refine lds_step rfl (by assumption) rfl ?_)
             | (refine fL_mk ?_)
             | (refine fH_mk ?_)
             | (refine fN_mk ?_)
             | (refine fLB_mk ?_)
             | (refine And.intro (by repeat (first | assumption | refine GLB_app ?_)) ?_)
             | (refine ld_step rfl ((rd_x0 _ _ _ _ _).trans rfl) rfl ?_)
             | (refine ld_step rfl ((rd_x1 _ _ _ _ _ _).trans rfl) rfl ?_)
             | (refine ld_step rfl ((rd_x2 _ _ _ _ _ _ _).trans rfl) rfl ?_)
             | (refine lds_step rfl ((rd_x0 _ _ _ _ _).trans rfl) rfl ?_)
             | (refine lds_step rfl ((rd_x1 _ _ _ _ _ _).trans rfl) rfl ?_)
             | (refine lds_step rfl ((rd_x2 _ _ _ _ _ _ _).trans rfl) rfl ?_)
             | (refine mem_step (st_eq rfl rfl rfl rfl (wr_last _ _ _ _ rfl)) ?_)
             | (refine drec_yes (by omega) ?_)
             | (refine drec_no (by omega) ?_)
             | (intro _)
             | fail)
    all_goals (conv => whnf)
    all_goals exact leafE hq rfl
  · exact hs.elim
def s17x : Sp := fun vs H Q => s17 vs H Q ∨ s17l vs H Q
theorem m17x : Mono s17x := fun vs H Q Q' hQ h => h.imp (m17 vs H Q Q' hQ) (m17l vs H Q Q' hQ)
theorem k17x : Snd Tryd.prog 1 17 s17x := snd_or k17 k17l
def s7 : Sp := fun vs H Q => match vs with
  | [.agg [.int .i64 w, .bool wr, .int .u32 a, .int .i64 n, .int .u32 d], .sl p m c] => ((0 ≤ a ∧ a < 4294967296) ∧ (0 ≤ d ∧ d < 4294967296) ∧ (-9223372036854775808 ≤ n ∧ n < 9223372036854775808) ∧ (-9223372036854775808 ≤ w ∧ w < 9223372036854775808)) ∧ GLB H ∧ ∃ l : List Int, m = l.length ∧ m ≤ c ∧ c < 9223372036854775808 ∧ (∀ x, x ∈ l → 0 ≤ x ∧ x < 256) ∧ RdB H p l ∧ Q (.bool true) H false false
  | _ => False
theorem m7 : Mono s7 := by
  intro vs H Q Q' hQ h
  unfold s7 at h ⊢
  split at h
  · obtain ⟨hp, hg, l, h1, h2, h3, h4, h5, h6⟩ := h
    exact ⟨hp, hg, l, h1, h2, h3, h4, h5, hQ _ _ _ _ h6⟩
  · exact h.elim
theorem k7 : Snd Tryd.prog 1 7 s7 := by
  refine snd_of_ev (by kernel_rfl) (C := tab [(12, s12), (8, s8), (11, s11), (17, s17x), (18, s18), (19, s19), (13, s13)]) (sndC_cons k12 (sndC_cons k8 (sndC_cons k11 (sndC_cons k17x (sndC_cons k18 (sndC_cons k19 (sndC_cons k13 (sndC_nil)))))))) x7 n7 c7 30 ?_
  intro vs H Q hs
  unfold s7 at hs
  split at hs
  · rename_i w wr a n d p m c
    obtain ⟨⟨pa, pd, pn, pw⟩, hg, l, rfl, hc, hc2, hb, hr, hq⟩ := hs
    have hfit := fun h : accP w wr a n d => acc_fit h pa
    have hsz : accP w wr a n d → (if a ≤ a + n - 1 then a + n - 1 - a + 1 else 0) = n := fun h => by have := (hfit h).1; rw [if_pos (by omega)]; omega
    have hmo : accP w wr a n d → (a ≤ a + n - 1 ∧ a + n - 1 < 4294967296) ∧ ¬ (a + n - 1 < a) ∧ ¬ ((a + n - 1) % 4 < a % 4) := fun h => by have := hfit h; omega
    have hrl : ∀ w wr a n d, (recV w wr a n d).length ≤ 4096 := fun w wr a n d => by rw [recV_len]; decide
    obtain ⟨V2, hV2, hcs⟩ : ∃ V2, V2 = decV l ∧ (okR l ∨ ¬ okR l ∧ l.length ≤ 12 ∨ ¬ okR l ∧ 12 < l.length) := ⟨_, rfl, by by_cases h : okR l; exact Or.inl h; by_cases h2 : 12 < l.length; exact Or.inr (Or.inr ⟨h, h2⟩); exact Or.inr (Or.inl ⟨h, by omega⟩)⟩
    rcases hcs with hk | ⟨hk, h12⟩ | ⟨hk, h12⟩
    · have hv := decV_ok hk
      have hbd := okR_bd hk hb
      have hl : l.length ≤ 4096 := by rw [hk.1]; decide
      have heq : decide (recV (dW l) (dWr l) (dA l) (dN l) (dD l) = l) = true := decide_eq_true hk.2.2.symm
      by_cases h1 : accP w wr a n d
      · have hm := hmo h1
        repeat' (conv => whnf
                 first
                 | (refine Stop.mk ?_)
                 | (with_reducible refine fI_is (a := dW l) rfl ?_)
                 | (with_reducible refine fI_is (a := dA l) rfl ?_)
                 | (with_reducible refine fI_is (a := dN l) rfl ?_)
                 | (with_reducible refine fI_is (a := dD l) rfl ?_)
                 | (with_reducible refine fO_is (a := dWr l) rfl ?_)
                 | (refine fO_is (decide_eq_true h1) ?_)
                 | (refine fO_is (decide_eq_false h1) ?_)
                 | (refine fO_is hd ?_)
                 | (refine fO_is heq ?_)
                 | (refine fI_is (if_pos h1) ?_)
                 | (refine fI_is (hsz h1) ?_)
                 | (with_reducible refine fI_is (a := (l.length : Int)) rfl ?_)
                 | (refine fI_i64 (by first | omega | (simp only [Int.ofNat_eq_natCast] at *; omega)) ?_; intro z hz)
                 | (refine fI_u32 (by first | omega | (simp only [Int.ofNat_eq_natCast] at *; omega)) ?_; intro z hz)
                 | (refine fI_u8 (by first | omega | (simp only [Int.ofNat_eq_natCast] at *; omega)) ?_; intro z hz)
                 | (refine fI_u64 (by first | omega | (simp only [Int.ofNat_eq_natCast] at *; omega)) ?_; intro z hz)
                 | (refine fI_tdiv (by first | omega | (simp only [Int.ofNat_eq_natCast] at *; omega)) ?_; intro z hz)
                 | (refine fI_tmod (by first | omega | (simp only [Int.ofNat_eq_natCast] at *; omega)) ?_; intro z hz)
                 | (refine fI_gen ?_; intro z hz)
                 | (refine fO_gen ?_; intro z hz)
                 | (refine And.intro (fun hna => absurd h1 hna) (fun _ b1 c1 X1 ws1 q1 j1 e1 f1 => ?_); have g1 := rd_block e1 (flat_len encB_len _))
                 | (refine And.intro (fun _ => ?_) (fun hna => absurd hna h1))
                 | (refine Or.inl (And.intro (GLB_app hg) (Exists.intro (recV w wr a n d) (And.intro rfl (And.intro j1 (And.intro (hrl _ _ _ _ _) (And.intro recV_bd (And.intro g1 ?_))))))); rw [dec_rec h1 pa pd])
                 | (refine Or.inl (And.intro (by repeat (first | assumption | refine GLB_app ?_)) (Exists.intro l (And.intro rfl (And.intro hc (And.intro hl (And.intro hb (And.intro (hr.app _) ?_))))))); rw [hv])
                 | (refine Or.inl (And.intro hg (Exists.intro l (And.intro rfl (And.intro hc (And.intro hl (And.intro hb (And.intro hr ?_))))))); rw [hv])
                 | (refine Or.inr (And.intro h12 ?_))
                 | (refine And.intro (fun hna => absurd hk.2.1 hna) (fun _ b2 c2 X2 ws2 q2 j2 e2 f2 => ?_); have g2 := rd_block e2 (flat_len encB_len _))
                 | (refine pure_step (rem_eq rfl rfl (by decide)) ?_)
                 | (refine Exists.intro (recV (dW l) (dWr l) (dA l) (dN l) (dD l)) (Exists.intro l (And.intro rfl (And.intro rfl (And.intro (hrl _ _ _ _ _) (And.intro hl (And.intro g2 (And.intro (by first | exact hr | exact hr.app _ | exact (hr.app _).app _) ?_))))))))
                 | (refine dec_true (by assumption) ?_)
                 | (refine dec_false (by assumption) ?_)
                 | ((with_reducible refine dec_trueH ?tst ?_); (case tst => (first | rfl | ((try clear hC); (try clear kn); (try clear kx); (try clear kr); (try clear kn1); (try clear kx1); (try clear kr1); (try clear kn2); (try clear kx2); (try clear kr2); (try clear kn3); (try clear kx3); (try clear kr3); subst_vars; simp only [Int.ofNat_eq_natCast, tq_not, fq_not, tq_and, fq_and, tq_or, fq_or, tq_beq, fq_beq, tq_bne, fq_bne, tq_dec, fq_dec, one1, V.tup.injEq, V.agg.injEq, List.cons.injEq, V.int.injEq, V.bool.injEq, true_and, and_true, decide_eq_true_eq, decide_eq_false_iff_not, Bool.and_eq_true, Bool.and_eq_false_iff, Bool.or_eq_true, Bool.or_eq_false_iff, Bool.not_eq_true', Bool.not_eq_false', beq_iff_eq, wrap_u32, wrap_i64, wrap_u8, beq_eq_false_iff_ne, ne_eq, bne_iff_ne, bne_eq_false_iff_eq, eq_self, and_self, splice, V.cells, List.take_succ_cons, List.take_zero, List.take_nil, List.drop_zero, List.drop_succ_cons, List.drop_nil, List.cons_append, List.nil_append, List.append_nil, List.length_cons, List.length_nil, Nat.zero_add, Nat.reduceAdd, if_true, if_false, Bool.false_eq_true, beq_self_eq_true, decide_eq_decide, Bool.true_eq_false, or_false, false_or, or_true, true_or, and_false, false_and, not_true_eq_false, not_false_eq_true, Bool.and_true, Bool.true_and, Bool.not_true, Bool.not_false] at *; first | done | assumption | omega))); intro h)
                 | ((with_reducible refine dec_falseH ?tst ?_); (case tst => (first | rfl | ((try clear hC); (try clear kn); (try clear kx); (try clear kr); (try clear kn1); (try clear kx1); (try clear kr1); (try clear kn2); (try clear kx2); (try clear kr2); (try clear kn3); (try clear kx3); (try clear kr3); subst_vars; simp only [Int.ofNat_eq_natCast, tq_not, fq_not, tq_and, fq_and, tq_or, fq_or, tq_beq, fq_beq, tq_bne, fq_bne, tq_dec, fq_dec, one1, V.tup.injEq, V.agg.injEq, List.cons.injEq, V.int.injEq, V.bool.injEq, true_and, and_true, decide_eq_true_eq, decide_eq_false_iff_not, Bool.and_eq_true, Bool.and_eq_false_iff, Bool.or_eq_true, Bool.or_eq_false_iff, Bool.not_eq_true', Bool.not_eq_false', beq_iff_eq, wrap_u32, wrap_i64, wrap_u8, beq_eq_false_iff_ne, ne_eq, bne_iff_ne, bne_eq_false_iff_eq, eq_self, and_self, splice, V.cells, List.take_succ_cons, List.take_zero, List.take_nil, List.drop_zero, List.drop_succ_cons, List.drop_nil, List.cons_append, List.nil_append, List.append_nil, List.length_cons, List.length_nil, Nat.zero_add, Nat.reduceAdd, if_true, if_false, Bool.false_eq_true, beq_self_eq_true, decide_eq_decide, Bool.true_eq_false, or_false, false_or, or_true, true_or, and_false, false_and, not_true_eq_false, not_false_eq_true, Bool.and_true, Bool.true_and, Bool.not_true, Bool.not_false] at *; first | done | assumption | omega))); intro h)
                 | (refine dec_split (fun h => ?_) (fun h => ?_))
                 | (apply silE)
                 | (refine Both.mk ?_ ?_)
                 | (refine And.intro rfl ?_)
                 | (exact And.intro rfl (And.intro rfl (And.intro rfl rfl)))
                 | (refine And.intro (by first | omega | ((simp only [decide_eq_true_eq, decide_eq_false_iff_not, Bool.and_eq_true, beq_iff_eq, Bool.not_eq_true', Bool.not_eq_false'] at *); omega) | (subst_vars; simp only [Int.ofNat_eq_natCast, tq_not, fq_not, tq_and, fq_and, tq_or, fq_or, tq_beq, fq_beq, tq_bne, fq_bne, tq_dec, fq_dec, one1, V.tup.injEq, V.agg.injEq, List.cons.injEq, V.int.injEq, V.bool.injEq, true_and, and_true, decide_eq_true_eq, decide_eq_false_iff_not, Bool.and_eq_true, Bool.and_eq_false_iff, Bool.or_eq_true, Bool.or_eq_false_iff, Bool.not_eq_true', Bool.not_eq_false', beq_iff_eq, wrap_u32, wrap_i64, wrap_u8, beq_eq_false_iff_ne, ne_eq, bne_iff_ne, bne_eq_false_iff_eq, eq_self, and_self, splice, V.cells, List.take_succ_cons, List.take_zero, List.take_nil, List.drop_zero, List.drop_succ_cons, List.drop_nil, List.cons_append, List.nil_append, List.append_nil, List.length_cons, List.length_nil, Nat.zero_add, Nat.reduceAdd, if_true, if_false, Bool.false_eq_true, beq_self_eq_true, decide_eq_decide, Bool.true_eq_false, or_false, false_or, or_true, true_or, and_false, false_and, not_true_eq_false, not_false_eq_true, Bool.and_true, Bool.true_and, Bool.not_true, Bool.not_false] at *; omega)) ?_)
                 | (refine Exists.intro _ (Exists.intro _ (And.intro rfl ?_)))
                 | (refine Exists.intro _ (And.intro rfl ?_))
                 | (refine Exists.intro _ (Exists.intro _ (Exists.intro _ (Exists.intro _ (And.intro rfl ?_)))))
                 | (refine ld_step rfl (by assumption) rfl ?_)
                 | (refine lds_step rfl (by assumption) rfl ?_)
                 | (refine fL_mk ?_)
                 | (refine fH_mk ?_)
                 | (refine fN_mk ?_)
                 | (refine fLB_mk ?_)
                 | (refine And.intro (by repeat (first | assumption | refine GLB_app ?_)) ?_)
                 | (refine ld_step rfl ((rd_x0 _ _ _ _ _).trans rfl) rfl ?_)
                 | (refine ld_step rfl ((rd_x1 _ _ _ _ _ _).trans rfl) rfl ?_)
                 | (refine ld_step rfl ((rd_x2 _ _ _ _ _ _ _).trans rfl) rfl ?_)
                 | (refine lds_step rfl ((rd_x0 _ _ _ _ _).trans rfl) rfl ?_)
                 | (refine lds_step rfl ((rd_x1 _ _ _ _ _ _).trans rfl) rfl ?_)
                 | (refine lds_step rfl ((rd_x2 _ _ _ _ _ _ _).trans rfl) rfl ?_)
                 | (refine mem_step (st_eq rfl rfl rfl rfl (wr_last _ _ _ _ rfl)) ?_)
                 | (refine drec_yes (by omega) ?_)
                 | (refine drec_no (by omega) ?_)
                 | (intro _)
                 | fail)
        all_goals (conv => whnf)
        all_goals exact leafH hq rfl (take_app2 H _ _)
      · repeat' (conv => whnf
                 first
                 | (refine Stop.mk ?_)
                 | (with_reducible refine fI_is (a := dW l) rfl ?_)
                 | (with_reducible refine fI_is (a := dA l) rfl ?_)
                 | (with_reducible refine fI_is (a := dN l) rfl ?_)
                 | (with_reducible refine fI_is (a := dD l) rfl ?_)
                 | (with_reducible refine fO_is (a := dWr l) rfl ?_)
                 | (refine fO_is (decide_eq_true h1) ?_)
                 | (refine fO_is (decide_eq_false h1) ?_)
                 | (refine fO_is hd ?_)
                 | (refine fO_is heq ?_)
                 | (refine fI_is (if_pos h1) ?_)
                 | (refine fI_is (hsz h1) ?_)
                 | (with_reducible refine fI_is (a := (l.length : Int)) rfl ?_)
                 | (refine fI_i64 (by first | omega | (simp only [Int.ofNat_eq_natCast] at *; omega)) ?_; intro z hz)
                 | (refine fI_u32 (by first | omega | (simp only [Int.ofNat_eq_natCast] at *; omega)) ?_; intro z hz)
                 | (refine fI_u8 (by first | omega | (simp only [Int.ofNat_eq_natCast] at *; omega)) ?_; intro z hz)
                 | (refine fI_u64 (by first | omega | (simp only [Int.ofNat_eq_natCast] at *; omega)) ?_; intro z hz)
                 | (refine fI_tdiv (by first | omega | (simp only [Int.ofNat_eq_natCast] at *; omega)) ?_; intro z hz)
                 | (refine fI_tmod (by first | omega | (simp only [Int.ofNat_eq_natCast] at *; omega)) ?_; intro z hz)
                 | (refine fI_gen ?_; intro z hz)
                 | (refine fO_gen ?_; intro z hz)
                 | (refine And.intro (fun hna => absurd h1 hna) (fun _ b1 c1 X1 ws1 q1 j1 e1 f1 => ?_); have g1 := rd_block e1 (flat_len encB_len _))
                 | (refine And.intro (fun _ => ?_) (fun hna => absurd hna h1))
                 | (refine Or.inl (And.intro (GLB_app hg) (Exists.intro (recV w wr a n d) (And.intro rfl (And.intro j1 (And.intro (hrl _ _ _ _ _) (And.intro recV_bd (And.intro g1 ?_))))))); rw [dec_rec h1 pa pd])
                 | (refine Or.inl (And.intro (by repeat (first | assumption | refine GLB_app ?_)) (Exists.intro l (And.intro rfl (And.intro hc (And.intro hl (And.intro hb (And.intro (hr.app _) ?_))))))); rw [hv])
                 | (refine Or.inl (And.intro hg (Exists.intro l (And.intro rfl (And.intro hc (And.intro hl (And.intro hb (And.intro hr ?_))))))); rw [hv])
                 | (refine Or.inr (And.intro h12 ?_))
                 | (refine And.intro (fun hna => absurd hk.2.1 hna) (fun _ b2 c2 X2 ws2 q2 j2 e2 f2 => ?_); have g2 := rd_block e2 (flat_len encB_len _))
                 | (refine pure_step (rem_eq rfl rfl (by decide)) ?_)
                 | (refine Exists.intro (recV (dW l) (dWr l) (dA l) (dN l) (dD l)) (Exists.intro l (And.intro rfl (And.intro rfl (And.intro (hrl _ _ _ _ _) (And.intro hl (And.intro g2 (And.intro (by first | exact hr | exact hr.app _ | exact (hr.app _).app _) ?_))))))))
                 | (refine dec_true (by assumption) ?_)
                 | (refine dec_false (by assumption) ?_)
                 | ((with_reducible refine dec_trueH ?tst ?_); (case tst => (first | rfl | ((try clear hC); (try clear kn); (try clear kx); (try clear kr); (try clear kn1); (try clear kx1); (try clear kr1); (try clear kn2); (try clear kx2); (try clear kr2); (try clear kn3); (try clear kx3); (try clear kr3); subst_vars; simp only [Int.ofNat_eq_natCast, tq_not, fq_not, tq_and, fq_and, tq_or, fq_or, tq_beq, fq_beq, tq_bne, fq_bne, tq_dec, fq_dec, one1, V.tup.injEq, V.agg.injEq, List.cons.injEq, V.int.injEq, V.bool.injEq, true_and, and_true, decide_eq_true_eq, decide_eq_false_iff_not, Bool.and_eq_true, Bool.and_eq_false_iff, Bool.or_eq_true, Bool.or_eq_false_iff, Bool.not_eq_true', Bool.not_eq_false', beq_iff_eq, wrap_u32, wrap_i64, wrap_u8, beq_eq_false_iff_ne, ne_eq, bne_iff_ne, bne_eq_false_iff_eq, eq_self, and_self, splice, V.cells, List.take_succ_cons, List.take_zero, List.take_nil, List.drop_zero, List.drop_succ_cons, List.drop_nil, List.cons_append, List.nil_append, List.append_nil, List.length_cons, List.length_nil, Nat.zero_add, Nat.reduceAdd, if_true, if_false, Bool.false_eq_true, beq_self_eq_true, decide_eq_decide, Bool.true_eq_false, or_false, false_or, or_true, true_or, and_false, false_and, not_true_eq_false, not_false_eq_true, Bool.and_true, Bool.true_and, Bool.not_true, Bool.not_false] at *; first | done | assumption | omega))); intro h)
                 | ((with_reducible refine dec_falseH ?tst ?_); (case tst => (first | rfl | ((try clear hC); (try clear kn); (try clear kx); (try clear kr); (try clear kn1); (try clear kx1); (try clear kr1); (try clear kn2); (try clear kx2); (try clear kr2); (try clear kn3); (try clear kx3); (try clear kr3); subst_vars; simp only [Int.ofNat_eq_natCast, tq_not, fq_not, tq_and, fq_and, tq_or, fq_or, tq_beq, fq_beq, tq_bne, fq_bne, tq_dec, fq_dec, one1, V.tup.injEq, V.agg.injEq, List.cons.injEq, V.int.injEq, V.bool.injEq, true_and, and_true, decide_eq_true_eq, decide_eq_false_iff_not, Bool.and_eq_true, Bool.and_eq_false_iff, Bool.or_eq_true, Bool.or_eq_false_iff, Bool.not_eq_true', Bool.not_eq_false', beq_iff_eq, wrap_u32, wrap_i64, wrap_u8, beq_eq_false_iff_ne, ne_eq, bne_iff_ne, bne_eq_false_iff_eq, eq_self, and_self, splice, V.cells, List.take_succ_cons, List.take_zero, List.take_nil, List.drop_zero, List.drop_succ_cons, List.drop_nil, List.cons_append, List.nil_append, List.append_nil, List.length_cons, List.length_nil, Nat.zero_add, Nat.reduceAdd, if_true, if_false, Bool.false_eq_true, beq_self_eq_true, decide_eq_decide, Bool.true_eq_false, or_false, false_or, or_true, true_or, and_false, false_and, not_true_eq_false, not_false_eq_true, Bool.and_true, Bool.true_and, Bool.not_true, Bool.not_false] at *; first | done | assumption | omega))); intro h)
                 | (refine dec_split (fun h => ?_) (fun h => ?_))
                 | (apply silE)
                 | (refine Both.mk ?_ ?_)
                 | (refine And.intro rfl ?_)
                 | (exact And.intro rfl (And.intro rfl (And.intro rfl rfl)))
                 | (refine And.intro (by first | omega | ((simp only [decide_eq_true_eq, decide_eq_false_iff_not, Bool.and_eq_true, beq_iff_eq, Bool.not_eq_true', Bool.not_eq_false'] at *); omega) | (subst_vars; simp only [Int.ofNat_eq_natCast, tq_not, fq_not, tq_and, fq_and, tq_or, fq_or, tq_beq, fq_beq, tq_bne, fq_bne, tq_dec, fq_dec, one1, V.tup.injEq, V.agg.injEq, List.cons.injEq, V.int.injEq, V.bool.injEq, true_and, and_true, decide_eq_true_eq, decide_eq_false_iff_not, Bool.and_eq_true, Bool.and_eq_false_iff, Bool.or_eq_true, Bool.or_eq_false_iff, Bool.not_eq_true', Bool.not_eq_false', beq_iff_eq, wrap_u32, wrap_i64, wrap_u8, beq_eq_false_iff_ne, ne_eq, bne_iff_ne, bne_eq_false_iff_eq, eq_self, and_self, splice, V.cells, List.take_succ_cons, List.take_zero, List.take_nil, List.drop_zero, List.drop_succ_cons, List.drop_nil, List.cons_append, List.nil_append, List.append_nil, List.length_cons, List.length_nil, Nat.zero_add, Nat.reduceAdd, if_true, if_false, Bool.false_eq_true, beq_self_eq_true, decide_eq_decide, Bool.true_eq_false, or_false, false_or, or_true, true_or, and_false, false_and, not_true_eq_false, not_false_eq_true, Bool.and_true, Bool.true_and, Bool.not_true, Bool.not_false] at *; omega)) ?_)
                 | (refine Exists.intro _ (Exists.intro _ (And.intro rfl ?_)))
                 | (refine Exists.intro _ (And.intro rfl ?_))
                 | (refine Exists.intro _ (Exists.intro _ (Exists.intro _ (Exists.intro _ (And.intro rfl ?_)))))
                 | (refine ld_step rfl (by assumption) rfl ?_)
                 | (refine lds_step rfl (by assumption) rfl ?_)
                 | (refine fL_mk ?_)
                 | (refine fH_mk ?_)
                 | (refine fN_mk ?_)
                 | (refine fLB_mk ?_)
                 | (refine And.intro (by repeat (first | assumption | refine GLB_app ?_)) ?_)
                 | (refine ld_step rfl ((rd_x0 _ _ _ _ _).trans rfl) rfl ?_)
                 | (refine ld_step rfl ((rd_x1 _ _ _ _ _ _).trans rfl) rfl ?_)
                 | (refine ld_step rfl ((rd_x2 _ _ _ _ _ _ _).trans rfl) rfl ?_)
                 | (refine lds_step rfl ((rd_x0 _ _ _ _ _).trans rfl) rfl ?_)
                 | (refine lds_step rfl ((rd_x1 _ _ _ _ _ _).trans rfl) rfl ?_)
                 | (refine lds_step rfl ((rd_x2 _ _ _ _ _ _ _).trans rfl) rfl ?_)
                 | (refine mem_step (st_eq rfl rfl rfl rfl (wr_last _ _ _ _ rfl)) ?_)
                 | (refine drec_yes (by omega) ?_)
                 | (refine drec_no (by omega) ?_)
                 | (intro _)
                 | fail)
        all_goals (conv => whnf)
        all_goals exact leafH hq rfl (take_app1 H _)
    · have hv := decV_no (by omega) hk
      have hl : l.length ≤ 4096 := by omega
      have hd : decide ((l.length : Int) > 12) = false := decide_eq_false (by omega)
      by_cases h1 : accP w wr a n d
      · have hm := hmo h1
        repeat' (conv => whnf
                 first
                 | (refine Stop.mk ?_)
                 | (with_reducible refine fI_is (a := dW l) rfl ?_)
                 | (with_reducible refine fI_is (a := dA l) rfl ?_)
                 | (with_reducible refine fI_is (a := dN l) rfl ?_)
                 | (with_reducible refine fI_is (a := dD l) rfl ?_)
                 | (with_reducible refine fO_is (a := dWr l) rfl ?_)
                 | (refine fO_is (decide_eq_true h1) ?_)
                 | (refine fO_is (decide_eq_false h1) ?_)
                 | (refine fO_is hd ?_)
                 | (refine fO_is heq ?_)
                 | (refine fI_is (if_pos h1) ?_)
                 | (refine fI_is (hsz h1) ?_)
                 | (with_reducible refine fI_is (a := (l.length : Int)) rfl ?_)
                 | (refine fI_i64 (by first | omega | (simp only [Int.ofNat_eq_natCast] at *; omega)) ?_; intro z hz)
                 | (refine fI_u32 (by first | omega | (simp only [Int.ofNat_eq_natCast] at *; omega)) ?_; intro z hz)
                 | (refine fI_u8 (by first | omega | (simp only [Int.ofNat_eq_natCast] at *; omega)) ?_; intro z hz)
                 | (refine fI_u64 (by first | omega | (simp only [Int.ofNat_eq_natCast] at *; omega)) ?_; intro z hz)
                 | (refine fI_tdiv (by first | omega | (simp only [Int.ofNat_eq_natCast] at *; omega)) ?_; intro z hz)
                 | (refine fI_tmod (by first | omega | (simp only [Int.ofNat_eq_natCast] at *; omega)) ?_; intro z hz)
                 | (refine fI_gen ?_; intro z hz)
                 | (refine fO_gen ?_; intro z hz)
                 | (refine And.intro (fun hna => absurd h1 hna) (fun _ b1 c1 X1 ws1 q1 j1 e1 f1 => ?_); have g1 := rd_block e1 (flat_len encB_len _))
                 | (refine And.intro (fun _ => ?_) (fun hna => absurd hna h1))
                 | (refine Or.inl (And.intro (GLB_app hg) (Exists.intro (recV w wr a n d) (And.intro rfl (And.intro j1 (And.intro (hrl _ _ _ _ _) (And.intro recV_bd (And.intro g1 ?_))))))); rw [dec_rec h1 pa pd])
                 | (refine Or.inl (And.intro (by repeat (first | assumption | refine GLB_app ?_)) (Exists.intro l (And.intro rfl (And.intro hc (And.intro hl (And.intro hb (And.intro (hr.app _) ?_))))))); rw [hv])
                 | (refine Or.inl (And.intro hg (Exists.intro l (And.intro rfl (And.intro hc (And.intro hl (And.intro hb (And.intro hr ?_))))))); rw [hv])
                 | (refine Or.inr (And.intro h12 ?_))
                 | (refine And.intro (fun hna => absurd hk.2.1 hna) (fun _ b2 c2 X2 ws2 q2 j2 e2 f2 => ?_); have g2 := rd_block e2 (flat_len encB_len _))
                 | (refine pure_step (rem_eq rfl rfl (by decide)) ?_)
                 | (refine Exists.intro (recV (dW l) (dWr l) (dA l) (dN l) (dD l)) (Exists.intro l (And.intro rfl (And.intro rfl (And.intro (hrl _ _ _ _ _) (And.intro hl (And.intro g2 (And.intro (by first | exact hr | exact hr.app _ | exact (hr.app _).app _) ?_))))))))
                 | (refine dec_true (by assumption) ?_)
                 | (refine dec_false (by assumption) ?_)
                 | ((with_reducible refine dec_trueH ?tst ?_); (case tst => (first | rfl | ((try clear hC); (try clear kn); (try clear kx); (try clear kr); (try clear kn1); (try clear kx1); (try clear kr1); (try clear kn2); (try clear kx2); (try clear kr2); (try clear kn3); (try clear kx3); (try clear kr3); subst_vars; simp only [Int.ofNat_eq_natCast, tq_not, fq_not, tq_and, fq_and, tq_or, fq_or, tq_beq, fq_beq, tq_bne, fq_bne, tq_dec, fq_dec, one1, V.tup.injEq, V.agg.injEq, List.cons.injEq, V.int.injEq, V.bool.injEq, true_and, and_true, decide_eq_true_eq, decide_eq_false_iff_not, Bool.and_eq_true, Bool.and_eq_false_iff, Bool.or_eq_true, Bool.or_eq_false_iff, Bool.not_eq_true', Bool.not_eq_false', beq_iff_eq, wrap_u32, wrap_i64, wrap_u8, beq_eq_false_iff_ne, ne_eq, bne_iff_ne, bne_eq_false_iff_eq, eq_self, and_self, splice, V.cells, List.take_succ_cons, List.take_zero, List.take_nil, List.drop_zero, List.drop_succ_cons, List.drop_nil, List.cons_append, List.nil_append, List.append_nil, List.length_cons, List.length_nil, Nat.zero_add, Nat.reduceAdd, if_true, if_false, Bool.false_eq_true, beq_self_eq_true, decide_eq_decide, Bool.true_eq_false, or_false, false_or, or_true, true_or, and_false, false_and, not_true_eq_false, not_false_eq_true, Bool.and_true, Bool.true_and, Bool.not_true, Bool.not_false] at *; first | done | assumption | omega))); intro h)
                 | ((with_reducible refine dec_falseH ?tst ?_); (case tst => (first | rfl | ((try clear hC); (try clear kn); (try clear kx); (try clear kr); (try clear kn1); (try clear kx1); (try clear kr1); (try clear kn2); (try clear kx2); (try clear kr2); (try clear kn3); (try clear kx3); (try clear kr3); subst_vars; simp only [Int.ofNat_eq_natCast, tq_not, fq_not, tq_and, fq_and, tq_or, fq_or, tq_beq, fq_beq, tq_bne, fq_bne, tq_dec, fq_dec, one1, V.tup.injEq, V.agg.injEq, List.cons.injEq, V.int.injEq, V.bool.injEq, true_and, and_true, decide_eq_true_eq, decide_eq_false_iff_not, Bool.and_eq_true, Bool.and_eq_false_iff, Bool.or_eq_true, Bool.or_eq_false_iff, Bool.not_eq_true', Bool.not_eq_false', beq_iff_eq, wrap_u32, wrap_i64, wrap_u8, beq_eq_false_iff_ne, ne_eq, bne_iff_ne, bne_eq_false_iff_eq, eq_self, and_self, splice, V.cells, List.take_succ_cons, List.take_zero, List.take_nil, List.drop_zero, List.drop_succ_cons, List.drop_nil, List.cons_append, List.nil_append, List.append_nil, List.length_cons, List.length_nil, Nat.zero_add, Nat.reduceAdd, if_true, if_false, Bool.false_eq_true, beq_self_eq_true, decide_eq_decide, Bool.true_eq_false, or_false, false_or, or_true, true_or, and_false, false_and, not_true_eq_false, not_false_eq_true, Bool.and_true, Bool.true_and, Bool.not_true, Bool.not_false] at *; first | done | assumption | omega))); intro h)
                 | (refine dec_split (fun h => ?_) (fun h => ?_))
                 | (apply silE)
                 | (refine Both.mk ?_ ?_)
                 | (refine And.intro rfl ?_)
                 | (exact And.intro rfl (And.intro rfl (And.intro rfl rfl)))
                 | (refine And.intro (by first | omega | ((simp only [decide_eq_true_eq, decide_eq_false_iff_not, Bool.and_eq_true, beq_iff_eq, Bool.not_eq_true', Bool.not_eq_false'] at *); omega) | (subst_vars; simp only [Int.ofNat_eq_natCast, tq_not, fq_not, tq_and, fq_and, tq_or, fq_or, tq_beq, fq_beq, tq_bne, fq_bne, tq_dec, fq_dec, one1, V.tup.injEq, V.agg.injEq, List.cons.injEq, V.int.injEq, V.bool.injEq, true_and, and_true, decide_eq_true_eq, decide_eq_false_iff_not, Bool.and_eq_true, Bool.and_eq_false_iff, Bool.or_eq_true, Bool.or_eq_false_iff, Bool.not_eq_true', Bool.not_eq_false', beq_iff_eq, wrap_u32, wrap_i64, wrap_u8, beq_eq_false_iff_ne, ne_eq, bne_iff_ne, bne_eq_false_iff_eq, eq_self, and_self, splice, V.cells, List.take_succ_cons, List.take_zero, List.take_nil, List.drop_zero, List.drop_succ_cons, List.drop_nil, List.cons_append, List.nil_append, List.append_nil, List.length_cons, List.length_nil, Nat.zero_add, Nat.reduceAdd, if_true, if_false, Bool.false_eq_true, beq_self_eq_true, decide_eq_decide, Bool.true_eq_false, or_false, false_or, or_true, true_or, and_false, false_and, not_true_eq_false, not_false_eq_true, Bool.and_true, Bool.true_and, Bool.not_true, Bool.not_false] at *; omega)) ?_)
                 | (refine Exists.intro _ (Exists.intro _ (And.intro rfl ?_)))
                 | (refine Exists.intro _ (And.intro rfl ?_))
                 | (refine Exists.intro _ (Exists.intro _ (Exists.intro _ (Exists.intro _ (And.intro rfl ?_)))))
                 | (refine ld_step rfl (by assumption) rfl ?_)
                 | (refine lds_step rfl (by assumption) rfl ?_)
                 | (refine fL_mk ?_)
                 | (refine fH_mk ?_)
                 | (refine fN_mk ?_)
                 | (refine fLB_mk ?_)
                 | (refine And.intro (by repeat (first | assumption | refine GLB_app ?_)) ?_)
                 | (refine ld_step rfl ((rd_x0 _ _ _ _ _).trans rfl) rfl ?_)
                 | (refine ld_step rfl ((rd_x1 _ _ _ _ _ _).trans rfl) rfl ?_)
                 | (refine ld_step rfl ((rd_x2 _ _ _ _ _ _ _).trans rfl) rfl ?_)
                 | (refine lds_step rfl ((rd_x0 _ _ _ _ _).trans rfl) rfl ?_)
                 | (refine lds_step rfl ((rd_x1 _ _ _ _ _ _).trans rfl) rfl ?_)
                 | (refine lds_step rfl ((rd_x2 _ _ _ _ _ _ _).trans rfl) rfl ?_)
                 | (refine mem_step (st_eq rfl rfl rfl rfl (wr_last _ _ _ _ rfl)) ?_)
                 | (refine drec_yes (by omega) ?_)
                 | (refine drec_no (by omega) ?_)
                 | (intro _)
                 | fail)
        all_goals (conv => whnf)
        all_goals exact leafH hq rfl (take_app1 H _)
      · repeat' (conv => whnf
                 first
                 | (refine Stop.mk ?_)
                 | (with_reducible refine fI_is (a := dW l) rfl ?_)
                 | (with_reducible refine fI_is (a := dA l) rfl ?_)
                 | (with_reducible refine fI_is (a := dN l) rfl ?_)
                 | (with_reducible refine fI_is (a := dD l) rfl ?_)
                 | (with_reducible refine fO_is (a := dWr l) rfl ?_)
                 | (refine fO_is (decide_eq_true h1) ?_)
                 | (refine fO_is (decide_eq_false h1) ?_)
                 | (refine fO_is hd ?_)
                 | (refine fO_is heq ?_)
                 | (refine fI_is (if_pos h1) ?_)
                 | (refine fI_is (hsz h1) ?_)
                 | (with_reducible refine fI_is (a := (l.length : Int)) rfl ?_)
                 | (refine fI_i64 (by first | omega | (simp only [Int.ofNat_eq_natCast] at *; omega)) ?_; intro z hz)
                 | (refine fI_u32 (by first | omega | (simp only [Int.ofNat_eq_natCast] at *; omega)) ?_; intro z hz)
                 | (refine fI_u8 (by first | omega | (simp only [Int.ofNat_eq_natCast] at *; omega)) ?_; intro z hz)
                 | (refine fI_u64 (by first | omega | (simp only [Int.ofNat_eq_natCast] at *; omega)) ?_; intro z hz)
                 | (refine fI_tdiv (by first | omega | (simp only [Int.ofNat_eq_natCast] at *; omega)) ?_; intro z hz)
                 | (refine fI_tmod (by first | omega | (simp only [Int.ofNat_eq_natCast] at *; omega)) ?_; intro z hz)
                 | (refine fI_gen ?_; intro z hz)
                 | (refine fO_gen ?_; intro z hz)
                 | (refine And.intro (fun hna => absurd h1 hna) (fun _ b1 c1 X1 ws1 q1 j1 e1 f1 => ?_); have g1 := rd_block e1 (flat_len encB_len _))
                 | (refine And.intro (fun _ => ?_) (fun hna => absurd hna h1))
                 | (refine Or.inl (And.intro (GLB_app hg) (Exists.intro (recV w wr a n d) (And.intro rfl (And.intro j1 (And.intro (hrl _ _ _ _ _) (And.intro recV_bd (And.intro g1 ?_))))))); rw [dec_rec h1 pa pd])
                 | (refine Or.inl (And.intro (by repeat (first | assumption | refine GLB_app ?_)) (Exists.intro l (And.intro rfl (And.intro hc (And.intro hl (And.intro hb (And.intro (hr.app _) ?_))))))); rw [hv])
                 | (refine Or.inl (And.intro hg (Exists.intro l (And.intro rfl (And.intro hc (And.intro hl (And.intro hb (And.intro hr ?_))))))); rw [hv])
                 | (refine Or.inr (And.intro h12 ?_))
                 | (refine And.intro (fun hna => absurd hk.2.1 hna) (fun _ b2 c2 X2 ws2 q2 j2 e2 f2 => ?_); have g2 := rd_block e2 (flat_len encB_len _))
                 | (refine pure_step (rem_eq rfl rfl (by decide)) ?_)
                 | (refine Exists.intro (recV (dW l) (dWr l) (dA l) (dN l) (dD l)) (Exists.intro l (And.intro rfl (And.intro rfl (And.intro (hrl _ _ _ _ _) (And.intro hl (And.intro g2 (And.intro (by first | exact hr | exact hr.app _ | exact (hr.app _).app _) ?_))))))))
                 | (refine dec_true (by assumption) ?_)
                 | (refine dec_false (by assumption) ?_)
                 | ((with_reducible refine dec_trueH ?tst ?_); (case tst => (first | rfl | ((try clear hC); (try clear kn); (try clear kx); (try clear kr); (try clear kn1); (try clear kx1); (try clear kr1); (try clear kn2); (try clear kx2); (try clear kr2); (try clear kn3); (try clear kx3); (try clear kr3); subst_vars; simp only [Int.ofNat_eq_natCast, tq_not, fq_not, tq_and, fq_and, tq_or, fq_or, tq_beq, fq_beq, tq_bne, fq_bne, tq_dec, fq_dec, one1, V.tup.injEq, V.agg.injEq, List.cons.injEq, V.int.injEq, V.bool.injEq, true_and, and_true, decide_eq_true_eq, decide_eq_false_iff_not, Bool.and_eq_true, Bool.and_eq_false_iff, Bool.or_eq_true, Bool.or_eq_false_iff, Bool.not_eq_true', Bool.not_eq_false', beq_iff_eq, wrap_u32, wrap_i64, wrap_u8, beq_eq_false_iff_ne, ne_eq, bne_iff_ne, bne_eq_false_iff_eq, eq_self, and_self, splice, V.cells, List.take_succ_cons, List.take_zero, List.take_nil, List.drop_zero, List.drop_succ_cons, List.drop_nil, List.cons_append, List.nil_append, List.append_nil, List.length_cons, List.length_nil, Nat.zero_add, Nat.reduceAdd, if_true, if_false, Bool.false_eq_true, beq_self_eq_true, decide_eq_decide, Bool.true_eq_false, or_false, false_or, or_true, true_or, and_false, false_and, not_true_eq_false, not_false_eq_true, Bool.and_true, Bool.true_and, Bool.not_true, Bool.not_false] at *; first | done | assumption | omega))); intro h)
                 | ((with_reducible refine dec_falseH ?tst ?_); (case tst => (first | rfl | ((try clear hC); (try clear kn); (try clear kx); (try clear kr); (try clear kn1); (try clear kx1); (try clear kr1); (try clear kn2); (try clear kx2); (try clear kr2); (try clear kn3); (try clear kx3); (try clear kr3); subst_vars; simp only [Int.ofNat_eq_natCast, tq_not, fq_not, tq_and, fq_and, tq_or, fq_or, tq_beq, fq_beq, tq_bne, fq_bne, tq_dec, fq_dec, one1, V.tup.injEq, V.agg.injEq, List.cons.injEq, V.int.injEq, V.bool.injEq, true_and, and_true, decide_eq_true_eq, decide_eq_false_iff_not, Bool.and_eq_true, Bool.and_eq_false_iff, Bool.or_eq_true, Bool.or_eq_false_iff, Bool.not_eq_true', Bool.not_eq_false', beq_iff_eq, wrap_u32, wrap_i64, wrap_u8, beq_eq_false_iff_ne, ne_eq, bne_iff_ne, bne_eq_false_iff_eq, eq_self, and_self, splice, V.cells, List.take_succ_cons, List.take_zero, List.take_nil, List.drop_zero, List.drop_succ_cons, List.drop_nil, List.cons_append, List.nil_append, List.append_nil, List.length_cons, List.length_nil, Nat.zero_add, Nat.reduceAdd, if_true, if_false, Bool.false_eq_true, beq_self_eq_true, decide_eq_decide, Bool.true_eq_false, or_false, false_or, or_true, true_or, and_false, false_and, not_true_eq_false, not_false_eq_true, Bool.and_true, Bool.true_and, Bool.not_true, Bool.not_false] at *; first | done | assumption | omega))); intro h)
                 | (refine dec_split (fun h => ?_) (fun h => ?_))
                 | (apply silE)
                 | (refine Both.mk ?_ ?_)
                 | (refine And.intro rfl ?_)
                 | (exact And.intro rfl (And.intro rfl (And.intro rfl rfl)))
                 | (refine And.intro (by first | omega | ((simp only [decide_eq_true_eq, decide_eq_false_iff_not, Bool.and_eq_true, beq_iff_eq, Bool.not_eq_true', Bool.not_eq_false'] at *); omega) | (subst_vars; simp only [Int.ofNat_eq_natCast, tq_not, fq_not, tq_and, fq_and, tq_or, fq_or, tq_beq, fq_beq, tq_bne, fq_bne, tq_dec, fq_dec, one1, V.tup.injEq, V.agg.injEq, List.cons.injEq, V.int.injEq, V.bool.injEq, true_and, and_true, decide_eq_true_eq, decide_eq_false_iff_not, Bool.and_eq_true, Bool.and_eq_false_iff, Bool.or_eq_true, Bool.or_eq_false_iff, Bool.not_eq_true', Bool.not_eq_false', beq_iff_eq, wrap_u32, wrap_i64, wrap_u8, beq_eq_false_iff_ne, ne_eq, bne_iff_ne, bne_eq_false_iff_eq, eq_self, and_self, splice, V.cells, List.take_succ_cons, List.take_zero, List.take_nil, List.drop_zero, List.drop_succ_cons, List.drop_nil, List.cons_append, List.nil_append, List.append_nil, List.length_cons, List.length_nil, Nat.zero_add, Nat.reduceAdd, if_true, if_false, Bool.false_eq_true, beq_self_eq_true, decide_eq_decide, Bool.true_eq_false, or_false, false_or, or_true, true_or, and_false, false_and, not_true_eq_false, not_false_eq_true, Bool.and_true, Bool.true_and, Bool.not_true, Bool.not_false] at *; omega)) ?_)
                 | (refine Exists.intro _ (Exists.intro _ (And.intro rfl ?_)))
                 | (refine Exists.intro _ (And.intro rfl ?_))
                 | (refine Exists.intro _ (Exists.intro _ (Exists.intro _ (Exists.intro _ (And.intro rfl ?_)))))
                 | (refine ld_step rfl (by assumption) rfl ?_)
                 | (refine lds_step rfl (by assumption) rfl ?_)
                 | (refine fL_mk ?_)
                 | (refine fH_mk ?_)
                 | (refine fN_mk ?_)
                 | (refine fLB_mk ?_)
                 | (refine And.intro (by repeat (first | assumption | refine GLB_app ?_)) ?_)
                 | (refine ld_step rfl ((rd_x0 _ _ _ _ _).trans rfl) rfl ?_)
                 | (refine ld_step rfl ((rd_x1 _ _ _ _ _ _).trans rfl) rfl ?_)
                 | (refine ld_step rfl ((rd_x2 _ _ _ _ _ _ _).trans rfl) rfl ?_)
                 | (refine lds_step rfl ((rd_x0 _ _ _ _ _).trans rfl) rfl ?_)
                 | (refine lds_step rfl ((rd_x1 _ _ _ _ _ _).trans rfl) rfl ?_)
                 | (refine lds_step rfl ((rd_x2 _ _ _ _ _ _ _).trans rfl) rfl ?_)
                 | (refine mem_step (st_eq rfl rfl rfl rfl (wr_last _ _ _ _ rfl)) ?_)
                 | (refine drec_yes (by omega) ?_)
                 | (refine drec_no (by omega) ?_)
                 | (intro _)
                 | fail)
        all_goals (conv => whnf)
        all_goals exact leafE hq rfl
    · have hd : decide ((l.length : Int) > 12) = true := decide_eq_true (by omega)
      by_cases h1 : accP w wr a n d
      · have hm := hmo h1
        repeat' (conv => whnf
                 first
                 | (refine Stop.mk ?_)
                 | (with_reducible refine fI_is (a := dW l) rfl ?_)
                 | (with_reducible refine fI_is (a := dA l) rfl ?_)
                 | (with_reducible refine fI_is (a := dN l) rfl ?_)
                 | (with_reducible refine fI_is (a := dD l) rfl ?_)
                 | (with_reducible refine fO_is (a := dWr l) rfl ?_)
                 | (refine fO_is (decide_eq_true h1) ?_)
                 | (refine fO_is (decide_eq_false h1) ?_)
                 | (refine fO_is hd ?_)
                 | (refine fO_is heq ?_)
                 | (refine fI_is (if_pos h1) ?_)
                 | (refine fI_is (hsz h1) ?_)
                 | (with_reducible refine fI_is (a := (l.length : Int)) rfl ?_)
                 | (refine fI_i64 (by first | omega | (simp only [Int.ofNat_eq_natCast] at *; omega)) ?_; intro z hz)
                 | (refine fI_u32 (by first | omega | (simp only [Int.ofNat_eq_natCast] at *; omega)) ?_; intro z hz)
                 | (refine fI_u8 (by first | omega | (simp only [Int.ofNat_eq_natCast] at *; omega)) ?_; intro z hz)
                 | (refine fI_u64 (by first | omega | (simp only [Int.ofNat_eq_natCast] at *; omega)) ?_; intro z hz)
                 | (refine fI_tdiv (by first | omega | (simp only [Int.ofNat_eq_natCast] at *; omega)) ?_; intro z hz)
                 | (refine fI_tmod (by first | omega | (simp only [Int.ofNat_eq_natCast] at *; omega)) ?_; intro z hz)
                 | (refine fI_gen ?_; intro z hz)
                 | (refine fO_gen ?_; intro z hz)
                 | (refine And.intro (fun hna => absurd h1 hna) (fun _ b1 c1 X1 ws1 q1 j1 e1 f1 => ?_); have g1 := rd_block e1 (flat_len encB_len _))
                 | (refine And.intro (fun _ => ?_) (fun hna => absurd hna h1))
                 | (refine Or.inl (And.intro (GLB_app hg) (Exists.intro (recV w wr a n d) (And.intro rfl (And.intro j1 (And.intro (hrl _ _ _ _ _) (And.intro recV_bd (And.intro g1 ?_))))))); rw [dec_rec h1 pa pd])
                 | (refine Or.inl (And.intro (by repeat (first | assumption | refine GLB_app ?_)) (Exists.intro l (And.intro rfl (And.intro hc (And.intro hl (And.intro hb (And.intro (hr.app _) ?_))))))); rw [hv])
                 | (refine Or.inl (And.intro hg (Exists.intro l (And.intro rfl (And.intro hc (And.intro hl (And.intro hb (And.intro hr ?_))))))); rw [hv])
                 | (refine Or.inr (And.intro h12 ?_))
                 | (refine And.intro (fun hna => absurd hk.2.1 hna) (fun _ b2 c2 X2 ws2 q2 j2 e2 f2 => ?_); have g2 := rd_block e2 (flat_len encB_len _))
                 | (refine pure_step (rem_eq rfl rfl (by decide)) ?_)
                 | (refine Exists.intro (recV (dW l) (dWr l) (dA l) (dN l) (dD l)) (Exists.intro l (And.intro rfl (And.intro rfl (And.intro (hrl _ _ _ _ _) (And.intro hl (And.intro g2 (And.intro (by first | exact hr | exact hr.app _ | exact (hr.app _).app _) ?_))))))))
                 | (refine dec_true (by assumption) ?_)
                 | (refine dec_false (by assumption) ?_)
                 | ((with_reducible refine dec_trueH ?tst ?_); (case tst => (first | rfl | ((try clear hC); (try clear kn); (try clear kx); (try clear kr); (try clear kn1); (try clear kx1); (try clear kr1); (try clear kn2); (try clear kx2); (try clear kr2); (try clear kn3); (try clear kx3); (try clear kr3); subst_vars; simp only [Int.ofNat_eq_natCast, tq_not, fq_not, tq_and, fq_and, tq_or, fq_or, tq_beq, fq_beq, tq_bne, fq_bne, tq_dec, fq_dec, one1, V.tup.injEq, V.agg.injEq, List.cons.injEq, V.int.injEq, V.bool.injEq, true_and, and_true, decide_eq_true_eq, decide_eq_false_iff_not, Bool.and_eq_true, Bool.and_eq_false_iff, Bool.or_eq_true, Bool.or_eq_false_iff, Bool.not_eq_true', Bool.not_eq_false', beq_iff_eq, wrap_u32, wrap_i64, wrap_u8, beq_eq_false_iff_ne, ne_eq, bne_iff_ne, bne_eq_false_iff_eq, eq_self, and_self, splice, V.cells, List.take_succ_cons, List.take_zero, List.take_nil, List.drop_zero, List.drop_succ_cons, List.drop_nil, List.cons_append, List.nil_append, List.append_nil, List.length_cons, List.length_nil, Nat.zero_add, Nat.reduceAdd, if_true, if_false, Bool.false_eq_true, beq_self_eq_true, decide_eq_decide, Bool.true_eq_false, or_false, false_or, or_true, true_or, and_false, false_and, not_true_eq_false, not_false_eq_true, Bool.and_true, Bool.true_and, Bool.not_true, Bool.not_false] at *; first | done | assumption | omega))); intro h)
                 | ((with_reducible refine dec_falseH ?tst ?_); (case tst => (first | rfl | ((try clear hC); (try clear kn); (try clear kx); (try clear kr); (try clear kn1); (try clear kx1); (try clear kr1); (try clear kn2); (try clear kx2); (try clear kr2); (try clear kn3); (try clear kx3); (try clear kr3); subst_vars; simp only [Int.ofNat_eq_natCast, tq_not, fq_not, tq_and, fq_and, tq_or, fq_or, tq_beq, fq_beq, tq_bne, fq_bne, tq_dec, fq_dec, one1, V.tup.injEq, V.agg.injEq, List.cons.injEq, V.int.injEq, V.bool.injEq, true_and, and_true, decide_eq_true_eq, decide_eq_false_iff_not, Bool.and_eq_true, Bool.and_eq_false_iff, Bool.or_eq_true, Bool.or_eq_false_iff, Bool.not_eq_true', Bool.not_eq_false', beq_iff_eq, wrap_u32, wrap_i64, wrap_u8, beq_eq_false_iff_ne, ne_eq, bne_iff_ne, bne_eq_false_iff_eq, eq_self, and_self, splice, V.cells, List.take_succ_cons, List.take_zero, List.take_nil, List.drop_zero, List.drop_succ_cons, List.drop_nil, List.cons_append, List.nil_append, List.append_nil, List.length_cons, List.length_nil, Nat.zero_add, Nat.reduceAdd, if_true, if_false, Bool.false_eq_true, beq_self_eq_true, decide_eq_decide, Bool.true_eq_false, or_false, false_or, or_true, true_or, and_false, false_and, not_true_eq_false, not_false_eq_true, Bool.and_true, Bool.true_and, Bool.not_true, Bool.not_false] at *; first | done | assumption | omega))); intro h)
                 | (refine dec_split (fun h => ?_) (fun h => ?_))
                 | (apply silE)
                 | (refine Both.mk ?_ ?_)
                 | (refine And.intro rfl ?_)
                 | (exact And.intro rfl (And.intro rfl (And.intro rfl rfl)))
                 | (refine And.intro (by first | omega | ((simp only [decide_eq_true_eq, decide_eq_false_iff_not, Bool.and_eq_true, beq_iff_eq, Bool.not_eq_true', Bool.not_eq_false'] at *); omega) | (subst_vars; simp only [Int.ofNat_eq_natCast, tq_not, fq_not, tq_and, fq_and, tq_or, fq_or, tq_beq, fq_beq, tq_bne, fq_bne, tq_dec, fq_dec, one1, V.tup.injEq, V.agg.injEq, List.cons.injEq, V.int.injEq, V.bool.injEq, true_and, and_true, decide_eq_true_eq, decide_eq_false_iff_not, Bool.and_eq_true, Bool.and_eq_false_iff, Bool.or_eq_true, Bool.or_eq_false_iff, Bool.not_eq_true', Bool.not_eq_false', beq_iff_eq, wrap_u32, wrap_i64, wrap_u8, beq_eq_false_iff_ne, ne_eq, bne_iff_ne, bne_eq_false_iff_eq, eq_self, and_self, splice, V.cells, List.take_succ_cons, List.take_zero, List.take_nil, List.drop_zero, List.drop_succ_cons, List.drop_nil, List.cons_append, List.nil_append, List.append_nil, List.length_cons, List.length_nil, Nat.zero_add, Nat.reduceAdd, if_true, if_false, Bool.false_eq_true, beq_self_eq_true, decide_eq_decide, Bool.true_eq_false, or_false, false_or, or_true, true_or, and_false, false_and, not_true_eq_false, not_false_eq_true, Bool.and_true, Bool.true_and, Bool.not_true, Bool.not_false] at *; omega)) ?_)
                 | (refine Exists.intro _ (Exists.intro _ (And.intro rfl ?_)))
                 | (refine Exists.intro _ (And.intro rfl ?_))
                 | (refine Exists.intro _ (Exists.intro _ (Exists.intro _ (Exists.intro _ (And.intro rfl ?_)))))
                 | (refine ld_step rfl (by assumption) rfl ?_)
                 | (refine lds_step rfl (by assumption) rfl ?_)
                 | (refine fL_mk ?_)
                 | (refine fH_mk ?_)
                 | (refine fN_mk ?_)
                 | (refine fLB_mk ?_)
                 | (refine And.intro (by repeat (first | assumption | refine GLB_app ?_)) ?_)
                 | (refine ld_step rfl ((rd_x0 _ _ _ _ _).trans rfl) rfl ?_)
                 | (refine ld_step rfl ((rd_x1 _ _ _ _ _ _).trans rfl) rfl ?_)
                 | (refine ld_step rfl ((rd_x2 _ _ _ _ _ _ _).trans rfl) rfl ?_)
                 | (refine lds_step rfl ((rd_x0 _ _ _ _ _).trans rfl) rfl ?_)
                 | (refine lds_step rfl ((rd_x1 _ _ _ _ _ _).trans rfl) rfl ?_)
                 | (refine lds_step rfl ((rd_x2 _ _ _ _ _ _ _).trans rfl) rfl ?_)
                 | (refine mem_step (st_eq rfl rfl rfl rfl (wr_last _ _ _ _ rfl)) ?_)
                 | (refine drec_yes (by omega) ?_)
                 | (refine drec_no (by omega) ?_)
                 | (intro _)
                 | fail)
        all_goals (conv => whnf)
        all_goals exact leafH hq rfl (take_app1 H _)
      · repeat' (conv => whnf
                 first
                 | (refine Stop.mk ?_)
                 | (with_reducible refine fI_is (a := dW l) rfl ?_)
                 | (with_reducible refine fI_is (a := dA l) rfl ?_)
                 | (with_reducible refine fI_is (a := dN l) rfl ?_)
                 | (with_reducible refine fI_is (a := dD l) rfl ?_)
                 | (with_reducible refine fO_is (a := dWr l) rfl ?_)
                 | (refine fO_is (decide_eq_true h1) ?_)
                 | (refine fO_is (decide_eq_false h1) ?_)
                 | (refine fO_is hd ?_)
                 | (refine fO_is heq ?_)
                 | (refine fI_is (if_pos h1) ?_)
                 | (refine fI_is (hsz h1) ?_)
                 | (with_reducible refine fI_is (a := (l.length : Int)) rfl ?_)
                 | (refine fI_i64 (by first | omega | (simp only [Int.ofNat_eq_natCast] at *; omega)) ?_; intro z hz)
                 | (refine fI_u32 (by first | omega | (simp only [Int.ofNat_eq_natCast] at *; omega)) ?_; intro z hz)
                 | (refine fI_u8 (by first | omega | (simp only [Int.ofNat_eq_natCast] at *; omega)) ?_; intro z hz)
                 | (refine fI_u64 (by first | omega | (simp only [Int.ofNat_eq_natCast] at *; omega)) ?_; intro z hz)
                 | (refine fI_tdiv (by first | omega | (simp only [Int.ofNat_eq_natCast] at *; omega)) ?_; intro z hz)
                 | (refine fI_tmod (by first | omega | (simp only [Int.ofNat_eq_natCast] at *; omega)) ?_; intro z hz)
                 | (refine fI_gen ?_; intro z hz)
                 | (refine fO_gen ?_; intro z hz)
                 | (refine And.intro (fun hna => absurd h1 hna) (fun _ b1 c1 X1 ws1 q1 j1 e1 f1 => ?_); have g1 := rd_block e1 (flat_len encB_len _))
                 | (refine And.intro (fun _ => ?_) (fun hna => absurd hna h1))
                 | (refine Or.inl (And.intro (GLB_app hg) (Exists.intro (recV w wr a n d) (And.intro rfl (And.intro j1 (And.intro (hrl _ _ _ _ _) (And.intro recV_bd (And.intro g1 ?_))))))); rw [dec_rec h1 pa pd])
                 | (refine Or.inl (And.intro (by repeat (first | assumption | refine GLB_app ?_)) (Exists.intro l (And.intro rfl (And.intro hc (And.intro hl (And.intro hb (And.intro (hr.app _) ?_))))))); rw [hv])
                 | (refine Or.inl (And.intro hg (Exists.intro l (And.intro rfl (And.intro hc (And.intro hl (And.intro hb (And.intro hr ?_))))))); rw [hv])
                 | (refine Or.inr (And.intro h12 ?_))
                 | (refine And.intro (fun hna => absurd hk.2.1 hna) (fun _ b2 c2 X2 ws2 q2 j2 e2 f2 => ?_); have g2 := rd_block e2 (flat_len encB_len _))
                 | (refine pure_step (rem_eq rfl rfl (by decide)) ?_)
                 | (refine Exists.intro (recV (dW l) (dWr l) (dA l) (dN l) (dD l)) (Exists.intro l (And.intro rfl (And.intro rfl (And.intro (hrl _ _ _ _ _) (And.intro hl (And.intro g2 (And.intro (by first | exact hr | exact hr.app _ | exact (hr.app _).app _) ?_))))))))
                 | (refine dec_true (by assumption) ?_)
                 | (refine dec_false (by assumption) ?_)
                 | ((with_reducible refine dec_trueH ?tst ?_); (case tst => (first | rfl | ((try clear hC); (try clear kn); (try clear kx); (try clear kr); (try clear kn1); (try clear kx1); (try clear kr1); (try clear kn2); (try clear kx2); (try clear kr2); (try clear kn3); (try clear kx3); (try clear kr3); subst_vars; simp only [Int.ofNat_eq_natCast, tq_not, fq_not, tq_and, fq_and, tq_or, fq_or, tq_beq, fq_beq, tq_bne, fq_bne, tq_dec, fq_dec, one1, V.tup.injEq, V.agg.injEq, List.cons.injEq, V.int.injEq, V.bool.injEq, true_and, and_true, decide_eq_true_eq, decide_eq_false_iff_not, Bool.and_eq_true, Bool.and_eq_false_iff, Bool.or_eq_true, Bool.or_eq_false_iff, Bool.not_eq_true', Bool.not_eq_false', beq_iff_eq, wrap_u32, wrap_i64, wrap_u8, beq_eq_false_iff_ne, ne_eq, bne_iff_ne, bne_eq_false_iff_eq, eq_self, and_self, splice, V.cells, List.take_succ_cons, List.take_zero, List.take_nil, List.drop_zero, List.drop_succ_cons, List.drop_nil, List.cons_append, List.nil_append, List.append_nil, List.length_cons, List.length_nil, Nat.zero_add, Nat.reduceAdd, if_true, if_false, Bool.false_eq_true, beq_self_eq_true, decide_eq_decide, Bool.true_eq_false, or_false, false_or, or_true, true_or, and_false, false_and, not_true_eq_false, not_false_eq_true, Bool.and_true, Bool.true_and, Bool.not_true, Bool.not_false] at *; first | done | assumption | omega))); intro h)
                 | ((with_reducible refine dec_falseH ?tst ?_); (case tst => (first | rfl | ((try clear hC); (try clear kn); (try clear kx); (try clear kr); (try clear kn1); (try clear kx1); (try clear kr1); (try clear kn2); (try clear kx2); (try clear kr2); (try clear kn3); (try clear kx3); (try clear kr3); subst_vars; simp only [Int.ofNat_eq_natCast, tq_not, fq_not, tq_and, fq_and, tq_or, fq_or, tq_beq, fq_beq, tq_bne, fq_bne, tq_dec, fq_dec, one1, V.tup.injEq, V.agg.injEq, List.cons.injEq, V.int.injEq, V.bool.injEq, true_and, and_true, decide_eq_true_eq, decide_eq_false_iff_not, Bool.and_eq_true, Bool.and_eq_false_iff, Bool.or_eq_true, Bool.or_eq_false_iff, Bool.not_eq_true', Bool.not_eq_false', beq_iff_eq, wrap_u32, wrap_i64, wrap_u8, beq_eq_false_iff_ne, ne_eq, bne_iff_ne, bne_eq_false_iff_eq, eq_self, and_self, splice, V.cells, List.take_succ_cons, List.take_zero, List.take_nil, List.drop_zero, List.drop_succ_cons, List.drop_nil, List.cons_append, List.nil_append, List.append_nil, List.length_cons, List.length_nil, Nat.zero_add, Nat.reduceAdd, if_true, if_false, Bool.false_eq_true, beq_self_eq_true, decide_eq_decide, Bool.true_eq_false, or_false, false_or, or_true, true_or, and_false, false_and, not_true_eq_false, not_false_eq_true, Bool.and_true, Bool.true_and, Bool.not_true, Bool.not_false] at *; first | done | assumption | omega))); intro h)
                 | (refine dec_split (fun h => ?_) (fun h => ?_))
                 | (apply silE)
                 | (refine Both.mk ?_ ?_)
                 | (refine And.intro rfl ?_)
                 | (exact And.intro rfl (And.intro rfl (And.intro rfl rfl)))
                 | (refine And.intro (by first | omega | ((simp only [decide_eq_true_eq, decide_eq_false_iff_not, Bool.and_eq_true, beq_iff_eq, Bool.not_eq_true', Bool.not_eq_false'] at *); omega) | (subst_vars; simp only [Int.ofNat_eq_natCast, tq_not, fq_not, tq_and, fq_and, tq_or, fq_or, tq_beq, fq_beq, tq_bne, fq_bne, tq_dec, fq_dec, one1, V.tup.injEq, V.agg.injEq, List.cons.injEq, V.int.injEq, V.bool.injEq, true_and, and_true, decide_eq_true_eq, decide_eq_false_iff_not, Bool.and_eq_true, Bool.and_eq_false_iff, Bool.or_eq_true, Bool.or_eq_false_iff, Bool.not_eq_true', Bool.not_eq_false', beq_iff_eq, wrap_u32, wrap_i64, wrap_u8, beq_eq_false_iff_ne, ne_eq, bne_iff_ne, bne_eq_false_iff_eq, eq_self, and_self, splice, V.cells, List.take_succ_cons, List.take_zero, List.take_nil, List.drop_zero, List.drop_succ_cons, List.drop_nil, List.cons_append, List.nil_append, List.append_nil, List.length_cons, List.length_nil, Nat.zero_add, Nat.reduceAdd, if_true, if_false, Bool.false_eq_true, beq_self_eq_true, decide_eq_decide, Bool.true_eq_false, or_false, false_or, or_true, true_or, and_false, false_and, not_true_eq_false, not_false_eq_true, Bool.and_true, Bool.true_and, Bool.not_true, Bool.not_false] at *; omega)) ?_)
                 | (refine Exists.intro _ (Exists.intro _ (And.intro rfl ?_)))
                 | (refine Exists.intro _ (And.intro rfl ?_))
                 | (refine Exists.intro _ (Exists.intro _ (Exists.intro _ (Exists.intro _ (And.intro rfl ?_)))))
                 | (refine ld_step rfl (by assumption) rfl ?_)
                 | (refine lds_step rfl (by assumption) rfl ?_)
                 | (refine fL_mk ?_)
                 | (refine fH_mk ?_)
                 | (refine fN_mk ?_)
                 | (refine fLB_mk ?_)
                 | (refine And.intro (by repeat (first | assumption | refine GLB_app ?_)) ?_)
                 | (refine ld_step rfl ((rd_x0 _ _ _ _ _).trans rfl) rfl ?_)
                 | (refine ld_step rfl ((rd_x1 _ _ _ _ _ _).trans rfl) rfl ?_)
                 | (refine ld_step rfl ((rd_x2 _ _ _ _ _ _ _).trans rfl) rfl ?_)
                 | (refine lds_step rfl ((rd_x0 _ _ _ _ _).trans rfl) rfl ?_)
                 | (refine lds_step rfl ((rd_x1 _ _ _ _ _ _).trans rfl) rfl ?_)
                 | (refine lds_step rfl ((rd_x2 _ _ _ _ _ _ _).trans rfl) rfl ?_)
                 | (refine mem_step (st_eq rfl rfl rfl rfl (wr_last _ _ _ _ rfl)) ?_)
                 | (refine drec_yes (by omega) ?_)
                 | (refine drec_no (by omega) ?_)
                 | (intro _)
                 | fail)
        all_goals (conv => whnf)
        all_goals exact leafE hq rfl
  · exact hs.elim
end Go.Ev
