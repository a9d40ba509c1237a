/- dev: lane (take, put), septumref03 (Take) -/
import Derived.Test.YtcpecapbknnaeaaDoorKlane0
import Derived.Test.YtcpecapbknnaeaaDoorEvBits
set_option linter.all false
namespace Go.Ev
open Go Go.Proofs
set_option maxRecDepth 4000
set_option maxHeartbeats 4000000
def pw (a : Int) : Int := if a % 4 = 0 then 1 else if a % 4 = 1 then 256 else if a % 4 = 2 then 65536 else 16777216
def qn (n : Int) : Int := if n = 1 then 256 else if n = 2 then 65536 else 4294967296
def takeV (n a v : Int) : Int := v / pw a % qn n
def putV (n a v d : Int) : Int := v - v / pw a % qn n * pw a + d % qn n * pw a
theorem al_facts {n a : Int} (h : alP n a) (h0 : 0 ≤ a) :
    (n = 1 ∧ a % 4 = 0 ∧ lanesV n a = 1 ∧ pw a = 1 ∧ qn n = 256) ∨ (n = 1 ∧ a % 4 = 1 ∧ lanesV n a = 2 ∧ pw a = 256 ∧ qn n = 256) ∨ (n = 1 ∧ a % 4 = 2 ∧ lanesV n a = 4 ∧ pw a = 65536 ∧ qn n = 256) ∨ (n = 1 ∧ a % 4 = 3 ∧ lanesV n a = 8 ∧ pw a = 16777216 ∧ qn n = 256) ∨
    (n = 2 ∧ a % 4 = 0 ∧ lanesV n a = 3 ∧ pw a = 1 ∧ qn n = 65536) ∨ (n = 2 ∧ a % 4 = 2 ∧ lanesV n a = 12 ∧ pw a = 65536 ∧ qn n = 65536) ∨ (n = 4 ∧ a % 4 = 0 ∧ lanesV n a = 15 ∧ pw a = 1 ∧ qn n = 4294967296) := by
  rcases al_cases h h0 with ⟨rfl, hr⟩ | ⟨rfl, hr⟩ | ⟨rfl, hr⟩ | ⟨rfl, hr⟩ | ⟨rfl, hr⟩ | ⟨rfl, hr⟩ | ⟨rfl, hr⟩ <;> simp [lanesV, pw, qn, hr]
def s41 : Sp := fun vs H Q => match vs with
  | [.agg [.int .u32 a, .int .i64 n], .int .u32 v] => ((0 ≤ a ∧ a < 4294967296) ∧ alP n a ∧ (0 ≤ v ∧ v < 4294967296)) ∧ GLB H ∧ Q (.int .u32 (takeV n a v)) H false false
  | _ => False
theorem m41 : Mono s41 := by
  intro vs H Q Q' hQ h
  unfold s41 at h ⊢
  split at h
  all_goals first
    | exact h.elim
    | (repeat' (first | exact hQ _ _ _ _ h | refine And.imp_right (fun h => ?_) h | refine Exists.imp (fun _ h => ?_) h | (intro z; replace h := h z)))
theorem k41 : Snd Tryd.prog 2 41 s41 := by
  refine snd_of_ev (by kernel_rfl) (C := tab [(49, s49), (50, s50), (51, s51)]) (sndC_cons k49 (sndC_cons k50 (sndC_cons k51 (sndC_nil)))) x41 n41 c41 30 ?_
  intro vs H Q hs
  unfold s41 at hs
  split at hs
  · rename_i a n v
    obtain ⟨hp, hs⟩ := hs
    obtain ⟨hg, hs⟩ := hs
    have hq := hs; clear hs
    rcases al_facts hp.2.1 hp.1.1 with ⟨rfl, hr, hl, h1, h2⟩ | ⟨rfl, hr, hl, h1, h2⟩ | ⟨rfl, hr, hl, h1, h2⟩ | ⟨rfl, hr, hl, h1, h2⟩ | ⟨rfl, hr, hl, h1, h2⟩ | ⟨rfl, hr, hl, h1, h2⟩ | ⟨rfl, hr, hl, h1, h2⟩
    all_goals
      repeat' (conv => whnf
               first
               | (refine Stop.mk ?_)
               | (refine fI_known hl ?_)
               | (refine fI_known (show a % 4 * 8 = ((0 : Nat) : Int) by omega) ?_)
               | (refine fI_known (show a % 4 * 8 = ((8 : Nat) : Int) by omega) ?_)
               | (refine fI_known (show a % 4 * 8 = ((16 : Nat) : Int) by omega) ?_)
               | (refine fI_known (show a % 4 * 8 = ((24 : Nat) : Int) by omega) ?_)
               | ((have _c1 : pw _ = 1 := h1); (have _c2 : qn _ = 256 := h2); (with_reducible refine gI_andM 0 8 1 256 ?a1 ?a2 ?a3 ?a4 ?a5 ?_); (case a1 => rfl); (case a2 => rfl); (case a3 => rfl); (case a4 => decide); (case a5 => (first | omega | (simp only [wrap_u32] at *; omega))); intro z hz)
               | ((have _c1 : pw _ = 1 := h1); (have _c2 : qn _ = 256 := h2); (with_reducible refine gI_andNotM 0 8 1 256 ?a1 ?a2 ?a3 ?a4 ?a5 ?_); (case a1 => rfl); (case a2 => rfl); (case a3 => rfl); (case a4 => decide); (case a5 => (first | omega | (simp only [wrap_u32] at *; omega))); intro z hz)
               | ((have _c1 : pw _ = 1 := h1); (have _c2 : qn _ = 256 := h2); (with_reducible refine gI_orM 0 8 1 256 ?a2 ?a3 ?a4 ?a5 ?_); (case a2 => rfl); (case a3 => rfl); (case a4 => decide); (case a5 => (first | omega | (simp only [wrap_u32] at *; omega))); intro z hz)
               | ((have _c1 : pw _ = 256 := h1); (have _c2 : qn _ = 256 := h2); (with_reducible refine gI_andM 8 8 256 256 ?a1 ?a2 ?a3 ?a4 ?a5 ?_); (case a1 => rfl); (case a2 => rfl); (case a3 => rfl); (case a4 => decide); (case a5 => (first | omega | (simp only [wrap_u32] at *; omega))); intro z hz)
               | ((have _c1 : pw _ = 256 := h1); (have _c2 : qn _ = 256 := h2); (with_reducible refine gI_andNotM 8 8 256 256 ?a1 ?a2 ?a3 ?a4 ?a5 ?_); (case a1 => rfl); (case a2 => rfl); (case a3 => rfl); (case a4 => decide); (case a5 => (first | omega | (simp only [wrap_u32] at *; omega))); intro z hz)
               | ((have _c1 : pw _ = 256 := h1); (have _c2 : qn _ = 256 := h2); (with_reducible refine gI_orM 8 8 256 256 ?a2 ?a3 ?a4 ?a5 ?_); (case a2 => rfl); (case a3 => rfl); (case a4 => decide); (case a5 => (first | omega | (simp only [wrap_u32] at *; omega))); intro z hz)
               | ((have _c1 : pw _ = 65536 := h1); (have _c2 : qn _ = 256 := h2); (with_reducible refine gI_andM 16 8 65536 256 ?a1 ?a2 ?a3 ?a4 ?a5 ?_); (case a1 => rfl); (case a2 => rfl); (case a3 => rfl); (case a4 => decide); (case a5 => (first | omega | (simp only [wrap_u32] at *; omega))); intro z hz)
               | ((have _c1 : pw _ = 65536 := h1); (have _c2 : qn _ = 256 := h2); (with_reducible refine gI_andNotM 16 8 65536 256 ?a1 ?a2 ?a3 ?a4 ?a5 ?_); (case a1 => rfl); (case a2 => rfl); (case a3 => rfl); (case a4 => decide); (case a5 => (first | omega | (simp only [wrap_u32] at *; omega))); intro z hz)
               | ((have _c1 : pw _ = 65536 := h1); (have _c2 : qn _ = 256 := h2); (with_reducible refine gI_orM 16 8 65536 256 ?a2 ?a3 ?a4 ?a5 ?_); (case a2 => rfl); (case a3 => rfl); (case a4 => decide); (case a5 => (first | omega | (simp only [wrap_u32] at *; omega))); intro z hz)
               | ((have _c1 : pw _ = 16777216 := h1); (have _c2 : qn _ = 256 := h2); (with_reducible refine gI_andM 24 8 16777216 256 ?a1 ?a2 ?a3 ?a4 ?a5 ?_); (case a1 => rfl); (case a2 => rfl); (case a3 => rfl); (case a4 => decide); (case a5 => (first | omega | (simp only [wrap_u32] at *; omega))); intro z hz)
               | ((have _c1 : pw _ = 16777216 := h1); (have _c2 : qn _ = 256 := h2); (with_reducible refine gI_andNotM 24 8 16777216 256 ?a1 ?a2 ?a3 ?a4 ?a5 ?_); (case a1 => rfl); (case a2 => rfl); (case a3 => rfl); (case a4 => decide); (case a5 => (first | omega | (simp only [wrap_u32] at *; omega))); intro z hz)
               | ((have _c1 : pw _ = 16777216 := h1); (have _c2 : qn _ = 256 := h2); (with_reducible refine gI_orM 24 8 16777216 256 ?a2 ?a3 ?a4 ?a5 ?_); (case a2 => rfl); (case a3 => rfl); (case a4 => decide); (case a5 => (first | omega | (simp only [wrap_u32] at *; omega))); intro z hz)
               | ((have _c1 : pw _ = 1 := h1); (have _c2 : qn _ = 65536 := h2); (with_reducible refine gI_andM 0 16 1 65536 ?a1 ?a2 ?a3 ?a4 ?a5 ?_); (case a1 => rfl); (case a2 => rfl); (case a3 => rfl); (case a4 => decide); (case a5 => (first | omega | (simp only [wrap_u32] at *; omega))); intro z hz)
               | ((have _c1 : pw _ = 1 := h1); (have _c2 : qn _ = 65536 := h2); (with_reducible refine gI_andNotM 0 16 1 65536 ?a1 ?a2 ?a3 ?a4 ?a5 ?_); (case a1 => rfl); (case a2 => rfl); (case a3 => rfl); (case a4 => decide); (case a5 => (first | omega | (simp only [wrap_u32] at *; omega))); intro z hz)
               | ((have _c1 : pw _ = 1 := h1); (have _c2 : qn _ = 65536 := h2); (with_reducible refine gI_orM 0 16 1 65536 ?a2 ?a3 ?a4 ?a5 ?_); (case a2 => rfl); (case a3 => rfl); (case a4 => decide); (case a5 => (first | omega | (simp only [wrap_u32] at *; omega))); intro z hz)
               | ((have _c1 : pw _ = 65536 := h1); (have _c2 : qn _ = 65536 := h2); (with_reducible refine gI_andM 16 16 65536 65536 ?a1 ?a2 ?a3 ?a4 ?a5 ?_); (case a1 => rfl); (case a2 => rfl); (case a3 => rfl); (case a4 => decide); (case a5 => (first | omega | (simp only [wrap_u32] at *; omega))); intro z hz)
               | ((have _c1 : pw _ = 65536 := h1); (have _c2 : qn _ = 65536 := h2); (with_reducible refine gI_andNotM 16 16 65536 65536 ?a1 ?a2 ?a3 ?a4 ?a5 ?_); (case a1 => rfl); (case a2 => rfl); (case a3 => rfl); (case a4 => decide); (case a5 => (first | omega | (simp only [wrap_u32] at *; omega))); intro z hz)
               | ((have _c1 : pw _ = 65536 := h1); (have _c2 : qn _ = 65536 := h2); (with_reducible refine gI_orM 16 16 65536 65536 ?a2 ?a3 ?a4 ?a5 ?_); (case a2 => rfl); (case a3 => rfl); (case a4 => decide); (case a5 => (first | omega | (simp only [wrap_u32] at *; omega))); intro z hz)
               | ((have _c1 : pw _ = 1 := h1); (have _c2 : qn _ = 4294967296 := h2); (with_reducible refine gI_andM 0 32 1 4294967296 ?a1 ?a2 ?a3 ?a4 ?a5 ?_); (case a1 => rfl); (case a2 => rfl); (case a3 => rfl); (case a4 => decide); (case a5 => (first | omega | (simp only [wrap_u32] at *; omega))); intro z hz)
               | ((have _c1 : pw _ = 1 := h1); (have _c2 : qn _ = 4294967296 := h2); (with_reducible refine gI_andNotM 0 32 1 4294967296 ?a1 ?a2 ?a3 ?a4 ?a5 ?_); (case a1 => rfl); (case a2 => rfl); (case a3 => rfl); (case a4 => decide); (case a5 => (first | omega | (simp only [wrap_u32] at *; omega))); intro z hz)
               | ((have _c1 : pw _ = 1 := h1); (have _c2 : qn _ = 4294967296 := h2); (with_reducible refine gI_orM 0 32 1 4294967296 ?a2 ?a3 ?a4 ?a5 ?_); (case a2 => rfl); (case a3 => rfl); (case a4 => decide); (case a5 => (first | omega | (simp only [wrap_u32] at *; omega))); intro z hz)
               | ((have _c1 : pw _ = 1 := h1); (with_reducible refine fI_shl32 1 ?a1 ?_); (case a1 => rfl); intro z hz)
               | ((have _c1 : pw _ = 1 := h1); (with_reducible refine fI_shr ?a0 1 ?a1 ?_); (case a0 => (first | omega | (simp only [wrap_u32] at *; omega))); (case a1 => rfl); intro z hz)
               | ((have _c1 : pw _ = 256 := h1); (with_reducible refine fI_shl32 256 ?a1 ?_); (case a1 => rfl); intro z hz)
               | ((have _c1 : pw _ = 256 := h1); (with_reducible refine fI_shr ?a0 256 ?a1 ?_); (case a0 => (first | omega | (simp only [wrap_u32] at *; omega))); (case a1 => rfl); intro z hz)
               | ((have _c1 : pw _ = 65536 := h1); (with_reducible refine fI_shl32 65536 ?a1 ?_); (case a1 => rfl); intro z hz)
               | ((have _c1 : pw _ = 65536 := h1); (with_reducible refine fI_shr ?a0 65536 ?a1 ?_); (case a0 => (first | omega | (simp only [wrap_u32] at *; omega))); (case a1 => rfl); intro z hz)
               | ((have _c1 : pw _ = 16777216 := h1); (with_reducible refine fI_shl32 16777216 ?a1 ?_); (case a1 => rfl); intro z hz)
               | ((have _c1 : pw _ = 16777216 := h1); (with_reducible refine fI_shr ?a0 16777216 ?a1 ?_); (case a0 => (first | omega | (simp only [wrap_u32] at *; omega))); (case a1 => rfl); intro z hz)
               | (refine fI_i64 (by first | omega | (simp only [Int.ofNat_eq_natCast] at *; omega)) ?_; intro z hz)
               | (refine fI_u32 (by first | omega | (simp only [Int.ofNat_eq_natCast] at *; omega)) ?_; intro z hz)
               | (refine fI_u8 (by first | omega | (simp only [Int.ofNat_eq_natCast] at *; omega)) ?_; intro z hz)
               | (refine fI_u64 (by first | omega | (simp only [Int.ofNat_eq_natCast] at *; omega)) ?_; intro z hz)
               | (refine fI_tdiv (by first | omega | (simp only [Int.ofNat_eq_natCast] at *; omega)) ?_; intro z hz)
               | (refine fI_tmod (by first | omega | (simp only [Int.ofNat_eq_natCast] at *; omega)) ?_; intro z hz)
               | (refine fI_gen ?_; intro z hz)
               | (refine fO_gen ?_; intro z hz)
               | (refine And.intro ⟨hp.1, hp.2.1⟩ ?_)
               | (refine dec_true (by assumption) ?_)
               | (refine dec_false (by assumption) ?_)
               | (refine dec_split (fun h => ?_) (fun h => ?_))
               | (apply silE)
               | (exact And.intro rfl (And.intro rfl (And.intro rfl rfl)))
               | (refine And.intro (by first | omega | ((simp only [decide_eq_true_eq, decide_eq_false_iff_not, Bool.and_eq_true, beq_iff_eq, Bool.not_eq_true', Bool.not_eq_false'] at *); omega) | (subst_vars; simp only [Int.ofNat_eq_natCast, tq_not, fq_not, tq_and, fq_and, tq_or, fq_or, tq_beq, fq_beq, tq_bne, fq_bne, tq_dec, fq_dec, one1, V.tup.injEq, V.agg.injEq, List.cons.injEq, V.int.injEq, V.bool.injEq, true_and, and_true, decide_eq_true_eq, decide_eq_false_iff_not, Bool.and_eq_true, Bool.and_eq_false_iff, Bool.or_eq_true, Bool.or_eq_false_iff, Bool.not_eq_true', Bool.not_eq_false', beq_iff_eq, wrap_u32, wrap_i64, wrap_u8, beq_eq_false_iff_ne, ne_eq, bne_iff_ne, bne_eq_false_iff_eq, eq_self, and_self, splice, V.cells, List.take_succ_cons, List.take_zero, List.take_nil, List.drop_zero, List.drop_succ_cons, List.drop_nil, List.cons_append, List.nil_append, List.append_nil, List.length_cons, List.length_nil, Nat.zero_add, Nat.reduceAdd, if_true, if_false, Bool.false_eq_true, beq_self_eq_true, decide_eq_decide, Bool.true_eq_false, or_false, false_or, or_true, true_or, and_false, false_and, not_true_eq_false, not_false_eq_true, Bool.and_true, Bool.true_and, Bool.not_true, Bool.not_false] at *; omega)) ?_)
               | (refine Exists.intro _ (Exists.intro _ (And.intro rfl ?_)))
               | (refine Exists.intro _ (And.intro rfl ?_))
               | (refine Exists.intro _ (Exists.intro _ (Exists.intro _ (Exists.intro _ (And.intro rfl ?_)))))
               | (refine ld_step rfl (by assumption) rfl ?_)
               | (refine lds_step rfl (by assumption) rfl ?_)
               | (refine fL_mk ?_)
               | (refine fH_mk ?_)
               | (refine fN_mk ?_)
               | (refine fLB_mk ?_)
               | (refine And.intro (by repeat (first | assumption | refine GLB_app ?_)) ?_)
               | (refine ld_step rfl ((rd_x0 _ _ _ _ _).trans rfl) rfl ?_)
               | (refine ld_step rfl ((rd_x1 _ _ _ _ _ _).trans rfl) rfl ?_)
               | (refine ld_step rfl ((rd_x2 _ _ _ _ _ _ _).trans rfl) rfl ?_)
               | (refine lds_step rfl ((rd_x0 _ _ _ _ _).trans rfl) rfl ?_)
               | (refine lds_step rfl ((rd_x1 _ _ _ _ _ _).trans rfl) rfl ?_)
               | (refine lds_step rfl ((rd_x2 _ _ _ _ _ _ _).trans rfl) rfl ?_)
               | (refine mem_step (st_eq rfl rfl rfl rfl (wr_last _ _ _ _ rfl)) ?_)
               | (refine drec_yes (by omega) ?_)
               | (refine drec_no (by omega) ?_)
               | (intro _)
               | fail)
      all_goals
        conv => whnf
        refine leafE hq ?_
        clear hq
        refine congrArg (V.int .u32) ?_
        unfold takeV
        rw [h1, h2]
        clear hg
        subst_vars
        (try simp only [Int.ofNat_eq_natCast] at *)
        omega
  · exact hs.elim
def s39 : Sp := fun vs H Q => match vs with
  | [.agg [.int .u32 a, .int .i64 n], .int .u32 v, .int .u32 d] => ((0 ≤ a ∧ a < 4294967296) ∧ alP n a ∧ (0 ≤ v ∧ v < 4294967296) ∧ (0 ≤ d ∧ d < 4294967296)) ∧ GLB H ∧ Q (.int .u32 (putV n a v d)) H false false
  | _ => False
theorem m39 : Mono s39 := by
  intro vs H Q Q' hQ h
  unfold s39 at h ⊢
  split at h
  all_goals first
    | exact h.elim
    | (repeat' (first | exact hQ _ _ _ _ h | refine And.imp_right (fun h => ?_) h | refine Exists.imp (fun _ h => ?_) h | (intro z; replace h := h z)))
theorem k39 : Snd Tryd.prog 2 39 s39 := by
  refine snd_of_ev (by kernel_rfl) (C := tab [(49, s49), (50, s50), (51, s51)]) (sndC_cons k49 (sndC_cons k50 (sndC_cons k51 (sndC_nil)))) x39 n39 c39 30 ?_
  intro vs H Q hs
  unfold s39 at hs
  split at hs
  · rename_i a n v d
    obtain ⟨hp, hs⟩ := hs
    obtain ⟨hg, hs⟩ := hs
    have hq := hs; clear hs
    rcases al_facts hp.2.1 hp.1.1 with ⟨rfl, hr, hl, h1, h2⟩ | ⟨rfl, hr, hl, h1, h2⟩ | ⟨rfl, hr, hl, h1, h2⟩ | ⟨rfl, hr, hl, h1, h2⟩ | ⟨rfl, hr, hl, h1, h2⟩ | ⟨rfl, hr, hl, h1, h2⟩ | ⟨rfl, hr, hl, h1, h2⟩
    all_goals
      repeat' (conv => whnf
               first
               | (refine Stop.mk ?_)
               | (refine fI_known hl ?_)
               | (refine fI_known (show a % 4 * 8 = ((0 : Nat) : Int) by omega) ?_)
               | (refine fI_known (show a % 4 * 8 = ((8 : Nat) : Int) by omega) ?_)
               | (refine fI_known (show a % 4 * 8 = ((16 : Nat) : Int) by omega) ?_)
               | (refine fI_known (show a % 4 * 8 = ((24 : Nat) : Int) by omega) ?_)
               | ((have _c1 : pw _ = 1 := h1); (have _c2 : qn _ = 256 := h2); (with_reducible refine gI_andM 0 8 1 256 ?a1 ?a2 ?a3 ?a4 ?a5 ?_); (case a1 => rfl); (case a2 => rfl); (case a3 => rfl); (case a4 => decide); (case a5 => (first | omega | (simp only [wrap_u32] at *; omega))); intro z hz)
               | ((have _c1 : pw _ = 1 := h1); (have _c2 : qn _ = 256 := h2); (with_reducible refine gI_andNotM 0 8 1 256 ?a1 ?a2 ?a3 ?a4 ?a5 ?_); (case a1 => rfl); (case a2 => rfl); (case a3 => rfl); (case a4 => decide); (case a5 => (first | omega | (simp only [wrap_u32] at *; omega))); intro z hz)
               | ((have _c1 : pw _ = 1 := h1); (have _c2 : qn _ = 256 := h2); (with_reducible refine gI_orM 0 8 1 256 ?a2 ?a3 ?a4 ?a5 ?_); (case a2 => rfl); (case a3 => rfl); (case a4 => decide); (case a5 => (first | omega | (simp only [wrap_u32] at *; omega))); intro z hz)
               | ((have _c1 : pw _ = 256 := h1); (have _c2 : qn _ = 256 := h2); (with_reducible refine gI_andM 8 8 256 256 ?a1 ?a2 ?a3 ?a4 ?a5 ?_); (case a1 => rfl); (case a2 => rfl); (case a3 => rfl); (case a4 => decide); (case a5 => (first | omega | (simp only [wrap_u32] at *; omega))); intro z hz)
               | ((have _c1 : pw _ = 256 := h1); (have _c2 : qn _ = 256 := h2); (with_reducible refine gI_andNotM 8 8 256 256 ?a1 ?a2 ?a3 ?a4 ?a5 ?_); (case a1 => rfl); (case a2 => rfl); (case a3 => rfl); (case a4 => decide); (case a5 => (first | omega | (simp only [wrap_u32] at *; omega))); intro z hz)
               | ((have _c1 : pw _ = 256 := h1); (have _c2 : qn _ = 256 := h2); (with_reducible refine gI_orM 8 8 256 256 ?a2 ?a3 ?a4 ?a5 ?_); (case a2 => rfl); (case a3 => rfl); (case a4 => decide); (case a5 => (first | omega | (simp only [wrap_u32] at *; omega))); intro z hz)
               | ((have _c1 : pw _ = 65536 := h1); (have _c2 : qn _ = 256 := h2); (with_reducible refine gI_andM 16 8 65536 256 ?a1 ?a2 ?a3 ?a4 ?a5 ?_); (case a1 => rfl); (case a2 => rfl); (case a3 => rfl); (case a4 => decide); (case a5 => (first | omega | (simp only [wrap_u32] at *; omega))); intro z hz)
               | ((have _c1 : pw _ = 65536 := h1); (have _c2 : qn _ = 256 := h2); (with_reducible refine gI_andNotM 16 8 65536 256 ?a1 ?a2 ?a3 ?a4 ?a5 ?_); (case a1 => rfl); (case a2 => rfl); (case a3 => rfl); (case a4 => decide); (case a5 => (first | omega | (simp only [wrap_u32] at *; omega))); intro z hz)
               | ((have _c1 : pw _ = 65536 := h1); (have _c2 : qn _ = 256 := h2); (with_reducible refine gI_orM 16 8 65536 256 ?a2 ?a3 ?a4 ?a5 ?_); (case a2 => rfl); (case a3 => rfl); (case a4 => decide); (case a5 => (first | omega | (simp only [wrap_u32] at *; omega))); intro z hz)
               | ((have _c1 : pw _ = 16777216 := h1); (have _c2 : qn _ = 256 := h2); (with_reducible refine gI_andM 24 8 16777216 256 ?a1 ?a2 ?a3 ?a4 ?a5 ?_); (case a1 => rfl); (case a2 => rfl); (case a3 => rfl); (case a4 => decide); (case a5 => (first | omega | (simp only [wrap_u32] at *; omega))); intro z hz)
               | ((have _c1 : pw _ = 16777216 := h1); (have _c2 : qn _ = 256 := h2); (with_reducible refine gI_andNotM 24 8 16777216 256 ?a1 ?a2 ?a3 ?a4 ?a5 ?_); (case a1 => rfl); (case a2 => rfl); (case a3 => rfl); (case a4 => decide); (case a5 => (first | omega | (simp only [wrap_u32] at *; omega))); intro z hz)
               | ((have _c1 : pw _ = 16777216 := h1); (have _c2 : qn _ = 256 := h2); (with_reducible refine gI_orM 24 8 16777216 256 ?a2 ?a3 ?a4 ?a5 ?_); (case a2 => rfl); (case a3 => rfl); (case a4 => decide); (case a5 => (first | omega | (simp only [wrap_u32] at *; omega))); intro z hz)
               | ((have _c1 : pw _ = 1 := h1); (have _c2 : qn _ = 65536 := h2); (with_reducible refine gI_andM 0 16 1 65536 ?a1 ?a2 ?a3 ?a4 ?a5 ?_); (case a1 => rfl); (case a2 => rfl); (case a3 => rfl); (case a4 => decide); (case a5 => (first | omega | (simp only [wrap_u32] at *; omega))); intro z hz)
               | ((have _c1 : pw _ = 1 := h1); (have _c2 : qn _ = 65536 := h2); (with_reducible refine gI_andNotM 0 16 1 65536 ?a1 ?a2 ?a3 ?a4 ?a5 ?_); (case a1 => rfl); (case a2 => rfl); (case a3 => rfl); (case a4 => decide); (case a5 => (first | omega | (simp only [wrap_u32] at *; omega))); intro z hz)
               | ((have _c1 : pw _ = 1 := h1); (have _c2 : qn _ = 65536 := h2); (with_reducible refine gI_orM 0 16 1 65536 ?a2 ?a3 ?a4 ?a5 ?_); (case a2 => rfl); (case a3 => rfl); (case a4 => decide); (case a5 => (first | omega | (simp only [wrap_u32] at *; omega))); intro z hz)
               | ((have _c1 : pw _ = 65536 := h1); (have _c2 : qn _ = 65536 := h2); (with_reducible refine gI_andM 16 16 65536 65536 ?a1 ?a2 ?a3 ?a4 ?a5 ?_); (case a1 => rfl); (case a2 => rfl); (case a3 => rfl); (case a4 => decide); (case a5 => (first | omega | (simp only [wrap_u32] at *; omega))); intro z hz)
               | ((have _c1 : pw _ = 65536 := h1); (have _c2 : qn _ = 65536 := h2); (with_reducible refine gI_andNotM 16 16 65536 65536 ?a1 ?a2 ?a3 ?a4 ?a5 ?_); (case a1 => rfl); (case a2 => rfl); (case a3 => rfl); (case a4 => decide); (case a5 => (first | omega | (simp only [wrap_u32] at *; omega))); intro z hz)
               | ((have _c1 : pw _ = 65536 := h1); (have _c2 : qn _ = 65536 := h2); (with_reducible refine gI_orM 16 16 65536 65536 ?a2 ?a3 ?a4 ?a5 ?_); (case a2 => rfl); (case a3 => rfl); (case a4 => decide); (case a5 => (first | omega | (simp only [wrap_u32] at *; omega))); intro z hz)
               | ((have _c1 : pw _ = 1 := h1); (have _c2 : qn _ = 4294967296 := h2); (with_reducible refine gI_andM 0 32 1 4294967296 ?a1 ?a2 ?a3 ?a4 ?a5 ?_); (case a1 => rfl); (case a2 => rfl); (case a3 => rfl); (case a4 => decide); (case a5 => (first | omega | (simp only [wrap_u32] at *; omega))); intro z hz)
               | ((have _c1 : pw _ = 1 := h1); (have _c2 : qn _ = 4294967296 := h2); (with_reducible refine gI_andNotM 0 32 1 4294967296 ?a1 ?a2 ?a3 ?a4 ?a5 ?_); (case a1 => rfl); (case a2 => rfl); (case a3 => rfl); (case a4 => decide); (case a5 => (first | omega | (simp only [wrap_u32] at *; omega))); intro z hz)
               | ((have _c1 : pw _ = 1 := h1); (have _c2 : qn _ = 4294967296 := h2); (with_reducible refine gI_orM 0 32 1 4294967296 ?a2 ?a3 ?a4 ?a5 ?_); (case a2 => rfl); (case a3 => rfl); (case a4 => decide); (case a5 => (first | omega | (simp only [wrap_u32] at *; omega))); intro z hz)
               | ((have _c1 : pw _ = 1 := h1); (with_reducible refine fI_shl32 1 ?a1 ?_); (case a1 => rfl); intro z hz)
               | ((have _c1 : pw _ = 1 := h1); (with_reducible refine fI_shr ?a0 1 ?a1 ?_); (case a0 => (first | omega | (simp only [wrap_u32] at *; omega))); (case a1 => rfl); intro z hz)
               | ((have _c1 : pw _ = 256 := h1); (with_reducible refine fI_shl32 256 ?a1 ?_); (case a1 => rfl); intro z hz)
               | ((have _c1 : pw _ = 256 := h1); (with_reducible refine fI_shr ?a0 256 ?a1 ?_); (case a0 => (first | omega | (simp only [wrap_u32] at *; omega))); (case a1 => rfl); intro z hz)
               | ((have _c1 : pw _ = 65536 := h1); (with_reducible refine fI_shl32 65536 ?a1 ?_); (case a1 => rfl); intro z hz)
               | ((have _c1 : pw _ = 65536 := h1); (with_reducible refine fI_shr ?a0 65536 ?a1 ?_); (case a0 => (first | omega | (simp only [wrap_u32] at *; omega))); (case a1 => rfl); intro z hz)
               | ((have _c1 : pw _ = 16777216 := h1); (with_reducible refine fI_shl32 16777216 ?a1 ?_); (case a1 => rfl); intro z hz)
               | ((have _c1 : pw _ = 16777216 := h1); (with_reducible refine fI_shr ?a0 16777216 ?a1 ?_); (case a0 => (first | omega | (simp only [wrap_u32] at *; omega))); (case a1 => rfl); intro z hz)
               | (refine fI_i64 (by first | omega | (simp only [Int.ofNat_eq_natCast] at *; omega)) ?_; intro z hz)
               | (refine fI_u32 (by first | omega | (simp only [Int.ofNat_eq_natCast] at *; omega)) ?_; intro z hz)
               | (refine fI_u8 (by first | omega | (simp only [Int.ofNat_eq_natCast] at *; omega)) ?_; intro z hz)
               | (refine fI_u64 (by first | omega | (simp only [Int.ofNat_eq_natCast] at *; omega)) ?_; intro z hz)
               | (refine fI_tdiv (by first | omega | (simp only [Int.ofNat_eq_natCast] at *; omega)) ?_; intro z hz)
               | (refine fI_tmod (by first | omega | (simp only [Int.ofNat_eq_natCast] at *; omega)) ?_; intro z hz)
               | (refine fI_gen ?_; intro z hz)
               | (refine fO_gen ?_; intro z hz)
               | (refine And.intro ⟨hp.1, hp.2.1⟩ ?_)
               | (refine dec_true (by assumption) ?_)
               | (refine dec_false (by assumption) ?_)
               | (refine dec_split (fun h => ?_) (fun h => ?_))
               | (apply silE)
               | (exact And.intro rfl (And.intro rfl (And.intro rfl rfl)))
               | (refine And.intro (by first | omega | ((simp only [decide_eq_true_eq, decide_eq_false_iff_not, Bool.and_eq_true, beq_iff_eq, Bool.not_eq_true', Bool.not_eq_false'] at *); omega) | (subst_vars; simp only [Int.ofNat_eq_natCast, tq_not, fq_not, tq_and, fq_and, tq_or, fq_or, tq_beq, fq_beq, tq_bne, fq_bne, tq_dec, fq_dec, one1, V.tup.injEq, V.agg.injEq, List.cons.injEq, V.int.injEq, V.bool.injEq, true_and, and_true, decide_eq_true_eq, decide_eq_false_iff_not, Bool.and_eq_true, Bool.and_eq_false_iff, Bool.or_eq_true, Bool.or_eq_false_iff, Bool.not_eq_true', Bool.not_eq_false', beq_iff_eq, wrap_u32, wrap_i64, wrap_u8, beq_eq_false_iff_ne, ne_eq, bne_iff_ne, bne_eq_false_iff_eq, eq_self, and_self, splice, V.cells, List.take_succ_cons, List.take_zero, List.take_nil, List.drop_zero, List.drop_succ_cons, List.drop_nil, List.cons_append, List.nil_append, List.append_nil, List.length_cons, List.length_nil, Nat.zero_add, Nat.reduceAdd, if_true, if_false, Bool.false_eq_true, beq_self_eq_true, decide_eq_decide, Bool.true_eq_false, or_false, false_or, or_true, true_or, and_false, false_and, not_true_eq_false, not_false_eq_true, Bool.and_true, Bool.true_and, Bool.not_true, Bool.not_false] at *; omega)) ?_)
               | (refine Exists.intro _ (Exists.intro _ (And.intro rfl ?_)))
               | (refine Exists.intro _ (And.intro rfl ?_))
               | (refine Exists.intro _ (Exists.intro _ (Exists.intro _ (Exists.intro _ (And.intro rfl ?_)))))
               | (refine ld_step rfl (by assumption) rfl ?_)
               | (refine lds_step rfl (by assumption) rfl ?_)
               | (refine fL_mk ?_)
               | (refine fH_mk ?_)
               | (refine fN_mk ?_)
               | (refine fLB_mk ?_)
               | (refine And.intro (by repeat (first | assumption | refine GLB_app ?_)) ?_)
               | (refine ld_step rfl ((rd_x0 _ _ _ _ _).trans rfl) rfl ?_)
               | (refine ld_step rfl ((rd_x1 _ _ _ _ _ _).trans rfl) rfl ?_)
               | (refine ld_step rfl ((rd_x2 _ _ _ _ _ _ _).trans rfl) rfl ?_)
               | (refine lds_step rfl ((rd_x0 _ _ _ _ _).trans rfl) rfl ?_)
               | (refine lds_step rfl ((rd_x1 _ _ _ _ _ _).trans rfl) rfl ?_)
               | (refine lds_step rfl ((rd_x2 _ _ _ _ _ _ _).trans rfl) rfl ?_)
               | (refine mem_step (st_eq rfl rfl rfl rfl (wr_last _ _ _ _ rfl)) ?_)
               | (refine drec_yes (by omega) ?_)
               | (refine drec_no (by omega) ?_)
               | (intro _)
               | fail)
      all_goals
        conv => whnf
        refine leafE hq ?_
        clear hq
        refine congrArg (V.int .u32) ?_
        unfold putV
        rw [h1, h2]
        clear hg
        subst_vars
        (try simp only [Int.ofNat_eq_natCast, wrap_u32] at *)
        omega
  · exact hs.elim
end Go.Ev
