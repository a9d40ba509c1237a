/- dev: AccessParts -/
import Derived.Test.YtngbaiiokdladaaDoorKawk4
set_option linter.all false
namespace Go.Ev
open Go Go.Proofs
set_option maxRecDepth 4000
set_option maxHeartbeats 4000000
theorem or1_nat (n : Nat) : n ||| 1 = if n % 2 = 0 then n + 1 else n := by
  have h := Nat.or_mod_two_pow (a := n) (b := 1) (n := 1)
  have h2 : (n ||| 1) / 2 = n / 2 := by
    have := Nat.or_div_two_pow (a := n) (b := 1) (n := 1)
    simpa using this
  have h3 : (n ||| 1) % 2 = 1 := by
    have h4 : n % 2 = 0 ∨ n % 2 = 1 := by omega
    rcases h4 with h4 | h4 <;> simp [h4] at h <;> simpa using h
  split <;> omega
theorem or1_u32 {a : Int} (h : (0 ≤ a ∧ a < 4294967296)) : IntKind.u32.wrap (((BitVec.ofInt IntKind.u32.bits a ||| BitVec.ofInt IntKind.u32.bits 1).toNat : Nat) : Int) = if a % 2 = 0 then a + 1 else a := by
  obtain ⟨n, rfl⟩ := Int.eq_ofNat_of_zero_le h.1
  have h1 : n < 4294967296 := by omega
  rw [show IntKind.u32.bits = 32 from rfl, BitVec.toNat_or, bv_nat h1, show (BitVec.ofInt 32 1).toNat = 1 from rfl, or1_nat, wrap_u32]
  split <;> split <;> omega
theorem flV_inj {wr wr2 : Bool} {n n2 : Int} (hn : okS n) (hn2 : okS n2) (h : flV wr n = flV wr2 n2) : wr = wr2 ∧ n = n2 := by
  rcases hn with rfl | rfl | rfl <;> rcases hn2 with rfl | rfl | rfl <;> cases wr <;> cases wr2 <;> first | exact ⟨rfl, rfl⟩ | exact absurd h (by decide)
theorem bytes4_inj {v u : Int} (hv : (0 ≤ v ∧ v < 4294967296)) (hu : (0 ≤ u ∧ u < 4294967296)) (h : bytesV 4 v = bytesV 4 u) : v = u := by
  have h1 := ofB_bytes (n := 4) (by decide) hv.1 hv.2
  have h2 := ofB_bytes (n := 4) (by decide) hu.1 hu.2
  rw [lowV4] at h1 h2
  rw [← h1, ← h2]
  exact congrArg ofB h
theorem recV_inj {w w2 : Int} {wr wr2 : Bool} {a a2 n n2 d d2 : Int} (h1 : accP w wr a n d) (h2 : accP w2 wr2 a2 n2 d2) (ha : (0 ≤ a ∧ a < 4294967296)) (ha2 : (0 ≤ a2 ∧ a2 < 4294967296)) (hd : (0 ≤ d ∧ d < 4294967296)) (hd2 : (0 ≤ d2 ∧ d2 < 4294967296)) (h : recV w wr a n d = recV w2 wr2 a2 n2 d2) : w = w2 ∧ wr = wr2 ∧ a = a2 ∧ n = n2 ∧ d = d2 := by
  have e1 : bytesV 4 a = bytesV 4 a2 := by have := congrArg (fun l => (l.drop 4).take 4) h; exact this
  have e2 : bytesV 4 d = bytesV 4 d2 := by have := congrArg (fun l => l.drop 8) h; exact this
  have e3 : w % 256 = w2 % 256 := by have := congrArg (fun l => l.getD 0 0) h; exact this
  have e4 : flV wr n = flV wr2 n2 := by have := congrArg (fun l => l.getD 1 0) h; exact this
  obtain ⟨f1, f2⟩ := flV_inj h1.2.2.1 h2.2.2.1 e4
  have := h1.1
  have := h2.1
  exact ⟨by omega, f1, bytes4_inj ha ha2 e1, f2, bytes4_inj hd hd2 e2⟩
/-- what is right, of another world -/
theorem accP_world {w w2 : Int} {wr : Bool} {a n d : Int} (h : accP w wr a n d) (hw : 0 ≤ w2 ∧ w2 < 8) : accP w2 wr a n d := ⟨hw, h.2⟩
theorem accP_read {w a n d : Int} : ¬ accP w false a n (if d % 2 = 0 then d + 1 else d) := by
  rintro ⟨-, -, -, -, h | h⟩
  · cases h
  · split at h <;> omega
theorem accP_odd {w : Int} {wr : Bool} {a n d : Int} (h : accP w wr a n d) : accP w wr (if a % 2 = 0 then a + 1 else a) n d ↔ n = 1 := by
  constructor
  · rintro ⟨-, ⟨-, h2⟩, -⟩
    rcases h.2.2.1 with rfl | rfl | rfl
    · rfl
    · split at h2 <;> omega
    · split at h2 <;> omega
  · rintro rfl
    exact ⟨h.1, ⟨h.2.1.1, Int.emod_one _⟩, h.2.2⟩
theorem parts_leaf {w w2 : Int} {wr wr2 : Bool} {a a2 n n2 d d2 : Int} (h : recV w wr a n d = recV w2 wr2 a2 n2 d2 → w = w2 ∧ wr = wr2 ∧ a = a2 ∧ n = n2 ∧ d = d2) : (decide (recV w wr a n d = recV w2 wr2 a2 n2 d2) == (w == w2 && (wr == wr2 && (a == a2 && (n == n2 && (d == d2 && true)))))) = true := by
  by_cases he : recV w wr a n d = recV w2 wr2 a2 n2 d2
  · obtain ⟨rfl, rfl, rfl, rfl, rfl⟩ := h he; simp
  · have : (w == w2 && (wr == wr2 && (a == a2 && (n == n2 && (d == d2 && true))))) = false := by
      rw [Bool.eq_false_iff]; intro hh
      simp only [Bool.and_eq_true, beq_iff_eq, and_true] at hh
      obtain ⟨rfl, rfl, rfl, rfl, rfl⟩ := hh
      exact he rfl
    rw [this, decide_eq_false he]; rfl
def s4 : Sp := fun vs H Q => match vs with
  | [.agg [.int .i64 w, .bool wr, .int .u32 a, .int .i64 n, .int .u32 d], .agg [.int .i64 w2, .bool wr2, .int .u32 a2, .int .i64 n2, .int .u32 d2], .int .i64 x] => ((((0 ≤ a ∧ a < 4294967296) ∧ (0 ≤ d ∧ d < 4294967296) ∧ (-9223372036854775808 ≤ n ∧ n < 9223372036854775808) ∧ (-9223372036854775808 ≤ w ∧ w < 9223372036854775808)) ∧ (0 ≤ a2 ∧ a2 < 4294967296) ∧ (0 ≤ d2 ∧ d2 < 4294967296) ∧ (-9223372036854775808 ≤ n2 ∧ n2 < 9223372036854775808) ∧ (-9223372036854775808 ≤ w2 ∧ w2 < 9223372036854775808)) ∧ (-9223372036854775808 ≤ x ∧ x < 9223372036854775808)) ∧ GLB H ∧ Q (.bool true) H false false
  | _ => False
theorem m4 : Mono s4 := by
  intro vs H Q Q' hQ h
  unfold s4 at h ⊢
  split at h
  all_goals first
    | exact h.elim
    | (repeat' (first | exact hQ _ _ _ _ h | refine And.imp_right (fun h => ?_) h | refine Exists.imp (fun _ h => ?_) h | (intro z; replace h := h z)))
theorem k4 : Snd Tryd.prog 1 4 s4 := by
  refine snd_of_ev (by kernel_rfl) (C := tab [(8, s8), (10, s10), (11, s11), (12, s12), (13, s13)]) (sndC_cons k8 (sndC_cons k10 (sndC_cons k11 (sndC_cons k12 (sndC_cons k13 (sndC_nil)))))) x4 n4 c4 30 ?_
  have hC : MonoC (tab [(8, s8), (10, s10), (11, s11), (12, s12), (13, s13)]) := monoC_cons m8 (monoC_cons m10 (monoC_cons m11 (monoC_cons m12 (monoC_cons m13 (monoC_nil)))))
  intro vs H Q hs
  unfold s4 at hs
  split at hs
  · rename_i w wr a n d w2 wr2 a2 n2 d2 x
    obtain ⟨⟨⟨⟨pa, pd, pn, pw⟩, pa2, pd2, pn2, pw2⟩, px⟩, hg, hq⟩ := hs
    obtain ⟨xw, hxw⟩ : ∃ y, y = x % 8 := ⟨_, rfl⟩
    have hx8 : 0 ≤ xw ∧ xw < 8 := by omega
    obtain ⟨ax, hax⟩ : ∃ y, y = (if a % 2 = 0 then a + 1 else a) := ⟨_, rfl⟩
    obtain ⟨dx, hdx⟩ : ∃ y, y = (if d % 2 = 0 then d + 1 else d) := ⟨_, rfl⟩
    have pax : (0 ≤ ax ∧ ax < 4294967296) := by rw [hax]; split <;> omega
    have pdx : (0 ≤ dx ∧ dx < 4294967296) := by rw [hdx]; split <;> omega
    have oa := or1_u32 pa
    have od := or1_u32 pd
    rw [← hax] at oa
    rw [← hdx] at od
    have nrd : ¬ accP w false a n dx := by rw [hdx]; exact accP_read
    have n8 : (1 : Int) ≤ 8 ∧ (8 : Int) ≤ 4294967296 := by decide
    have hw1 : accP w wr a n d → accP xw wr a n d := fun h => accP_world h hx8
    have hod : accP w wr a n d → decide (accP w wr ax n d) = decide (n = 1) := fun h => by rw [hax]; exact decide_eq_decide.2 (accP_odd h)
    have hc1 : (decide (n = 1) != (n == 1)) = false := by by_cases h : n = 1 <;> simp [h]
    have hinj := fun (h1 : accP w wr a n d) (h2 : accP w2 wr2 a2 n2 d2) => recV_inj h1 h2 pa pa2 pd pd2
    clear hax hdx
    by_cases h1 : accP w wr a n d <;> by_cases h2 : accP w2 wr2 a2 n2 d2
    all_goals
      repeat' (conv => whnf
               first
               | (refine Stop.mk ?_)
               | (refine fI_is hxw.symm ?_)
               | (refine fI_is oa ?_)
               | (refine fI_is od ?_)
               | (refine fO_is (decide_eq_true h1) ?_)
               | (refine fO_is (decide_eq_false h1) ?_)
               | (refine fO_is (decide_eq_true (hw1 h1)) ?_)
               | (refine fO_is (decide_eq_false nrd) ?_)
               | (refine fO_is (hod h1) ?_)
               | (refine fO_is hc1 ?_)
               | (refine fI_gen ?_; intro z hz)
               | (refine fO_gen ?_; intro z hz)
               | (refine And.intro ⟨px, n8⟩ ?_)
               | (refine And.intro (fun hna => absurd h1 hna) (fun _ b1 c1 X1 ws1 q1 j1 e1 f1 => ?_); have g1 := rd_block e1 (flat_len encB_len _))
               | (refine And.intro (fun _ => ?_) (fun hna => absurd hna h1))
               | (refine And.intro (fun hna => absurd h2 hna) (fun _ b2 c2 X2 ws2 q2 j2 e2 f2 => ?_); have g2 := rd_block e2 (flat_len encB_len _))
               | (refine And.intro (fun _ => ?_) (fun hna => absurd hna h2))
               | (refine Exists.intro (recV w wr a n d) (Exists.intro (recV w2 wr2 a2 n2 d2) (And.intro rfl (And.intro rfl (And.intro (by rw [recV_len]; decide) (And.intro (by rw [recV_len]; decide) (And.intro (rd_app g1 _) (And.intro g2 ?_))))))))
               | (refine dec_true (by assumption) ?_)
               | (refine dec_false (by assumption) ?_)
               | ((with_reducible refine dec_trueH ?tst ?_); (case tst => (first | rfl | ((try clear hC); (try clear kn); (try clear kx); (try clear kr); (try clear kn1); (try clear kx1); (try clear kr1); (try clear kn2); (try clear kx2); (try clear kr2); (try clear kn3); (try clear kx3); (try clear kr3); subst_vars; simp only [Int.ofNat_eq_natCast, tq_not, fq_not, tq_and, fq_and, tq_or, fq_or, tq_beq, fq_beq, tq_bne, fq_bne, tq_dec, fq_dec, one1, V.tup.injEq, V.agg.injEq, List.cons.injEq, V.int.injEq, V.bool.injEq, true_and, and_true, decide_eq_true_eq, decide_eq_false_iff_not, Bool.and_eq_true, Bool.and_eq_false_iff, Bool.or_eq_true, Bool.or_eq_false_iff, Bool.not_eq_true', Bool.not_eq_false', beq_iff_eq, wrap_u32, wrap_i64, wrap_u8, beq_eq_false_iff_ne, ne_eq, bne_iff_ne, bne_eq_false_iff_eq, eq_self, and_self, splice, V.cells, List.take_succ_cons, List.take_zero, List.take_nil, List.drop_zero, List.drop_succ_cons, List.drop_nil, List.cons_append, List.nil_append, List.append_nil, List.length_cons, List.length_nil, Nat.zero_add, Nat.reduceAdd, if_true, if_false, Bool.false_eq_true, beq_self_eq_true, decide_eq_decide, Bool.true_eq_false, or_false, false_or, or_true, true_or, and_false, false_and, not_true_eq_false, not_false_eq_true, Bool.and_true, Bool.true_and, Bool.not_true, Bool.not_false] at *; first | done | assumption | omega))); intro h)
               | ((with_reducible refine dec_falseH ?tst ?_); (case tst => (first | rfl | ((try clear hC); (try clear kn); (try clear kx); (try clear kr); (try clear kn1); (try clear kx1); (try clear kr1); (try clear kn2); (try clear kx2); (try clear kr2); (try clear kn3); (try clear kx3); (try clear kr3); subst_vars; simp only [Int.ofNat_eq_natCast, tq_not, fq_not, tq_and, fq_and, tq_or, fq_or, tq_beq, fq_beq, tq_bne, fq_bne, tq_dec, fq_dec, one1, V.tup.injEq, V.agg.injEq, List.cons.injEq, V.int.injEq, V.bool.injEq, true_and, and_true, decide_eq_true_eq, decide_eq_false_iff_not, Bool.and_eq_true, Bool.and_eq_false_iff, Bool.or_eq_true, Bool.or_eq_false_iff, Bool.not_eq_true', Bool.not_eq_false', beq_iff_eq, wrap_u32, wrap_i64, wrap_u8, beq_eq_false_iff_ne, ne_eq, bne_iff_ne, bne_eq_false_iff_eq, eq_self, and_self, splice, V.cells, List.take_succ_cons, List.take_zero, List.take_nil, List.drop_zero, List.drop_succ_cons, List.drop_nil, List.cons_append, List.nil_append, List.append_nil, List.length_cons, List.length_nil, Nat.zero_add, Nat.reduceAdd, if_true, if_false, Bool.false_eq_true, beq_self_eq_true, decide_eq_decide, Bool.true_eq_false, or_false, false_or, or_true, true_or, and_false, false_and, not_true_eq_false, not_false_eq_true, Bool.and_true, Bool.true_and, Bool.not_true, Bool.not_false] at *; first | done | assumption | omega))); intro h)
               | (refine dec_split (fun h => ?_) (fun h => ?_))
               | (apply silE)
               | (refine Both.mk ?_ ?_)
               | (refine And.intro rfl ?_)
               | (exact And.intro rfl (And.intro rfl (And.intro rfl rfl)))
               | (refine And.intro (by first | omega | ((simp only [decide_eq_true_eq, decide_eq_false_iff_not, Bool.and_eq_true, beq_iff_eq, Bool.not_eq_true', Bool.not_eq_false'] at *); omega) | (subst_vars; simp only [Int.ofNat_eq_natCast, tq_not, fq_not, tq_and, fq_and, tq_or, fq_or, tq_beq, fq_beq, tq_bne, fq_bne, tq_dec, fq_dec, one1, V.tup.injEq, V.agg.injEq, List.cons.injEq, V.int.injEq, V.bool.injEq, true_and, and_true, decide_eq_true_eq, decide_eq_false_iff_not, Bool.and_eq_true, Bool.and_eq_false_iff, Bool.or_eq_true, Bool.or_eq_false_iff, Bool.not_eq_true', Bool.not_eq_false', beq_iff_eq, wrap_u32, wrap_i64, wrap_u8, beq_eq_false_iff_ne, ne_eq, bne_iff_ne, bne_eq_false_iff_eq, eq_self, and_self, splice, V.cells, List.take_succ_cons, List.take_zero, List.take_nil, List.drop_zero, List.drop_succ_cons, List.drop_nil, List.cons_append, List.nil_append, List.append_nil, List.length_cons, List.length_nil, Nat.zero_add, Nat.reduceAdd, if_true, if_false, Bool.false_eq_true, beq_self_eq_true, decide_eq_decide, Bool.true_eq_false, or_false, false_or, or_true, true_or, and_false, false_and, not_true_eq_false, not_false_eq_true, Bool.and_true, Bool.true_and, Bool.not_true, Bool.not_false] at *; omega)) ?_)
               | (refine Exists.intro _ (Exists.intro _ (And.intro rfl ?_)))
               | (refine Exists.intro _ (And.intro rfl ?_))
               | (refine Exists.intro _ (Exists.intro _ (Exists.intro _ (Exists.intro _ (And.intro rfl ?_)))))
               | (refine ld_step rfl (by assumption) rfl ?_)
               | (refine lds_step rfl (by assumption) rfl ?_)
               | (refine fL_mk ?_)
               | (refine fH_mk ?_)
               | (refine fN_mk ?_)
               | (refine fLB_mk ?_)
               | (refine And.intro (by repeat (first | assumption | refine GLB_app ?_)) ?_)
               | (refine ld_step rfl ((rd_x0 _ _ _ _ _).trans rfl) rfl ?_)
               | (refine ld_step rfl ((rd_x1 _ _ _ _ _ _).trans rfl) rfl ?_)
               | (refine ld_step rfl ((rd_x2 _ _ _ _ _ _ _).trans rfl) rfl ?_)
               | (refine lds_step rfl ((rd_x0 _ _ _ _ _).trans rfl) rfl ?_)
               | (refine lds_step rfl ((rd_x1 _ _ _ _ _ _).trans rfl) rfl ?_)
               | (refine lds_step rfl ((rd_x2 _ _ _ _ _ _ _).trans rfl) rfl ?_)
               | (refine mem_step (st_eq rfl rfl rfl rfl (wr_last _ _ _ _ rfl)) ?_)
               | (refine drec_yes (by omega) ?_)
               | (refine drec_no (by omega) ?_)
               | (intro _)
               | fail)
    all_goals (conv => whnf)
    · refine leafH hq ?_ (take_app2 H _ _)
      clear hq hC
      have hpl := parts_leaf (hinj h1 h2)
      subst_vars
      exact (congrArg (fun b => one1 [V.bool b]) hpl).symm
    · exact leafH hq rfl (take_app1 H _)
    · exact leafH hq rfl (take_app1 H _)
    · exact leafE hq rfl
  · exact hs.elim
end Go.Ev
