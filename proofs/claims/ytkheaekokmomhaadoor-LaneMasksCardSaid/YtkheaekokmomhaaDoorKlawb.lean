/- dev: LaneBack -/
import Derived.Test.YtkheaekokmomhaaDoorKlaw
set_option linter.all false
namespace Go.Ev
open Go Go.Proofs
set_option maxRecDepth 4000
set_option maxHeartbeats 4000000
def bv32 (a : Int) : BitVec 32 := BitVec.ofInt 32 a
def xorV (a b : Int) : Int := IntKind.u32.wrap (((BitVec.ofInt IntKind.u32.bits a ^^^ BitVec.ofInt IntKind.u32.bits b).toNat : Nat) : Int)
def andV (a b : Int) : Int := IntKind.u32.wrap (((BitVec.ofInt IntKind.u32.bits a &&& BitVec.ofInt IntKind.u32.bits b).toNat : Nat) : Int)
def andnV (a b : Int) : Int := IntKind.u32.wrap (((BitVec.ofInt IntKind.u32.bits a &&& ~~~(BitVec.ofInt IntKind.u32.bits b)).toNat : Nat) : Int)
theorem gI_xorV {f : Nat} {a b : Int} {K : Int → Prop} (k : ∀ z, z = xorV a b → K z) : fI f (IntKind.u32.wrap (((BitVec.ofInt IntKind.u32.bits a ^^^ BitVec.ofInt IntKind.u32.bits b).toNat : Nat) : Int)) K := (fI_eq f _ K).mpr (k _ rfl)
theorem gI_andV {f : Nat} {a b : Int} {K : Int → Prop} (k : ∀ z, z = andV a b → K z) : fI f (IntKind.u32.wrap (((BitVec.ofInt IntKind.u32.bits a &&& BitVec.ofInt IntKind.u32.bits b).toNat : Nat) : Int)) K := (fI_eq f _ K).mpr (k _ rfl)
theorem gI_andnV {f : Nat} {a b : Int} {K : Int → Prop} (k : ∀ z, z = andnV a b → K z) : fI f (IntKind.u32.wrap (((BitVec.ofInt IntKind.u32.bits a &&& ~~~(BitVec.ofInt IntKind.u32.bits b)).toNat : Nat) : Int)) K := (fI_eq f _ K).mpr (k _ rfl)
theorem fO_known {f : Nat} {b c : Bool} {K : Bool → Prop} (h : b = c) (k : fO f c K) : fO f b K := h ▸ k
theorem xor_out (W V m : BitVec 32) (h : W &&& ~~~m = V &&& ~~~m) : (W ^^^ V) &&& ~~~m = 0#32 := by
  ext i hi
  have h1 : (W &&& ~~~m)[i] = (V &&& ~~~m)[i] := by rw [h]
  simp only [BitVec.getElem_and, BitVec.getElem_not, BitVec.getElem_xor, BitVec.getElem_zero] at h1 ⊢
  cases hW : W[i] <;> cases hV : V[i] <;> cases hm : m[i] <;> simp_all
theorem bv_back (x : BitVec 32) : BitVec.ofInt IntKind.u32.bits (IntKind.u32.wrap ((x.toNat : Nat) : Int)) = x := by
  rw [wrap_nat x.isLt]
  apply BitVec.eq_of_toNat_eq
  show (BitVec.ofInt 32 ((x.toNat : Nat) : Int)).toNat = _
  exact bv_nat x.isLt
theorem andn_xor (s k : Nat) {w v : Int} (hw : 0 ≤ w ∧ w < 4294967296) (hv : 0 ≤ v ∧ v < 4294967296) (M : Nat) (hM : M = (2 ^ k - 1) * 2 ^ s) (hl : M < 4294967296)
    (h : w - w / ((2 ^ s : Nat) : Int) % ((2 ^ k : Nat) : Int) * ((2 ^ s : Nat) : Int) = v - v / ((2 ^ s : Nat) : Int) % ((2 ^ k : Nat) : Int) * ((2 ^ s : Nat) : Int)) : andnV (xorV w v) (M : Int) = 0 := by
  have e1 := andNotM s k M _ _ hM rfl rfl hl hw
  have e2 := andNotM s k M _ _ hM rfl rfl hl hv
  have e3 : BitVec.ofInt 32 w &&& ~~~(BitVec.ofInt 32 (M : Int)) = BitVec.ofInt 32 v &&& ~~~(BitVec.ofInt 32 (M : Int)) := by
    have := (e1.trans h).trans e2.symm
    have b1 := bv_back (BitVec.ofInt 32 w &&& ~~~(BitVec.ofInt 32 (M : Int)))
    have b2 := bv_back (BitVec.ofInt 32 v &&& ~~~(BitVec.ofInt 32 (M : Int)))
    rw [← b1, ← b2]
    exact congrArg (BitVec.ofInt 32) this
  have e4 := xor_out _ _ _ e3
  unfold andnV xorV
  have b3 := bv_back (BitVec.ofInt 32 w ^^^ BitVec.ofInt 32 v)
  show IntKind.u32.wrap (((BitVec.ofInt 32 (IntKind.u32.wrap (((BitVec.ofInt 32 w ^^^ BitVec.ofInt 32 v).toNat : Nat) : Int)) &&& ~~~(BitVec.ofInt 32 (M : Int))).toNat : Nat) : Int) = 0
  have b4 : BitVec.ofInt 32 (IntKind.u32.wrap (((BitVec.ofInt 32 w ^^^ BitVec.ofInt 32 v).toNat : Nat) : Int)) = BitVec.ofInt 32 w ^^^ BitVec.ofInt 32 v := b3
  rw [b4, e4]
  rfl
theorem put_bd {n a v d : Int} (h : alP n a) (ha : 0 ≤ a) (hv : 0 ≤ v ∧ v < 4294967296) (hd : 0 ≤ d ∧ d < 4294967296) : 0 ≤ putV n a v d ∧ putV n a v d < 4294967296 := by
  rcases al_facts h ha with ⟨rfl, hr, hl, h1, h2⟩ | ⟨rfl, hr, hl, h1, h2⟩ | ⟨rfl, hr, hl, h1, h2⟩ | ⟨rfl, hr, hl, h1, h2⟩ | ⟨rfl, hr, hl, h1, h2⟩ | ⟨rfl, hr, hl, h1, h2⟩ | ⟨rfl, hr, hl, h1, h2⟩ <;> (unfold putV; rw [h1, h2]; omega)
theorem take_put {n a v d : Int} (h : alP n a) (ha : 0 ≤ a) (hv : 0 ≤ v ∧ v < 4294967296) (hd : 0 ≤ d ∧ d < 4294967296) : takeV n a (putV n a v d) = lowV n d := by
  rcases al_facts h ha with ⟨rfl, hr, hl, h1, h2⟩ | ⟨rfl, hr, hl, h1, h2⟩ | ⟨rfl, hr, hl, h1, h2⟩ | ⟨rfl, hr, hl, h1, h2⟩ | ⟨rfl, hr, hl, h1, h2⟩ | ⟨rfl, hr, hl, h1, h2⟩ | ⟨rfl, hr, hl, h1, h2⟩ <;> (unfold takeV putV lowV; rw [h1, h2]; simp; omega)
theorem put_word {n a v d : Int} (h : alP n a) (ha : 0 ≤ a) (hv : 0 ≤ v ∧ v < 4294967296) (hd : 0 ≤ d ∧ d < 4294967296) (h4 : n = 4) : putV n a v d = d := by
  subst h4
  have h1 : pw a = 1 := by unfold pw; unfold alP at h; rw [if_pos h.2]
  unfold putV; rw [h1, show qn 4 = 4294967296 from rfl]; omega
theorem put_out {n a v d : Int} (h : alP n a) (ha : 0 ≤ a) (hv : 0 ≤ v ∧ v < 4294967296) (hd : 0 ≤ d ∧ d < 4294967296) : andnV (xorV (putV n a v d) v) (wideV (lanesV n a)) = 0 := by
  have hb := put_bd h ha hv hd
  rcases al_facts h ha with ⟨rfl, hr, hl, h1, h2⟩ | ⟨rfl, hr, hl, h1, h2⟩ | ⟨rfl, hr, hl, h1, h2⟩ | ⟨rfl, hr, hl, h1, h2⟩ | ⟨rfl, hr, hl, h1, h2⟩ | ⟨rfl, hr, hl, h1, h2⟩ | ⟨rfl, hr, hl, h1, h2⟩ <;> rw [hl]
  · exact andn_xor 0 8 hb hv 255 (by decide) (by decide) (by unfold putV; rw [h1, h2]; simp; omega)
  · exact andn_xor 8 8 hb hv 65280 (by decide) (by decide) (by unfold putV; rw [h1, h2]; simp; omega)
  · exact andn_xor 16 8 hb hv 16711680 (by decide) (by decide) (by unfold putV; rw [h1, h2]; simp; omega)
  · exact andn_xor 24 8 hb hv 4278190080 (by decide) (by decide) (by unfold putV; rw [h1, h2]; simp; omega)
  · exact andn_xor 0 16 hb hv 65535 (by decide) (by decide) (by unfold putV; rw [h1, h2]; simp; omega)
  · exact andn_xor 16 16 hb hv 4294901760 (by decide) (by decide) (by unfold putV; rw [h1, h2]; simp; omega)
  · exact andn_xor 0 32 hb hv 4294967295 (by decide) (by decide) (by unfold putV; rw [h1, h2]; simp; omega)
theorem put_far {n a m o v d : Int} (h : alP n a) (ha : 0 ≤ a) (g : alP m o) (ho : 0 ≤ o) (hv : 0 ≤ v ∧ v < 4294967296) (hd : 0 ≤ d ∧ d < 4294967296) (hz : andV (lanesV m o) (lanesV n a) = 0) : takeV m o v = takeV m o (putV n a v d) := by
  rcases al_facts h ha with ⟨rfl, hr, hl, h1, h2⟩ | ⟨rfl, hr, hl, h1, h2⟩ | ⟨rfl, hr, hl, h1, h2⟩ | ⟨rfl, hr, hl, h1, h2⟩ | ⟨rfl, hr, hl, h1, h2⟩ | ⟨rfl, hr, hl, h1, h2⟩ | ⟨rfl, hr, hl, h1, h2⟩ <;> rcases al_facts g ho with ⟨rfl, ir, il, i1, i2⟩ | ⟨rfl, ir, il, i1, i2⟩ | ⟨rfl, ir, il, i1, i2⟩ | ⟨rfl, ir, il, i1, i2⟩ | ⟨rfl, ir, il, i1, i2⟩ | ⟨rfl, ir, il, i1, i2⟩ | ⟨rfl, ir, il, i1, i2⟩ <;> rw [hl, il] at hz <;> first
    | (exfalso; revert hz; decide)
    | (unfold takeV putV; simp only [h1, h2, i1, i2]; clear hz; omega)
def s6 : Sp := fun vs H Q => match vs with
  | [.int .u32 v, .int .u32 a, .int .u32 o, .int .i64 n, .int .i64 m, .int .u32 d] => ((0 ≤ v ∧ v < 4294967296) ∧ (0 ≤ a ∧ a < 4294967296) ∧ (0 ≤ o ∧ o < 4294967296) ∧ (-9223372036854775808 ≤ n ∧ n < 9223372036854775808) ∧ (-9223372036854775808 ≤ m ∧ m < 9223372036854775808) ∧ (0 ≤ d ∧ d < 4294967296)) ∧ GLB H ∧ Q (.bool true) H false false
  | _ => False
theorem m6 : Mono s6 := by
  intro vs H Q Q' hQ h
  unfold s6 at h ⊢
  split at h
  all_goals first
    | exact h.elim
    | (repeat' (first | exact hQ _ _ _ _ h | refine And.imp_right (fun h => ?_) h | refine Exists.imp (fun _ h => ?_) h | (intro z; replace h := h z)))
theorem k6 : Snd Tryd.prog 2 6 s6 := by
  refine snd_of_ev (by kernel_rfl) (C := tab [(10, s10), (12, s12), (14, s14), (15, s15), (16, s16), (17, s17), (18, s18)]) (sndC_cons k10 (sndC_cons k12 (sndC_cons k14 (sndC_cons k15 (sndC_cons k16 (sndC_cons k17 (sndC_cons k18 (sndC_nil)))))))) x6 n6 c6 30 ?_
  intro vs H Q hs
  unfold s6 at hs
  split at hs
  · rename_i v a o n m d
    obtain ⟨hp, hg, hq⟩ := hs
    by_cases ha : alP n a
    · have f0 := put_bd ha hp.2.1.1 hp.1 hp.2.2.2.2.2
      have f1 := take_put ha hp.2.1.1 hp.1 hp.2.2.2.2.2
      have f2 := put_out ha hp.2.1.1 hp.1 hp.2.2.2.2.2
      have f3 := put_word ha hp.2.1.1 hp.1 hp.2.2.2.2.2
      have f5 : 0 ≤ lanesV n a ∧ lanesV n a < 4294967296 := by unfold lanesV; (repeat' split) <;> omega
      by_cases hb : alP m o
      · have f4 := put_far ha hp.2.1.1 hb hp.2.2.1.1 hp.1 hp.2.2.2.2.2
        repeat' (conv => whnf
                 first
                 | (refine Stop.mk ?_)
                 | (refine fI_known (if_pos ha) ?_)
                 | (refine fI_known (if_pos hb) ?_)
                 | (refine fO_known (decide_eq_true ha) ?_)
                 | (refine fO_known (decide_eq_true hb) ?_)
                 | (with_reducible refine gI_xorV ?_; intro z hz)
                 | (with_reducible refine gI_andV ?_; intro z hz)
                 | (with_reducible refine gI_andnV ?_; intro z hz)
                 | (refine fI_gen ?_; intro z hz)
                 | (refine fO_gen ?_; intro z hz)
                 | (refine dec_true (by assumption) ?_)
                 | (refine dec_false (by assumption) ?_)
                 | (refine dec_split (fun h => ?_) (fun h => ?_))
                 | (apply silE)
                 | (exact And.intro rfl (And.intro rfl (And.intro rfl rfl)))
                 | (refine And.intro (by first | omega | ((simp only [decide_eq_true_eq, decide_eq_false_iff_not, Bool.and_eq_true, beq_iff_eq, Bool.not_eq_true', Bool.not_eq_false'] at *); omega) | (subst_vars; simp only [Int.ofNat_eq_natCast, tq_not, fq_not, tq_and, fq_and, tq_or, fq_or, tq_beq, fq_beq, tq_bne, fq_bne, tq_dec, fq_dec, one1, V.tup.injEq, V.agg.injEq, List.cons.injEq, V.int.injEq, V.bool.injEq, true_and, and_true, decide_eq_true_eq, decide_eq_false_iff_not, Bool.and_eq_true, Bool.and_eq_false_iff, Bool.or_eq_true, Bool.or_eq_false_iff, Bool.not_eq_true', Bool.not_eq_false', beq_iff_eq, wrap_u32, wrap_i64, wrap_u8, beq_eq_false_iff_ne, ne_eq, bne_iff_ne, bne_eq_false_iff_eq, eq_self, and_self, splice, V.cells, List.take_succ_cons, List.take_zero, List.take_nil, List.drop_zero, List.drop_succ_cons, List.drop_nil, List.cons_append, List.nil_append, List.append_nil, List.length_cons, List.length_nil, Nat.zero_add, Nat.reduceAdd, if_true, if_false, Bool.false_eq_true, beq_self_eq_true, decide_eq_decide, Bool.true_eq_false, or_false, false_or, or_true, true_or, and_false, false_and, not_true_eq_false, not_false_eq_true, Bool.and_true, Bool.true_and, Bool.not_true, Bool.not_false] at *; omega)) ?_)
                 | (refine Exists.intro _ (Exists.intro _ (And.intro rfl ?_)))
                 | (refine Exists.intro _ (And.intro rfl ?_))
                 | (refine Exists.intro _ (Exists.intro _ (Exists.intro _ (Exists.intro _ (And.intro rfl ?_)))))
                 | (refine ld_step rfl (by assumption) rfl ?_)
                 | (refine lds_step rfl (by assumption) rfl ?_)
                 | (refine fL_mk ?_)
                 | (refine fH_mk ?_)
                 | (refine fN_mk ?_)
                 | (refine fLB_mk ?_)
                 | (refine And.intro (by repeat (first | assumption | refine GLB_app ?_)) ?_)
                 | (refine ld_step rfl ((rd_x0 _ _ _ _ _).trans rfl) rfl ?_)
                 | (refine ld_step rfl ((rd_x1 _ _ _ _ _ _).trans rfl) rfl ?_)
                 | (refine ld_step rfl ((rd_x2 _ _ _ _ _ _ _).trans rfl) rfl ?_)
                 | (refine lds_step rfl ((rd_x0 _ _ _ _ _).trans rfl) rfl ?_)
                 | (refine lds_step rfl ((rd_x1 _ _ _ _ _ _).trans rfl) rfl ?_)
                 | (refine lds_step rfl ((rd_x2 _ _ _ _ _ _ _).trans rfl) rfl ?_)
                 | (refine mem_step (st_eq rfl rfl rfl rfl (wr_last _ _ _ _ rfl)) ?_)
                 | (refine drec_yes (by omega) ?_)
                 | (refine drec_no (by omega) ?_)
                 | (intro _)
                 | fail)
        all_goals
          conv => whnf
          refine leafE hq ?_
          clear hq
          first
          | rfl
          | grind [one1]
      · repeat' (conv => whnf
                 first
                 | (refine Stop.mk ?_)
                 | (refine fI_known (if_pos ha) ?_)
                 | (refine fI_known (if_neg hb) ?_)
                 | (refine fO_known (decide_eq_true ha) ?_)
                 | (refine fO_known (decide_eq_false hb) ?_)
                 | (with_reducible refine gI_xorV ?_; intro z hz)
                 | (with_reducible refine gI_andV ?_; intro z hz)
                 | (with_reducible refine gI_andnV ?_; intro z hz)
                 | (refine fI_gen ?_; intro z hz)
                 | (refine fO_gen ?_; intro z hz)
                 | (refine dec_true (by assumption) ?_)
                 | (refine dec_false (by assumption) ?_)
                 | (refine dec_split (fun h => ?_) (fun h => ?_))
                 | (apply silE)
                 | (exact And.intro rfl (And.intro rfl (And.intro rfl rfl)))
                 | (refine And.intro (by first | omega | ((simp only [decide_eq_true_eq, decide_eq_false_iff_not, Bool.and_eq_true, beq_iff_eq, Bool.not_eq_true', Bool.not_eq_false'] at *); omega) | (subst_vars; simp only [Int.ofNat_eq_natCast, tq_not, fq_not, tq_and, fq_and, tq_or, fq_or, tq_beq, fq_beq, tq_bne, fq_bne, tq_dec, fq_dec, one1, V.tup.injEq, V.agg.injEq, List.cons.injEq, V.int.injEq, V.bool.injEq, true_and, and_true, decide_eq_true_eq, decide_eq_false_iff_not, Bool.and_eq_true, Bool.and_eq_false_iff, Bool.or_eq_true, Bool.or_eq_false_iff, Bool.not_eq_true', Bool.not_eq_false', beq_iff_eq, wrap_u32, wrap_i64, wrap_u8, beq_eq_false_iff_ne, ne_eq, bne_iff_ne, bne_eq_false_iff_eq, eq_self, and_self, splice, V.cells, List.take_succ_cons, List.take_zero, List.take_nil, List.drop_zero, List.drop_succ_cons, List.drop_nil, List.cons_append, List.nil_append, List.append_nil, List.length_cons, List.length_nil, Nat.zero_add, Nat.reduceAdd, if_true, if_false, Bool.false_eq_true, beq_self_eq_true, decide_eq_decide, Bool.true_eq_false, or_false, false_or, or_true, true_or, and_false, false_and, not_true_eq_false, not_false_eq_true, Bool.and_true, Bool.true_and, Bool.not_true, Bool.not_false] at *; omega)) ?_)
                 | (refine Exists.intro _ (Exists.intro _ (And.intro rfl ?_)))
                 | (refine Exists.intro _ (And.intro rfl ?_))
                 | (refine Exists.intro _ (Exists.intro _ (Exists.intro _ (Exists.intro _ (And.intro rfl ?_)))))
                 | (refine ld_step rfl (by assumption) rfl ?_)
                 | (refine lds_step rfl (by assumption) rfl ?_)
                 | (refine fL_mk ?_)
                 | (refine fH_mk ?_)
                 | (refine fN_mk ?_)
                 | (refine fLB_mk ?_)
                 | (refine And.intro (by repeat (first | assumption | refine GLB_app ?_)) ?_)
                 | (refine ld_step rfl ((rd_x0 _ _ _ _ _).trans rfl) rfl ?_)
                 | (refine ld_step rfl ((rd_x1 _ _ _ _ _ _).trans rfl) rfl ?_)
                 | (refine ld_step rfl ((rd_x2 _ _ _ _ _ _ _).trans rfl) rfl ?_)
                 | (refine lds_step rfl ((rd_x0 _ _ _ _ _).trans rfl) rfl ?_)
                 | (refine lds_step rfl ((rd_x1 _ _ _ _ _ _).trans rfl) rfl ?_)
                 | (refine lds_step rfl ((rd_x2 _ _ _ _ _ _ _).trans rfl) rfl ?_)
                 | (refine mem_step (st_eq rfl rfl rfl rfl (wr_last _ _ _ _ rfl)) ?_)
                 | (refine drec_yes (by omega) ?_)
                 | (refine drec_no (by omega) ?_)
                 | (intro _)
                 | fail)
        all_goals
          conv => whnf
          refine leafE hq ?_
          clear hq
          first
          | rfl
          | grind [one1]
    · repeat' (conv => whnf
               first
               | (refine Stop.mk ?_)
               | (refine fI_known (if_neg ha) ?_)
               | (refine fO_known (decide_eq_false ha) ?_)
               | (refine fI_gen ?_; intro z hz)
               | (refine fO_gen ?_; intro z hz)
               | (refine dec_true (by assumption) ?_)
               | (refine dec_false (by assumption) ?_)
               | (refine dec_split (fun h => ?_) (fun h => ?_))
               | (apply silE)
               | (exact And.intro rfl (And.intro rfl (And.intro rfl rfl)))
               | (refine And.intro (by first | omega | ((simp only [decide_eq_true_eq, decide_eq_false_iff_not, Bool.and_eq_true, beq_iff_eq, Bool.not_eq_true', Bool.not_eq_false'] at *); omega) | (subst_vars; simp only [Int.ofNat_eq_natCast, tq_not, fq_not, tq_and, fq_and, tq_or, fq_or, tq_beq, fq_beq, tq_bne, fq_bne, tq_dec, fq_dec, one1, V.tup.injEq, V.agg.injEq, List.cons.injEq, V.int.injEq, V.bool.injEq, true_and, and_true, decide_eq_true_eq, decide_eq_false_iff_not, Bool.and_eq_true, Bool.and_eq_false_iff, Bool.or_eq_true, Bool.or_eq_false_iff, Bool.not_eq_true', Bool.not_eq_false', beq_iff_eq, wrap_u32, wrap_i64, wrap_u8, beq_eq_false_iff_ne, ne_eq, bne_iff_ne, bne_eq_false_iff_eq, eq_self, and_self, splice, V.cells, List.take_succ_cons, List.take_zero, List.take_nil, List.drop_zero, List.drop_succ_cons, List.drop_nil, List.cons_append, List.nil_append, List.append_nil, List.length_cons, List.length_nil, Nat.zero_add, Nat.reduceAdd, if_true, if_false, Bool.false_eq_true, beq_self_eq_true, decide_eq_decide, Bool.true_eq_false, or_false, false_or, or_true, true_or, and_false, false_and, not_true_eq_false, not_false_eq_true, Bool.and_true, Bool.true_and, Bool.not_true, Bool.not_false] at *; omega)) ?_)
               | (refine Exists.intro _ (Exists.intro _ (And.intro rfl ?_)))
               | (refine Exists.intro _ (And.intro rfl ?_))
               | (refine Exists.intro _ (Exists.intro _ (Exists.intro _ (Exists.intro _ (And.intro rfl ?_)))))
               | (refine ld_step rfl (by assumption) rfl ?_)
               | (refine lds_step rfl (by assumption) rfl ?_)
               | (refine fL_mk ?_)
               | (refine fH_mk ?_)
               | (refine fN_mk ?_)
               | (refine fLB_mk ?_)
               | (refine And.intro (by repeat (first | assumption | refine GLB_app ?_)) ?_)
               | (refine ld_step rfl ((rd_x0 _ _ _ _ _).trans rfl) rfl ?_)
               | (refine ld_step rfl ((rd_x1 _ _ _ _ _ _).trans rfl) rfl ?_)
               | (refine ld_step rfl ((rd_x2 _ _ _ _ _ _ _).trans rfl) rfl ?_)
               | (refine lds_step rfl ((rd_x0 _ _ _ _ _).trans rfl) rfl ?_)
               | (refine lds_step rfl ((rd_x1 _ _ _ _ _ _).trans rfl) rfl ?_)
               | (refine lds_step rfl ((rd_x2 _ _ _ _ _ _ _).trans rfl) rfl ?_)
               | (refine mem_step (st_eq rfl rfl rfl rfl (wr_last _ _ _ _ rfl)) ?_)
               | (refine drec_yes (by omega) ?_)
               | (refine drec_no (by omega) ?_)
               | (intro _)
               | fail)
      all_goals
        conv => whnf
        refine leafE hq ?_
        clear hq
        first
        | rfl
        | grind [one1]
  · exact hs.elim
end Go.Ev
