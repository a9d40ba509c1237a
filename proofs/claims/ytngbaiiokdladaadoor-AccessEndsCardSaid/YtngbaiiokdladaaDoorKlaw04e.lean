/- dev: AccessEnds -/
import Derived.Test.YtngbaiiokdladaaDoorKasks4
import Derived.Test.YtngbaiiokdladaaDoorKkept
import Derived.Test.YtngbaiiokdladaaDoorEvZv
set_option linter.all false
namespace Go.Ev
open Go Go.Proofs
set_option maxRecDepth 10000
set_option maxHeartbeats 4000000
def szE : List Int := [-1, 0, 1, 2, 3, 4, 8]
def dtE : List Int := [0, 1, 255, 256, 65535, 65536, 4294967295]
def encU (x : Int) : List V := [.int .u32 x]
def encZ (x : Int) : List V := [.int .i64 x]
theorem szE_bd : ∀ x, x ∈ szE → (-9223372036854775808 ≤ x ∧ x < 9223372036854775808) := by decide
theorem dtE_bd : ∀ x, x ∈ dtE → (0 ≤ x ∧ x < 4294967296) := by decide
theorem encU_len (x : Int) : (encU x).length = 1 := rfl
theorem encZ_len (x : Int) : (encZ x).length = 1 := rfl
theorem splice_set1 {cs : List V} {i : Nat} {x : V} (h : i < cs.length) : splice cs i [x] = cs.set i x := by
  unfold splice
  rw [List.set_eq_take_append_cons_drop, if_pos h]; simp
theorem flat_mapB (l : List Int) : l.flatMap encB = l.map (V.int .u8) := by
  induction l with
  | nil => rfl
  | cons a l ih => rw [List.flatMap_cons, ih]; rfl
theorem splice_enc {l : List Int} {ws : List V} {i : Nat} {x : Int} (h : i < l.length) : splice (l.flatMap encB ++ ws) i [.int .u8 x] = (l.set i x).flatMap encB ++ ws := by
  have hl : (l.flatMap encB).length = l.length := by rw [flat_len encB_len, Nat.mul_one]
  rw [splice_set1 (by rw [List.length_append]; omega), List.set_append_left _ _ (by omega), flat_mapB, flat_mapB, List.map_set]
theorem rdB_set {H : List B} {b : Nat} {l : List Int} {ws : List V} {i : Nat} {x : Int} (h : H[b]? = some (.rw 5 (l.flatMap encB ++ ws))) (hi : i < l.length) {o : Nat} (ho : o = i) : RdB (H.set b (.rw 5 (splice (l.flatMap encB ++ ws) o [.int .u8 x]))) (some (b, 0)) (l.set i x) := by
  subst ho
  refine rdB_blk (ws := ws) ?_
  rw [List.getElem?_set_self (List.getElem?_eq_some_iff.1 h).1, splice_enc hi]
theorem rdB_take {H : List B} {b : Nat} {l : List Int} {ws : List V} {i : Nat} (h : H[b]? = some (.rw 5 (l.flatMap encB ++ ws))) (hi : i ≤ l.length) : rd H b 0 (i * 1) = some ((l.take i).flatMap encB) := by
  have e : l.flatMap encB ++ ws = (l.take i).flatMap encB ++ ((l.drop i).flatMap encB ++ ws) := by
    rw [← List.append_assoc, ← List.flatMap_append, List.take_append_drop]
  rw [e] at h
  have := rd_block h (flat_len encB_len _)
  rwa [List.length_take, Nat.min_eq_left hi] at this
theorem set_bd {l : List Int} {i : Nat} {z : Int} (h : ∀ x, x ∈ l → 0 ≤ x ∧ x < 256) (hz : 0 ≤ z ∧ z < 256) : ∀ x, x ∈ l.set i z → 0 ≤ x ∧ x < 256 := fun x hx => by
  rcases List.mem_or_eq_of_mem_set hx with h1 | rfl
  · exact h x h1
  · exact hz
theorem Ext.set {H M : List B} (h : Ext H M) {b : Nat} (hb : H.length ≤ b) (x : B) : Ext H (M.set b x) := ⟨by rw [List.length_set]; exact h.1, fun y hy => by rw [List.getElem?_set, if_neg (by omega)]; exact h.2 y hy⟩
def s6 : Sp := fun vs H Q => match vs with
  | [] => GLB H ∧ ∀ X e g, Q (.bool true) (H ++ X) e g
  | _ => False
theorem k6 : Snd Tryd.prog 1 6 s6 := by
  refine snd_of_ev (by kernel_rfl) (C := tab [(8, s8), (9, s9), (14, s14), (15, s15), (16, s16)]) (sndC_cons k8 (sndC_cons k9 (sndC_cons k14 (sndC_cons k15 (sndC_cons k16 (sndC_nil)))))) x6 n6 c6 400 ?_
  have hC : MonoC (tab [(8, s8), (9, s9), (14, s14), (15, s15), (16, s16)]) := monoC_cons m8 (monoC_cons m9 (monoC_cons m14 (monoC_cons m15 (monoC_cons m16 (monoC_nil)))))
  intro vs Hx Q hs
  unfold s6 at hs
  split at hs
  · obtain ⟨hg, hq⟩ := hs
    suffices hh : ∀ k, 300 < k → evFun (tab [(8, s8), (9, s9), (14, s14), (15, s15), (16, s16)]) k e6 [] Hx Q from hh _ (by omega)
    intro k hk
    refine evFun_in (tm := undefV :: undefV :: undefV :: undefV :: undefV :: undefV :: undefV :: undefV :: undefV :: undefV :: undefV :: undefV :: undefV :: undefV :: undefV :: undefV :: undefV :: undefV :: undefV :: undefV :: undefV :: undefV :: undefV :: undefV :: undefV :: undefV :: undefV :: undefV :: undefV :: undefV :: undefV :: undefV :: undefV :: undefV :: undefV :: undefV :: undefV :: undefV :: undefV :: undefV :: undefV :: undefV :: undefV :: undefV :: undefV :: undefV :: undefV :: undefV :: undefV :: undefV :: undefV :: undefV :: undefV :: undefV :: undefV :: undefV :: undefV :: undefV :: undefV :: undefV :: undefV :: undefV :: undefV :: undefV :: undefV :: undefV :: undefV :: undefV :: undefV :: undefV :: undefV :: undefV :: undefV :: undefV :: undefV :: undefV :: undefV :: undefV :: undefV :: undefV :: undefV :: undefV :: undefV :: undefV :: undefV :: undefV :: undefV :: []) rfl ?_
    show rC _ _ r6_0 _ _ _ _ _ _
    refine rC_seqH ?_
    repeat' (conv => whnf
             first | (refine Stop.mk ?_) | (refine fI_gen ?_; intro z hz) | (refine fO_gen ?_; intro z hz) | (refine dec_true (by assumption) ?_) | (refine dec_false (by assumption) ?_) | (refine dec_split (fun h => ?_) (fun h => ?_)) | (apply silE) | (refine Both.mk ?_ ?_) | (refine And.intro rfl ?_) | (exact And.intro rfl (And.intro rfl (And.intro rfl rfl))) | (refine And.intro (by first | omega | ((simp only [decide_eq_true_eq, decide_eq_false_iff_not, Bool.and_eq_true, beq_iff_eq, Bool.not_eq_true', Bool.not_eq_false'] at *); omega) | (subst_vars; simp only [Int.ofNat_eq_natCast, tq_not, fq_not, tq_and, fq_and, tq_or, fq_or, tq_beq, fq_beq, tq_bne, fq_bne, tq_dec, fq_dec, one1, V.tup.injEq, V.agg.injEq, List.cons.injEq, V.int.injEq, V.bool.injEq, true_and, and_true, decide_eq_true_eq, decide_eq_false_iff_not, Bool.and_eq_true, Bool.and_eq_false_iff, Bool.or_eq_true, Bool.or_eq_false_iff, Bool.not_eq_true', Bool.not_eq_false', beq_iff_eq, wrap_u32, wrap_i64, wrap_u8, beq_eq_false_iff_ne, ne_eq, bne_iff_ne, bne_eq_false_iff_eq, eq_self, and_self, splice, V.cells, List.take_succ_cons, List.take_zero, List.take_nil, List.drop_zero, List.drop_succ_cons, List.drop_nil, List.cons_append, List.nil_append, List.append_nil, List.length_cons, List.length_nil, Nat.zero_add, Nat.reduceAdd, if_true, if_false, Bool.false_eq_true, beq_self_eq_true, decide_eq_decide, Bool.true_eq_false, or_false, false_or, or_true, true_or, and_false, false_and, not_true_eq_false, not_false_eq_true, Bool.and_true, Bool.true_and, Bool.not_true, Bool.not_false] at *; omega)) ?_) | (refine Exists.intro _ (Exists.intro _ (And.intro rfl ?_))) | (refine Exists.intro _ (And.intro rfl ?_)) | (refine Exists.intro _ (Exists.intro _ (Exists.intro _ (Exists.intro _ (And.intro rfl ?_))))) | (refine ld_step rfl (by assumption) rfl ?_) | (refine lds_step rfl (by assumption) rfl ?_) | (refine fL_mk ?_) | (refine fH_mk ?_) | (refine fN_mk ?_) | (refine fLB_mk ?_) | (refine And.intro (by repeat (first | assumption | refine GLB_app ?_)) ?_) | (refine ld_step rfl ((rd_x0 _ _ _ _ _).trans rfl) rfl ?_) | (refine ld_step rfl ((rd_x1 _ _ _ _ _ _).trans rfl) rfl ?_) | (refine ld_step rfl ((rd_x2 _ _ _ _ _ _ _).trans rfl) rfl ?_) | (refine lds_step rfl ((rd_x0 _ _ _ _ _).trans rfl) rfl ?_) | (refine lds_step rfl ((rd_x1 _ _ _ _ _ _).trans rfl) rfl ?_) | (refine lds_step rfl ((rd_x2 _ _ _ _ _ _ _).trans rfl) rfl ?_) | (refine mem_step (st_eq rfl rfl rfl rfl (wr_last _ _ _ _ rfl)) ?_) | (refine drec_yes (by omega) ?_) | (refine drec_no (by omega) ?_) | (intro _) | fail)
    any_goals refine Halt.mk ?_
    any_goals show rC _ _ r6_1 _ _ _ _ _ _
    refine rC_seqH ?_
    repeat' (conv => whnf
             first | (refine Stop.mk ?_) | (refine fI_gen ?_; intro z hz) | (refine fO_gen ?_; intro z hz) | (refine dec_true (by assumption) ?_) | (refine dec_false (by assumption) ?_) | (refine dec_split (fun h => ?_) (fun h => ?_)) | (apply silE) | (refine Both.mk ?_ ?_) | (refine And.intro rfl ?_) | (exact And.intro rfl (And.intro rfl (And.intro rfl rfl))) | (refine And.intro (by first | omega | ((simp only [decide_eq_true_eq, decide_eq_false_iff_not, Bool.and_eq_true, beq_iff_eq, Bool.not_eq_true', Bool.not_eq_false'] at *); omega) | (subst_vars; simp only [Int.ofNat_eq_natCast, tq_not, fq_not, tq_and, fq_and, tq_or, fq_or, tq_beq, fq_beq, tq_bne, fq_bne, tq_dec, fq_dec, one1, V.tup.injEq, V.agg.injEq, List.cons.injEq, V.int.injEq, V.bool.injEq, true_and, and_true, decide_eq_true_eq, decide_eq_false_iff_not, Bool.and_eq_true, Bool.and_eq_false_iff, Bool.or_eq_true, Bool.or_eq_false_iff, Bool.not_eq_true', Bool.not_eq_false', beq_iff_eq, wrap_u32, wrap_i64, wrap_u8, beq_eq_false_iff_ne, ne_eq, bne_iff_ne, bne_eq_false_iff_eq, eq_self, and_self, splice, V.cells, List.take_succ_cons, List.take_zero, List.take_nil, List.drop_zero, List.drop_succ_cons, List.drop_nil, List.cons_append, List.nil_append, List.append_nil, List.length_cons, List.length_nil, Nat.zero_add, Nat.reduceAdd, if_true, if_false, Bool.false_eq_true, beq_self_eq_true, decide_eq_decide, Bool.true_eq_false, or_false, false_or, or_true, true_or, and_false, false_and, not_true_eq_false, not_false_eq_true, Bool.and_true, Bool.true_and, Bool.not_true, Bool.not_false] at *; omega)) ?_) | (refine Exists.intro _ (Exists.intro _ (And.intro rfl ?_))) | (refine Exists.intro _ (And.intro rfl ?_)) | (refine Exists.intro _ (Exists.intro _ (Exists.intro _ (Exists.intro _ (And.intro rfl ?_))))) | (refine ld_step rfl (by assumption) rfl ?_) | (refine lds_step rfl (by assumption) rfl ?_) | (refine fL_mk ?_) | (refine fH_mk ?_) | (refine fN_mk ?_) | (refine fLB_mk ?_) | (refine And.intro (by repeat (first | assumption | refine GLB_app ?_)) ?_) | (refine ld_step rfl ((rd_x0 _ _ _ _ _).trans rfl) rfl ?_) | (refine ld_step rfl ((rd_x1 _ _ _ _ _ _).trans rfl) rfl ?_) | (refine ld_step rfl ((rd_x2 _ _ _ _ _ _ _).trans rfl) rfl ?_) | (refine lds_step rfl ((rd_x0 _ _ _ _ _).trans rfl) rfl ?_) | (refine lds_step rfl ((rd_x1 _ _ _ _ _ _).trans rfl) rfl ?_) | (refine lds_step rfl ((rd_x2 _ _ _ _ _ _ _).trans rfl) rfl ?_) | (refine mem_step (st_eq rfl rfl rfl rfl (wr_last _ _ _ _ rfl)) ?_) | (refine drec_yes (by omega) ?_) | (refine drec_no (by omega) ?_) | (intro _) | fail)
    any_goals refine Halt.mk ?_
    any_goals show rC _ _ r6_2 _ _ _ _ _ _
    obtain ⟨H1, hH1⟩ : ∃ H1, H1 = Hx ++ [.rw 3 (szE.flatMap encZ)] := ⟨_, rfl⟩
    have hS1 : rd H1 Hx.length 0 (szE.length * 1) = some (szE.flatMap encZ) := by rw [hH1]; exact (rd_x0 _ _ _ _ _).trans rfl
    have g1 : GLB H1 := hH1 ▸ GLB_app hg
    have hx1 : Ext Hx H1 := hH1 ▸ (Ext.refl Hx).app _
    change rC _ _ _ _ _ (Hx ++ [.rw 3 (szE.flatMap encZ)]) _ _ _
    rw [← hH1]
    clear hH1
    refine rC_seqH ?_
    repeat' (conv => whnf
             first | (refine Stop.mk ?_) | (refine fI_gen ?_; intro z hz) | (refine fO_gen ?_; intro z hz) | (refine dec_true (by assumption) ?_) | (refine dec_false (by assumption) ?_) | (refine dec_split (fun h => ?_) (fun h => ?_)) | (apply silE) | (refine Both.mk ?_ ?_) | (refine And.intro rfl ?_) | (exact And.intro rfl (And.intro rfl (And.intro rfl rfl))) | (refine And.intro (by first | omega | ((simp only [decide_eq_true_eq, decide_eq_false_iff_not, Bool.and_eq_true, beq_iff_eq, Bool.not_eq_true', Bool.not_eq_false'] at *); omega) | (subst_vars; simp only [Int.ofNat_eq_natCast, tq_not, fq_not, tq_and, fq_and, tq_or, fq_or, tq_beq, fq_beq, tq_bne, fq_bne, tq_dec, fq_dec, one1, V.tup.injEq, V.agg.injEq, List.cons.injEq, V.int.injEq, V.bool.injEq, true_and, and_true, decide_eq_true_eq, decide_eq_false_iff_not, Bool.and_eq_true, Bool.and_eq_false_iff, Bool.or_eq_true, Bool.or_eq_false_iff, Bool.not_eq_true', Bool.not_eq_false', beq_iff_eq, wrap_u32, wrap_i64, wrap_u8, beq_eq_false_iff_ne, ne_eq, bne_iff_ne, bne_eq_false_iff_eq, eq_self, and_self, splice, V.cells, List.take_succ_cons, List.take_zero, List.take_nil, List.drop_zero, List.drop_succ_cons, List.drop_nil, List.cons_append, List.nil_append, List.append_nil, List.length_cons, List.length_nil, Nat.zero_add, Nat.reduceAdd, if_true, if_false, Bool.false_eq_true, beq_self_eq_true, decide_eq_decide, Bool.true_eq_false, or_false, false_or, or_true, true_or, and_false, false_and, not_true_eq_false, not_false_eq_true, Bool.and_true, Bool.true_and, Bool.not_true, Bool.not_false] at *; omega)) ?_) | (refine Exists.intro _ (Exists.intro _ (And.intro rfl ?_))) | (refine Exists.intro _ (And.intro rfl ?_)) | (refine Exists.intro _ (Exists.intro _ (Exists.intro _ (Exists.intro _ (And.intro rfl ?_))))) | (refine ld_step rfl (by assumption) rfl ?_) | (refine lds_step rfl (by assumption) rfl ?_) | (refine fL_mk ?_) | (refine fH_mk ?_) | (refine fN_mk ?_) | (refine fLB_mk ?_) | (refine And.intro (by repeat (first | assumption | refine GLB_app ?_)) ?_) | (refine ld_step rfl ((rd_x0 _ _ _ _ _).trans rfl) rfl ?_) | (refine ld_step rfl ((rd_x1 _ _ _ _ _ _).trans rfl) rfl ?_) | (refine ld_step rfl ((rd_x2 _ _ _ _ _ _ _).trans rfl) rfl ?_) | (refine lds_step rfl ((rd_x0 _ _ _ _ _).trans rfl) rfl ?_) | (refine lds_step rfl ((rd_x1 _ _ _ _ _ _).trans rfl) rfl ?_) | (refine lds_step rfl ((rd_x2 _ _ _ _ _ _ _).trans rfl) rfl ?_) | (refine mem_step (st_eq rfl rfl rfl rfl (wr_last _ _ _ _ rfl)) ?_) | (refine drec_yes (by omega) ?_) | (refine drec_no (by omega) ?_) | (intro _) | fail)
    any_goals refine Halt.mk ?_
    any_goals show rC _ _ r6_3 _ _ _ _ _ _
    obtain ⟨H2, hH2⟩ : ∃ H2, H2 = H1 ++ [.rw 25 (dtE.flatMap encU)] := ⟨_, rfl⟩
    have hS : rd H2 Hx.length 0 (szE.length * 1) = some (szE.flatMap encZ) := hH2 ▸ rd_app hS1 _
    have hD : rd H2 H1.length 0 (dtE.length * 1) = some (dtE.flatMap encU) := by rw [hH2]; exact (rd_x0 _ _ _ _ _).trans rfl
    have g2 : GLB H2 := hH2 ▸ GLB_app g1
    have hx2 : Ext Hx H2 := hH2 ▸ hx1.app _
    change rC _ _ _ _ _ (H1 ++ [.rw 25 (dtE.flatMap encU)]) _ _ _
    rw [← hH2]
    clear hH2 hS1 g1 hx1
    refine rC_seqH ?_
    repeat' (conv => whnf
             first | (refine Stop.mk ?_) | (refine fI_mk ?_) | (refine fO_mk ?_) | (refine fN_mk ?_) | fail)
    conv => whnf
    refine rLoop_ctrV (T := cvM) (c := rC (tab [(8, s8), (9, s9), (14, s14), (15, s15), (16, s16)]) k l6_0) 11 3 (true :: false :: false :: false :: true :: true :: true :: false :: false :: false :: false :: false :: false :: false :: true :: true :: true :: true :: true :: true :: true :: true :: true :: true :: true :: true :: true :: true :: true :: true :: true :: true :: true :: true :: true :: true :: true :: true :: true :: true :: true :: true :: true :: true :: true :: true :: false :: false :: false :: false :: false :: false :: false :: false :: false :: false :: false :: false :: false :: false :: false :: false :: false :: false :: false :: false :: false :: false :: false :: false :: false :: false :: false :: false :: false :: false :: false :: false :: false :: false :: false :: false :: false :: false :: false :: false :: false :: []) (fun i tm L H e g => (∃ X, H = H2 ++ X)) (by omega) rfl ⟨[], (List.append_nil _).symm⟩ ?_
    intro i0 hi0
    conv => whnf
    intro j
    conv => whnf
    intro j
    conv => whnf
    intro j
    conv => whnf
    intro j
    conv => whnf
    intro j
    conv => whnf
    intro j
    conv => whnf
    intro j
    conv => whnf
    intro j
    conv => whnf
    intro j
    conv => whnf
    intro j
    conv => whnf
    intro j
    conv => whnf
    intro j
    conv => whnf
    intro j
    conv => whnf
    intro j
    conv => whnf
    intro j
    conv => whnf
    intro j
    conv => whnf
    intro j
    conv => whnf
    intro j
    conv => whnf
    intro j
    conv => whnf
    intro j
    conv => whnf
    intro j
    conv => whnf
    intro j
    conv => whnf
    intro j
    conv => whnf
    intro j
    conv => whnf
    intro j
    conv => whnf
    intro j
    conv => whnf
    intro j
    conv => whnf
    intro j
    conv => whnf
    intro j
    conv => whnf
    intro j
    conv => whnf
    intro j
    conv => whnf
    intro j
    conv => whnf
    intro j
    conv => whnf
    intro j
    conv => whnf
    intro j
    conv => whnf
    intro j
    conv => whnf
    refine Halt.mk ?_
    rintro L H' e g ⟨X, rfl⟩ K kn kx kr
    repeat' (conv => whnf
             first | (refine Stop.mk ?_) | (refine fI_mk ?_) | (refine fO_mk ?_) | (refine fN_mk ?_) | fail)
    conv => whnf
    refine dec_split (fun h => ?_) (fun h => ?_)
    · have hlt : i0 < 11 := by have h2 : (i0 : Int) - 1 < 10 := of_decide_eq_true h; omega
      clear kx
      repeat' (conv => whnf
               first | (refine Stop.mk ?_) | (refine fI_mk ?_) | (refine fO_mk ?_) | (refine fN_mk ?_) | fail)
      conv => whnf
      refine rLoop_ctr (c := rC (tab [(8, s8), (9, s9), (14, s14), (15, s15), (16, s16)]) k l6_1) 49 4 (true :: false :: false :: false :: false :: true :: true :: false :: false :: false :: false :: false :: false :: false :: false :: false :: false :: false :: true :: true :: true :: true :: true :: true :: true :: true :: true :: true :: true :: true :: true :: true :: true :: true :: true :: true :: true :: true :: true :: true :: true :: true :: true :: true :: true :: true :: false :: false :: false :: false :: false :: false :: false :: false :: false :: false :: false :: false :: false :: false :: false :: false :: false :: false :: false :: false :: false :: false :: false :: false :: false :: false :: false :: false :: false :: false :: false :: false :: false :: false :: false :: false :: false :: false :: false :: false :: false :: []) (fun i tm L H e g => (∃ X, H = H2 ++ X)) (by omega) rfl ⟨X, rfl⟩ ?_
      intro i1 hi1
      conv => whnf
      intro j
      conv => whnf
      intro j
      conv => whnf
      intro j
      conv => whnf
      intro j
      conv => whnf
      intro j
      conv => whnf
      intro j
      conv => whnf
      intro j
      conv => whnf
      intro j
      conv => whnf
      intro j
      conv => whnf
      intro j
      conv => whnf
      intro j
      conv => whnf
      intro j
      conv => whnf
      intro j
      conv => whnf
      intro j
      conv => whnf
      intro j
      conv => whnf
      intro j
      conv => whnf
      intro j
      conv => whnf
      intro j
      conv => whnf
      intro j
      conv => whnf
      intro j
      conv => whnf
      intro j
      conv => whnf
      intro j
      conv => whnf
      intro j
      conv => whnf
      intro j
      conv => whnf
      intro j
      conv => whnf
      intro j
      conv => whnf
      intro j
      conv => whnf
      intro j
      conv => whnf
      intro j
      conv => whnf
      intro j
      conv => whnf
      intro j
      conv => whnf
      refine Halt.mk ?_
      rintro L H' e g ⟨X, rfl⟩ K1 kn1 kx1 kr1
      repeat' (conv => whnf
               first | (refine Stop.mk ?_) | (refine fI_mk ?_) | (refine fO_mk ?_) | (refine fN_mk ?_) | fail)
      conv => whnf
      refine dec_split (fun h1 => ?_) (fun h1 => ?_)
      · have hlt1 : i1 < 49 := by have h2 : (i1 : Int) < 49 := of_decide_eq_true h1; omega
        clear kx1
        repeat' (conv => whnf
                 first | (refine Stop.mk ?_) | (refine fI_mk ?_) | (refine fO_mk ?_) | (refine fN_mk ?_) | fail)
        conv => whnf
        refine rLoop_ctrV (T := cvU) (c := rC (tab [(8, s8), (9, s9), (14, s14), (15, s15), (16, s16)]) k l6_2) 5 5 (true :: false :: false :: false :: false :: false :: true :: false :: false :: false :: false :: false :: false :: false :: false :: false :: false :: false :: false :: false :: false :: false :: true :: true :: true :: true :: true :: true :: true :: true :: true :: true :: true :: true :: true :: true :: true :: true :: true :: true :: true :: true :: true :: true :: true :: true :: false :: false :: false :: false :: false :: false :: false :: false :: false :: false :: false :: false :: false :: false :: false :: false :: false :: false :: false :: false :: false :: false :: false :: false :: false :: false :: false :: false :: false :: false :: false :: false :: false :: false :: false :: false :: false :: false :: false :: false :: false :: []) (fun i tm L H e g => (∃ X, H = H2 ++ X)) (by omega) rfl ⟨X, rfl⟩ ?_
        intro i2 hi2
        conv => whnf
        intro j
        conv => whnf
        intro j
        conv => whnf
        intro j
        conv => whnf
        intro j
        conv => whnf
        intro j
        conv => whnf
        intro j
        conv => whnf
        intro j
        conv => whnf
        intro j
        conv => whnf
        intro j
        conv => whnf
        intro j
        conv => whnf
        intro j
        conv => whnf
        intro j
        conv => whnf
        intro j
        conv => whnf
        intro j
        conv => whnf
        intro j
        conv => whnf
        intro j
        conv => whnf
        intro j
        conv => whnf
        intro j
        conv => whnf
        intro j
        conv => whnf
        intro j
        conv => whnf
        intro j
        conv => whnf
        intro j
        conv => whnf
        intro j
        conv => whnf
        intro j
        conv => whnf
        intro j
        conv => whnf
        intro j
        conv => whnf
        refine Halt.mk ?_
        rintro L H' e g ⟨X, rfl⟩ K2 kn2 kx2 kr2
        repeat' (conv => whnf
                 first | (refine Stop.mk ?_) | (refine fI_mk ?_) | (refine fO_mk ?_) | (refine fN_mk ?_) | fail)
        conv => whnf
        refine dec_split (fun h2 => ?_) (fun h2 => ?_)
        · have hlt2 : i2 < 5 := by have h3 : (i2 : Int) < 5 := of_decide_eq_true h2; omega
          clear kx2 kr2 kr kr1
          obtain ⟨sv, hsv⟩ : ∃ sv, sv = szE[i1 / 7]'(show i1 / 7 < 7 by omega) := ⟨_, rfl⟩
          obtain ⟨dv, hdv⟩ : ∃ dv, dv = dtE[i1 % 7]'(show i1 % 7 < 7 by omega) := ⟨_, rfl⟩
          have hsb := hsv ▸ szE_bd _ (List.getElem_mem (show i1 / 7 < szE.length by show i1 / 7 < 7; omega))
          have hdb := hdv ▸ dtE_bd _ (List.getElem_mem (show i1 % 7 < dtE.length by show i1 % 7 < 7; omega))
          have rS : rd (H2 ++ X) Hx.length (0 + ((i1 / 7 : Nat) : Int).toNat * 1) 1 = some [.int .i64 sv] := by rw [hsv]; exact rd_app (rd_el encZ_len hS (i1 / 7) (by show i1 / 7 < 7; omega) _ (by rw [Int.toNat_natCast])) X
          have rD : rd (H2 ++ X) H1.length (0 + ((i1 % 7 : Nat) : Int).toNat * 1) 1 = some [.int .u32 dv] := by rw [hdv]; exact rd_app (rd_el encU_len hD (i1 % 7) (by show i1 % 7 < 7; omega) _ (by rw [Int.toNat_natCast])) X
          have hi7 : IntKind.i64.wrap (Int.tdiv (i1 : Int) 7) = ((i1 / 7 : Nat) : Int) := by rw [Int.tdiv_eq_ediv_of_nonneg (by omega), wrap_i64_id (by omega) (by omega)]; omega
          have hm7 : Int.tmod (i1 : Int) 7 = ((i1 % 7 : Nat) : Int) := by rw [Int.tmod_eq_emod_of_nonneg (by omega)]; omega
          clear hsv hdv
          repeat' (conv => whnf
                   first | (refine Stop.mk ?_) | (refine fI_is hi7 ?_) | (refine fI_is hm7 ?_) | (refine fO_is (b := true) rfl ?_) | (refine fLB_set ?_) | (refine fI_i64 (by first | omega | (simp only [Int.ofNat_eq_natCast] at *; omega)) ?_; intro z hz) | (refine fI_u32 (by first | omega | (simp only [Int.ofNat_eq_natCast] at *; omega)) ?_; intro z hz) | (refine fI_u8 (by first | omega | (simp only [Int.ofNat_eq_natCast] at *; omega)) ?_; intro z hz) | (refine fI_u64 (by first | omega | (simp only [Int.ofNat_eq_natCast] at *; omega)) ?_; intro z hz) | (refine fI_tdiv (by first | omega | (simp only [Int.ofNat_eq_natCast] at *; omega)) ?_; intro z hz) | (refine fI_tmod (by first | omega | (simp only [Int.ofNat_eq_natCast] at *; omega)) ?_; intro z hz) | (refine fI_gen ?_; intro z hz) | (refine fO_gen ?_; intro z hz) | (refine pure_step (ixs_eq rfl rfl (by omega) (show _ < (7 : Int) by omega)) ?_) | (refine ld_step rfl rS rfl ?_) | (refine ld_step rfl rD rfl ?_) | (refine lds_step rfl rS rfl ?_) | (refine lds_step rfl rD rfl ?_) | (refine lb_step (lget0 _ _) ?_) | (refine drec_mk ⟨Nat.le_refl _, rfl, rfl, by decide⟩ ?_) | (refine mem_step (ldl_eq rfl (lget0 _ _) rfl rfl) ?_) | (refine And.intro ⟨⟨by omega, by omega⟩, hdb, hsb⟩ (And.intro (GLB_app g2) ?_); intro X5 e5 g5) | (refine dec_true (by assumption) ?_) | (refine dec_false (by assumption) ?_) | (refine dec_split (fun h => ?_) (fun h => ?_)) | (apply silE) | (refine Both.mk ?_ ?_) | (refine And.intro rfl ?_) | (exact And.intro rfl (And.intro rfl (And.intro rfl rfl))) | (refine And.intro (by first | omega | ((simp only [decide_eq_true_eq, decide_eq_false_iff_not, Bool.and_eq_true, beq_iff_eq, Bool.not_eq_true', Bool.not_eq_false'] at *); omega) | (subst_vars; simp only [Int.ofNat_eq_natCast, tq_not, fq_not, tq_and, fq_and, tq_or, fq_or, tq_beq, fq_beq, tq_bne, fq_bne, tq_dec, fq_dec, one1, V.tup.injEq, V.agg.injEq, List.cons.injEq, V.int.injEq, V.bool.injEq, true_and, and_true, decide_eq_true_eq, decide_eq_false_iff_not, Bool.and_eq_true, Bool.and_eq_false_iff, Bool.or_eq_true, Bool.or_eq_false_iff, Bool.not_eq_true', Bool.not_eq_false', beq_iff_eq, wrap_u32, wrap_i64, wrap_u8, beq_eq_false_iff_ne, ne_eq, bne_iff_ne, bne_eq_false_iff_eq, eq_self, and_self, splice, V.cells, List.take_succ_cons, List.take_zero, List.take_nil, List.drop_zero, List.drop_succ_cons, List.drop_nil, List.cons_append, List.nil_append, List.append_nil, List.length_cons, List.length_nil, Nat.zero_add, Nat.reduceAdd, if_true, if_false, Bool.false_eq_true, beq_self_eq_true, decide_eq_decide, Bool.true_eq_false, or_false, false_or, or_true, true_or, and_false, false_and, not_true_eq_false, not_false_eq_true, Bool.and_true, Bool.true_and, Bool.not_true, Bool.not_false] at *; omega)) ?_) | (refine Exists.intro _ (Exists.intro _ (And.intro rfl ?_))) | (refine Exists.intro _ (And.intro rfl ?_)) | (refine Exists.intro _ (Exists.intro _ (Exists.intro _ (Exists.intro _ (And.intro rfl ?_))))) | (refine ld_step rfl (by assumption) rfl ?_) | (refine lds_step rfl (by assumption) rfl ?_) | (refine fL_mk ?_) | (refine fH_mk ?_) | (refine fN_mk ?_) | (refine fLB_mk ?_) | (refine And.intro (by repeat (first | assumption | refine GLB_app ?_)) ?_) | (refine ld_step rfl ((rd_x0 _ _ _ _ _).trans rfl) rfl ?_) | (refine ld_step rfl ((rd_x1 _ _ _ _ _ _).trans rfl) rfl ?_) | (refine ld_step rfl ((rd_x2 _ _ _ _ _ _ _).trans rfl) rfl ?_) | (refine lds_step rfl ((rd_x0 _ _ _ _ _).trans rfl) rfl ?_) | (refine lds_step rfl ((rd_x1 _ _ _ _ _ _).trans rfl) rfl ?_) | (refine lds_step rfl ((rd_x2 _ _ _ _ _ _ _).trans rfl) rfl ?_) | (refine mem_step (st_eq rfl rfl rfl rfl (wr_last _ _ _ _ rfl)) ?_) | (refine drec_yes (by omega) ?_) | (refine drec_no (by omega) ?_) | (intro _) | fail)
          all_goals (conv => whnf)
          all_goals
            obtain rfl : z = ((i2 + 1 : Nat) : Int) := by omega
            exact kn2 hlt2 _ _ _ _ _ rfl ⟨_, List.append_assoc _ _ _⟩
        · clear kn2 kr2
          repeat' (conv => whnf
                   first | (refine Stop.mk ?_) | (refine fI_i64 (by first | omega | (simp only [Int.ofNat_eq_natCast] at *; omega)) ?_; intro z hz) | (refine fI_u32 (by first | omega | (simp only [Int.ofNat_eq_natCast] at *; omega)) ?_; intro z hz) | (refine fI_u8 (by first | omega | (simp only [Int.ofNat_eq_natCast] at *; omega)) ?_; intro z hz) | (refine fI_u64 (by first | omega | (simp only [Int.ofNat_eq_natCast] at *; omega)) ?_; intro z hz) | (refine fI_tdiv (by first | omega | (simp only [Int.ofNat_eq_natCast] at *; omega)) ?_; intro z hz) | (refine fI_tmod (by first | omega | (simp only [Int.ofNat_eq_natCast] at *; omega)) ?_; intro z hz) | (refine fI_gen ?_; intro z hz) | (refine fO_gen ?_; intro z hz) | (refine kx2 _ _ _ _ _ _ ?_) | (refine dec_true (by assumption) ?_) | (refine dec_false (by assumption) ?_) | (refine dec_split (fun h => ?_) (fun h => ?_)) | (apply silE) | (refine Both.mk ?_ ?_) | (refine And.intro rfl ?_) | (exact And.intro rfl (And.intro rfl (And.intro rfl rfl))) | (refine And.intro (by first | omega | ((simp only [decide_eq_true_eq, decide_eq_false_iff_not, Bool.and_eq_true, beq_iff_eq, Bool.not_eq_true', Bool.not_eq_false'] at *); omega) | (subst_vars; simp only [Int.ofNat_eq_natCast, tq_not, fq_not, tq_and, fq_and, tq_or, fq_or, tq_beq, fq_beq, tq_bne, fq_bne, tq_dec, fq_dec, one1, V.tup.injEq, V.agg.injEq, List.cons.injEq, V.int.injEq, V.bool.injEq, true_and, and_true, decide_eq_true_eq, decide_eq_false_iff_not, Bool.and_eq_true, Bool.and_eq_false_iff, Bool.or_eq_true, Bool.or_eq_false_iff, Bool.not_eq_true', Bool.not_eq_false', beq_iff_eq, wrap_u32, wrap_i64, wrap_u8, beq_eq_false_iff_ne, ne_eq, bne_iff_ne, bne_eq_false_iff_eq, eq_self, and_self, splice, V.cells, List.take_succ_cons, List.take_zero, List.take_nil, List.drop_zero, List.drop_succ_cons, List.drop_nil, List.cons_append, List.nil_append, List.append_nil, List.length_cons, List.length_nil, Nat.zero_add, Nat.reduceAdd, if_true, if_false, Bool.false_eq_true, beq_self_eq_true, decide_eq_decide, Bool.true_eq_false, or_false, false_or, or_true, true_or, and_false, false_and, not_true_eq_false, not_false_eq_true, Bool.and_true, Bool.true_and, Bool.not_true, Bool.not_false] at *; omega)) ?_) | (refine Exists.intro _ (Exists.intro _ (And.intro rfl ?_))) | (refine Exists.intro _ (And.intro rfl ?_)) | (refine Exists.intro _ (Exists.intro _ (Exists.intro _ (Exists.intro _ (And.intro rfl ?_))))) | (refine ld_step rfl (by assumption) rfl ?_) | (refine lds_step rfl (by assumption) rfl ?_) | (refine fL_mk ?_) | (refine fH_mk ?_) | (refine fN_mk ?_) | (refine fLB_mk ?_) | (refine And.intro (by repeat (first | assumption | refine GLB_app ?_)) ?_) | (refine ld_step rfl ((rd_x0 _ _ _ _ _).trans rfl) rfl ?_) | (refine ld_step rfl ((rd_x1 _ _ _ _ _ _).trans rfl) rfl ?_) | (refine ld_step rfl ((rd_x2 _ _ _ _ _ _ _).trans rfl) rfl ?_) | (refine lds_step rfl ((rd_x0 _ _ _ _ _).trans rfl) rfl ?_) | (refine lds_step rfl ((rd_x1 _ _ _ _ _ _).trans rfl) rfl ?_) | (refine lds_step rfl ((rd_x2 _ _ _ _ _ _ _).trans rfl) rfl ?_) | (refine mem_step (st_eq rfl rfl rfl rfl (wr_last _ _ _ _ rfl)) ?_) | (refine drec_yes (by omega) ?_) | (refine drec_no (by omega) ?_) | (intro _) | fail)
          conv => whnf
          obtain rfl : z = ((i1 + 1 : Nat) : Int) := by omega
          exact kn1 hlt1 _ _ _ _ _ rfl ⟨_, rfl⟩
      · clear kn1 kr1
        repeat' (conv => whnf
                 first | (refine Stop.mk ?_) | (refine fI_i64 (by first | omega | (simp only [Int.ofNat_eq_natCast] at *; omega)) ?_; intro z hz) | (refine fI_u32 (by first | omega | (simp only [Int.ofNat_eq_natCast] at *; omega)) ?_; intro z hz) | (refine fI_u8 (by first | omega | (simp only [Int.ofNat_eq_natCast] at *; omega)) ?_; intro z hz) | (refine fI_u64 (by first | omega | (simp only [Int.ofNat_eq_natCast] at *; omega)) ?_; intro z hz) | (refine fI_tdiv (by first | omega | (simp only [Int.ofNat_eq_natCast] at *; omega)) ?_; intro z hz) | (refine fI_tmod (by first | omega | (simp only [Int.ofNat_eq_natCast] at *; omega)) ?_; intro z hz) | (refine fI_gen ?_; intro z hz) | (refine fO_gen ?_; intro z hz) | (refine kx1 _ _ _ _ _ _ ?_) | (refine dec_true (by assumption) ?_) | (refine dec_false (by assumption) ?_) | (refine dec_split (fun h => ?_) (fun h => ?_)) | (apply silE) | (refine Both.mk ?_ ?_) | (refine And.intro rfl ?_) | (exact And.intro rfl (And.intro rfl (And.intro rfl rfl))) | (refine And.intro (by first | omega | ((simp only [decide_eq_true_eq, decide_eq_false_iff_not, Bool.and_eq_true, beq_iff_eq, Bool.not_eq_true', Bool.not_eq_false'] at *); omega) | (subst_vars; simp only [Int.ofNat_eq_natCast, tq_not, fq_not, tq_and, fq_and, tq_or, fq_or, tq_beq, fq_beq, tq_bne, fq_bne, tq_dec, fq_dec, one1, V.tup.injEq, V.agg.injEq, List.cons.injEq, V.int.injEq, V.bool.injEq, true_and, and_true, decide_eq_true_eq, decide_eq_false_iff_not, Bool.and_eq_true, Bool.and_eq_false_iff, Bool.or_eq_true, Bool.or_eq_false_iff, Bool.not_eq_true', Bool.not_eq_false', beq_iff_eq, wrap_u32, wrap_i64, wrap_u8, beq_eq_false_iff_ne, ne_eq, bne_iff_ne, bne_eq_false_iff_eq, eq_self, and_self, splice, V.cells, List.take_succ_cons, List.take_zero, List.take_nil, List.drop_zero, List.drop_succ_cons, List.drop_nil, List.cons_append, List.nil_append, List.append_nil, List.length_cons, List.length_nil, Nat.zero_add, Nat.reduceAdd, if_true, if_false, Bool.false_eq_true, beq_self_eq_true, decide_eq_decide, Bool.true_eq_false, or_false, false_or, or_true, true_or, and_false, false_and, not_true_eq_false, not_false_eq_true, Bool.and_true, Bool.true_and, Bool.not_true, Bool.not_false] at *; omega)) ?_) | (refine Exists.intro _ (Exists.intro _ (And.intro rfl ?_))) | (refine Exists.intro _ (And.intro rfl ?_)) | (refine Exists.intro _ (Exists.intro _ (Exists.intro _ (Exists.intro _ (And.intro rfl ?_))))) | (refine ld_step rfl (by assumption) rfl ?_) | (refine lds_step rfl (by assumption) rfl ?_) | (refine fL_mk ?_) | (refine fH_mk ?_) | (refine fN_mk ?_) | (refine fLB_mk ?_) | (refine And.intro (by repeat (first | assumption | refine GLB_app ?_)) ?_) | (refine ld_step rfl ((rd_x0 _ _ _ _ _).trans rfl) rfl ?_) | (refine ld_step rfl ((rd_x1 _ _ _ _ _ _).trans rfl) rfl ?_) | (refine ld_step rfl ((rd_x2 _ _ _ _ _ _ _).trans rfl) rfl ?_) | (refine lds_step rfl ((rd_x0 _ _ _ _ _).trans rfl) rfl ?_) | (refine lds_step rfl ((rd_x1 _ _ _ _ _ _).trans rfl) rfl ?_) | (refine lds_step rfl ((rd_x2 _ _ _ _ _ _ _).trans rfl) rfl ?_) | (refine mem_step (st_eq rfl rfl rfl rfl (wr_last _ _ _ _ rfl)) ?_) | (refine drec_yes (by omega) ?_) | (refine drec_no (by omega) ?_) | (intro _) | fail)
        conv => whnf
        obtain rfl : z = ((i0 + 1 : Nat) : Int) - 1 := by omega
        exact kn hlt _ _ _ _ _ rfl ⟨_, rfl⟩
    · clear kn kr
      refine kx _ _ _ _ _ _ ?_
      conv => whnf
      refine Halt.mk ?_
      show rC _ _ r6_4 _ _ _ _ _ _
      obtain ⟨HA, hHA⟩ : ∃ HA, HA = H2 ++ X := ⟨_, rfl⟩
      have gA : GLB HA := hHA ▸ GLB_app g2
      have hxA : Ext Hx HA := hHA ▸ hx2.app X
      rw [← hHA]
      clear hHA kx hS hD g2 hx2 h hi0
      have hu : ((0 : Int) ≤ 256 ∧ (256 : Int) < 4294967296) ∧ ((0 : Int) ≤ 4660 ∧ (4660 : Int) < 4294967296) ∧ (-9223372036854775808 : Int) ≤ 2 ∧ (2 : Int) < 9223372036854775808 := by decide
      have hlx : (recV 3 true 256 2 4660).length = 12 := by decide
      refine rC_seqH ?_
      repeat' (conv => whnf
               first | (refine Stop.mk ?_) | (refine fI_gen ?_; intro z hz) | (refine fO_gen ?_; intro z hz) | (refine And.intro hu (And.intro gA (And.intro (fun hna => absurd ex_acc hna) (fun _ => ownK2 hlx ?_))); intro bb cc X2 ws q1 q2 q3 q4) | (refine dec_true (by assumption) ?_) | (refine dec_false (by assumption) ?_) | (refine dec_split (fun h => ?_) (fun h => ?_)) | (apply silE) | (refine Both.mk ?_ ?_) | (refine And.intro rfl ?_) | (exact And.intro rfl (And.intro rfl (And.intro rfl rfl))) | (refine And.intro (by first | omega | ((simp only [decide_eq_true_eq, decide_eq_false_iff_not, Bool.and_eq_true, beq_iff_eq, Bool.not_eq_true', Bool.not_eq_false'] at *); omega) | (subst_vars; simp only [Int.ofNat_eq_natCast, tq_not, fq_not, tq_and, fq_and, tq_or, fq_or, tq_beq, fq_beq, tq_bne, fq_bne, tq_dec, fq_dec, one1, V.tup.injEq, V.agg.injEq, List.cons.injEq, V.int.injEq, V.bool.injEq, true_and, and_true, decide_eq_true_eq, decide_eq_false_iff_not, Bool.and_eq_true, Bool.and_eq_false_iff, Bool.or_eq_true, Bool.or_eq_false_iff, Bool.not_eq_true', Bool.not_eq_false', beq_iff_eq, wrap_u32, wrap_i64, wrap_u8, beq_eq_false_iff_ne, ne_eq, bne_iff_ne, bne_eq_false_iff_eq, eq_self, and_self, splice, V.cells, List.take_succ_cons, List.take_zero, List.take_nil, List.drop_zero, List.drop_succ_cons, List.drop_nil, List.cons_append, List.nil_append, List.append_nil, List.length_cons, List.length_nil, Nat.zero_add, Nat.reduceAdd, if_true, if_false, Bool.false_eq_true, beq_self_eq_true, decide_eq_decide, Bool.true_eq_false, or_false, false_or, or_true, true_or, and_false, false_and, not_true_eq_false, not_false_eq_true, Bool.and_true, Bool.true_and, Bool.not_true, Bool.not_false] at *; omega)) ?_) | (refine Exists.intro _ (Exists.intro _ (And.intro rfl ?_))) | (refine Exists.intro _ (And.intro rfl ?_)) | (refine Exists.intro _ (Exists.intro _ (Exists.intro _ (Exists.intro _ (And.intro rfl ?_))))) | (refine ld_step rfl (by assumption) rfl ?_) | (refine lds_step rfl (by assumption) rfl ?_) | (refine fL_mk ?_) | (refine fH_mk ?_) | (refine fN_mk ?_) | (refine fLB_mk ?_) | (refine And.intro (by repeat (first | assumption | refine GLB_app ?_)) ?_) | (refine ld_step rfl ((rd_x0 _ _ _ _ _).trans rfl) rfl ?_) | (refine ld_step rfl ((rd_x1 _ _ _ _ _ _).trans rfl) rfl ?_) | (refine ld_step rfl ((rd_x2 _ _ _ _ _ _ _).trans rfl) rfl ?_) | (refine lds_step rfl ((rd_x0 _ _ _ _ _).trans rfl) rfl ?_) | (refine lds_step rfl ((rd_x1 _ _ _ _ _ _).trans rfl) rfl ?_) | (refine lds_step rfl ((rd_x2 _ _ _ _ _ _ _).trans rfl) rfl ?_) | (refine mem_step (st_eq rfl rfl rfl rfl (wr_last _ _ _ _ rfl)) ?_) | (refine drec_yes (by omega) ?_) | (refine drec_no (by omega) ?_) | (intro _) | fail)
      any_goals refine Halt.mk ?_
      any_goals show rC _ _ r6_5 _ _ _ _ _ _
      have q5 : (HA ++ X2)[bb]? = some (.rw 5 (exB.flatMap encB ++ ws)) := by rw [← ex_rec]; exact q3
      clear q3
      obtain ⟨HB, hHB⟩ : ∃ HB, HB = HA ++ X2 := ⟨_, rfl⟩
      have gB : GLB HB := hHB ▸ GLB_app gA
      have hxB : Ext Hx HB := hHB ▸ hxA.app X2
      have hbB : bb < HB.length := hHB ▸ (List.getElem?_eq_some_iff.1 q5).1
      rw [← hHB] at q5 ⊢
      clear hHB hu hlx q1 q4 gA hxA
      have gE : ∀ {M}, Ext HB M → GLB M := fun h => by rw [h.eq]; exact GLB_app gB
      have bE : ∀ {M}, Ext HB M → M[bb]? = some (.rw 5 (exB.flatMap encB ++ ws)) := fun h => (h.2 bb hbB).trans q5
      refine rC_seqH ?_
      repeat' (conv => whnf
               first | (refine Stop.mk ?_) | (refine fI_mk ?_) | (refine fO_mk ?_) | (refine fN_mk ?_) | fail)
      conv => whnf
      refine rLoop_ctr (c := rC (tab [(8, s8), (9, s9), (14, s14), (15, s15), (16, s16)]) k l6_3) 12 9 (true :: false :: false :: false :: false :: false :: false :: false :: false :: false :: true :: true :: false :: false :: false :: false :: false :: false :: false :: false :: false :: false :: false :: false :: false :: false :: false :: false :: false :: false :: false :: false :: false :: false :: false :: false :: false :: false :: false :: false :: false :: false :: false :: false :: false :: false :: false :: false :: false :: false :: false :: true :: true :: true :: true :: true :: true :: true :: true :: true :: true :: true :: true :: true :: true :: true :: true :: true :: true :: true :: true :: true :: true :: true :: true :: true :: true :: true :: true :: true :: true :: true :: true :: true :: true :: true :: false :: []) (fun i tm L H e g => Ext HB H) (by omega) rfl (Ext.refl _) ?_
      intro i3 hi3
      conv => whnf
      intro j
      conv => whnf
      intro j
      conv => whnf
      intro j
      conv => whnf
      intro j
      conv => whnf
      intro j
      conv => whnf
      intro j
      conv => whnf
      intro j
      conv => whnf
      intro j
      conv => whnf
      intro j
      conv => whnf
      intro j
      conv => whnf
      intro j
      conv => whnf
      intro j
      conv => whnf
      intro j
      conv => whnf
      intro j
      conv => whnf
      intro j
      conv => whnf
      intro j
      conv => whnf
      intro j
      conv => whnf
      intro j
      conv => whnf
      intro j
      conv => whnf
      intro j
      conv => whnf
      intro j
      conv => whnf
      intro j
      conv => whnf
      intro j
      conv => whnf
      intro j
      conv => whnf
      intro j
      conv => whnf
      intro j
      conv => whnf
      intro j
      conv => whnf
      intro j
      conv => whnf
      intro j
      conv => whnf
      intro j
      conv => whnf
      intro j
      conv => whnf
      intro j
      conv => whnf
      intro j
      conv => whnf
      intro j
      conv => whnf
      intro j
      conv => whnf
      intro j
      conv => whnf
      intro j
      conv => whnf
      intro j
      conv => whnf
      refine Halt.mk ?_
      rintro L H' e g hE K kn kx kr
      repeat' (conv => whnf
               first | (refine Stop.mk ?_) | (refine fI_mk ?_) | (refine fO_mk ?_) | (refine fN_mk ?_) | fail)
      conv => whnf
      refine dec_split (fun h => ?_) (fun h => ?_)
      · have hlt : i3 < 12 := by have h2 : (i3 : Int) < 12 := of_decide_eq_true h; omega
        clear kx
        repeat' (conv => whnf
                 first | (refine Stop.mk ?_) | (refine fI_mk ?_) | (refine fO_mk ?_) | (refine fN_mk ?_) | fail)
        conv => whnf
        refine rLoop_ctr (c := rC (tab [(8, s8), (9, s9), (14, s14), (15, s15), (16, s16)]) k l6_4) 256 10 (true :: false :: false :: false :: false :: false :: false :: false :: false :: false :: false :: true :: false :: false :: false :: false :: false :: false :: false :: false :: false :: false :: false :: false :: false :: false :: false :: false :: false :: false :: false :: false :: false :: false :: false :: false :: false :: false :: false :: false :: false :: false :: false :: false :: false :: false :: false :: false :: false :: false :: false :: false :: false :: false :: false :: true :: true :: true :: true :: true :: true :: true :: true :: true :: true :: true :: true :: true :: true :: true :: false :: false :: false :: false :: false :: false :: false :: false :: false :: false :: false :: false :: false :: false :: false :: false :: false :: []) (fun i tm L H e g => Ext HB H) (by omega) rfl hE ?_
        intro i4 hi4
        conv => whnf
        intro j
        conv => whnf
        intro j
        conv => whnf
        intro j
        conv => whnf
        intro j
        conv => whnf
        intro j
        conv => whnf
        intro j
        conv => whnf
        intro j
        conv => whnf
        intro j
        conv => whnf
        intro j
        conv => whnf
        intro j
        conv => whnf
        intro j
        conv => whnf
        intro j
        conv => whnf
        intro j
        conv => whnf
        intro j
        conv => whnf
        intro j
        conv => whnf
        intro j
        conv => whnf
        intro j
        conv => whnf
        refine Halt.mk ?_
        rintro L H' e g hE K1 kn1 kx1 kr1
        repeat' (conv => whnf
                 first | (refine Stop.mk ?_) | (refine fI_mk ?_) | (refine fO_mk ?_) | (refine fN_mk ?_) | fail)
        conv => whnf
        refine dec_split (fun h1 => ?_) (fun h1 => ?_)
        · have hlt1 : i4 < 256 := by have h2 : (i4 : Int) < 256 := of_decide_eq_true h1; omega
          clear kx1 kr1 kr kn
          have hb1 := bE (hE.app [B.rw 5 []])
          have hnw : news (H' ++ [B.rw 5 []]) 1 (.sl (some (bb, 0)) 12 cc) = some (12, exB.flatMap encB) := news_eq (rd_block hb1 rfl) (encB_one _)
          repeat' (conv => whnf
                   first | (refine Stop.mk ?_) | (refine fO_is (b := true) rfl ?_) | (refine fI_i64 (by first | omega | (simp only [Int.ofNat_eq_natCast] at *; omega)) ?_; intro z hz) | (refine fI_u32 (by first | omega | (simp only [Int.ofNat_eq_natCast] at *; omega)) ?_; intro z hz) | (refine fI_u8 (by first | omega | (simp only [Int.ofNat_eq_natCast] at *; omega)) ?_; intro z hz) | (refine fI_u64 (by first | omega | (simp only [Int.ofNat_eq_natCast] at *; omega)) ?_; intro z hz) | (refine fI_tdiv (by first | omega | (simp only [Int.ofNat_eq_natCast] at *; omega)) ?_; intro z hz) | (refine fI_tmod (by first | omega | (simp only [Int.ofNat_eq_natCast] at *; omega)) ?_; intro z hz) | (refine fI_gen ?_; intro z hz) | (refine fO_gen ?_; intro z hz) | (refine app_own1 rfl rfl rfl (own_lit (k := 0) rfl rfl) hnw rfl rfl (encB_one _) (by decide) (by decide) (by decide) (by decide) (encB_lt _) ?_; intro w' X' g' hown' hg1 hX; rw [List.nil_append] at hown'; obtain ⟨b', cap', ws', rfl, p1, p2, p3, p4⟩ := own_out hown' (by decide)) | (refine pure_step (ixs_eq rfl rfl (by omega) (by show _ < (12 : Int); omega)) ?_) | (refine mem_step (st_eq rfl rfl rfl rfl (wr_blk p3 (by show 0 + ((i3 : Nat) : Int).toNat * 1 + 1 ≤ (exB.flatMap encB ++ ws').length; rw [List.length_append]; show _ ≤ 12 + _; omega))) ?_) | (refine And.intro (gE ((hE.app _).set (Nat.le_trans hE.1 p1) _)) (Exists.intro (exB.set i3 _) (And.intro (by rw [List.length_set]) (And.intro p2 (And.intro (by rw [List.length_set]; decide) (And.intro (set_bd exB_bd (by omega)) (And.intro (rdB_set p3 hlt (by omega)) ?_))))))) | (refine dec_true (by assumption) ?_) | (refine dec_false (by assumption) ?_) | (refine dec_split (fun h => ?_) (fun h => ?_)) | (apply silE) | (refine Both.mk ?_ ?_) | (refine And.intro rfl ?_) | (exact And.intro rfl (And.intro rfl (And.intro rfl rfl))) | (refine And.intro (by first | omega | ((simp only [decide_eq_true_eq, decide_eq_false_iff_not, Bool.and_eq_true, beq_iff_eq, Bool.not_eq_true', Bool.not_eq_false'] at *); omega) | (subst_vars; simp only [Int.ofNat_eq_natCast, tq_not, fq_not, tq_and, fq_and, tq_or, fq_or, tq_beq, fq_beq, tq_bne, fq_bne, tq_dec, fq_dec, one1, V.tup.injEq, V.agg.injEq, List.cons.injEq, V.int.injEq, V.bool.injEq, true_and, and_true, decide_eq_true_eq, decide_eq_false_iff_not, Bool.and_eq_true, Bool.and_eq_false_iff, Bool.or_eq_true, Bool.or_eq_false_iff, Bool.not_eq_true', Bool.not_eq_false', beq_iff_eq, wrap_u32, wrap_i64, wrap_u8, beq_eq_false_iff_ne, ne_eq, bne_iff_ne, bne_eq_false_iff_eq, eq_self, and_self, splice, V.cells, List.take_succ_cons, List.take_zero, List.take_nil, List.drop_zero, List.drop_succ_cons, List.drop_nil, List.cons_append, List.nil_append, List.append_nil, List.length_cons, List.length_nil, Nat.zero_add, Nat.reduceAdd, if_true, if_false, Bool.false_eq_true, beq_self_eq_true, decide_eq_decide, Bool.true_eq_false, or_false, false_or, or_true, true_or, and_false, false_and, not_true_eq_false, not_false_eq_true, Bool.and_true, Bool.true_and, Bool.not_true, Bool.not_false] at *; omega)) ?_) | (refine Exists.intro _ (Exists.intro _ (And.intro rfl ?_))) | (refine Exists.intro _ (And.intro rfl ?_)) | (refine Exists.intro _ (Exists.intro _ (Exists.intro _ (Exists.intro _ (And.intro rfl ?_))))) | (refine ld_step rfl (by assumption) rfl ?_) | (refine lds_step rfl (by assumption) rfl ?_) | (refine fL_mk ?_) | (refine fH_mk ?_) | (refine fN_mk ?_) | (refine fLB_mk ?_) | (refine And.intro (by repeat (first | assumption | refine GLB_app ?_)) ?_) | (refine ld_step rfl ((rd_x0 _ _ _ _ _).trans rfl) rfl ?_) | (refine ld_step rfl ((rd_x1 _ _ _ _ _ _).trans rfl) rfl ?_) | (refine ld_step rfl ((rd_x2 _ _ _ _ _ _ _).trans rfl) rfl ?_) | (refine lds_step rfl ((rd_x0 _ _ _ _ _).trans rfl) rfl ?_) | (refine lds_step rfl ((rd_x1 _ _ _ _ _ _).trans rfl) rfl ?_) | (refine lds_step rfl ((rd_x2 _ _ _ _ _ _ _).trans rfl) rfl ?_) | (refine mem_step (st_eq rfl rfl rfl rfl (wr_last _ _ _ _ rfl)) ?_) | (refine drec_yes (by omega) ?_) | (refine drec_no (by omega) ?_) | (intro _) | fail)
          all_goals (conv => whnf)
          all_goals
            obtain rfl : z = ((i4 + 1 : Nat) : Int) := by omega
            exact kn1 hlt1 _ _ _ _ _ rfl ((hE.app _).set (Nat.le_trans hE.1 p1) _)
        · clear kn1 kr1
          repeat' (conv => whnf
                   first | (refine Stop.mk ?_) | (refine fI_mk ?_) | (refine fO_mk ?_) | (refine fN_mk ?_) | (refine kx1 _ _ _ _ _ _ ?_) | fail)
          conv => whnf
          have hb1 := bE hE
          have hb2 := bE (hE.app [B.rw 5 []])
          have hnw : news (H' ++ [B.rw 5 []]) 1 (.sl (some (bb, 0)) 12 cc) = some (12, exB.flatMap encB) := news_eq (rd_block hb2 rfl) (encB_one _)
          have tk : ∀ x, x ∈ exB.take i3 → 0 ≤ x ∧ x < 256 := fun x hx => exB_bd x (List.mem_of_mem_take hx)
          have htl : (exB.take i3).length = i3 := by rw [List.length_take]; show min i3 12 = i3; omega
          have hr1 := rdB_take hb1 (i := i3) (by show i3 ≤ 12; omega)
          have hr1' : RdB H' (some (bb, 0)) (exB.take i3) := by show rd H' bb 0 ((exB.take i3).length * 1) = _; rw [htl]; exact hr1
          by_cases hi0' : i3 = 0
          · have hn0 : ∀ M, Ext HB M → news M 1 (.sl (some (bb, 0)) ((i3 : Int)).toNat cc) = some (0, []) := fun M hM => by
              subst hi0'
              exact news_eq (rdB_take (bE hM) (i := 0) (by decide)) rfl
            repeat' (conv => whnf
                     first | (refine Stop.mk ?_) | (refine fO_is (b := true) rfl ?_) | (refine fO_is (b := false) rfl ?_) | (refine fI_i64 (by first | omega | (simp only [Int.ofNat_eq_natCast] at *; omega)) ?_; intro z hz) | (refine fI_u32 (by first | omega | (simp only [Int.ofNat_eq_natCast] at *; omega)) ?_; intro z hz) | (refine fI_u8 (by first | omega | (simp only [Int.ofNat_eq_natCast] at *; omega)) ?_; intro z hz) | (refine fI_u64 (by first | omega | (simp only [Int.ofNat_eq_natCast] at *; omega)) ?_; intro z hz) | (refine fI_tdiv (by first | omega | (simp only [Int.ofNat_eq_natCast] at *; omega)) ?_; intro z hz) | (refine fI_tmod (by first | omega | (simp only [Int.ofNat_eq_natCast] at *; omega)) ?_; intro z hz) | (refine fI_gen ?_; intro z hz) | (refine fO_gen ?_; intro z hz) | (refine pure_step (slcH_eq rfl rfl (by omega) (by omega)) ?_) | (have t_ := p1; refine And.intro (gE (hE.app _)) (Exists.intro exB (And.intro rfl (And.intro p2 (And.intro (by decide) (And.intro exB_bd (And.intro (rdB_blk p3) ?_))))))) | (refine And.intro (gE hE) (Exists.intro (exB.take i3) (And.intro htl.symm (And.intro (by omega) (And.intro (by rw [htl]; omega) (And.intro tk (And.intro hr1' ?_))))))) | (have t_ := p1; refine app_none rfl rfl (hn0 _ (hE.app _)) p3 (by rw [List.length_append]; show 12 ≤ 12 + _; omega) p2 ?_) | (refine app_own1 rfl rfl rfl (own_lit (k := 0) rfl rfl) hnw rfl rfl (encB_one _) (by decide) (by decide) (by decide) (by decide) (encB_lt _) ?_; intro w' X' g' hown' hg1 hX; rw [List.nil_append] at hown'; have w1 := hown'; obtain ⟨b', cap', ws', rfl, p1, p2, p3, p4⟩ := own_out hown' (by decide)) | (refine dec_true (by assumption) ?_) | (refine dec_false (by assumption) ?_) | (refine dec_split (fun h => ?_) (fun h => ?_)) | (apply silE) | (refine Both.mk ?_ ?_) | (refine And.intro rfl ?_) | (exact And.intro rfl (And.intro rfl (And.intro rfl rfl))) | (refine And.intro (by first | omega | ((simp only [decide_eq_true_eq, decide_eq_false_iff_not, Bool.and_eq_true, beq_iff_eq, Bool.not_eq_true', Bool.not_eq_false'] at *); omega) | (subst_vars; simp only [Int.ofNat_eq_natCast, tq_not, fq_not, tq_and, fq_and, tq_or, fq_or, tq_beq, fq_beq, tq_bne, fq_bne, tq_dec, fq_dec, one1, V.tup.injEq, V.agg.injEq, List.cons.injEq, V.int.injEq, V.bool.injEq, true_and, and_true, decide_eq_true_eq, decide_eq_false_iff_not, Bool.and_eq_true, Bool.and_eq_false_iff, Bool.or_eq_true, Bool.or_eq_false_iff, Bool.not_eq_true', Bool.not_eq_false', beq_iff_eq, wrap_u32, wrap_i64, wrap_u8, beq_eq_false_iff_ne, ne_eq, bne_iff_ne, bne_eq_false_iff_eq, eq_self, and_self, splice, V.cells, List.take_succ_cons, List.take_zero, List.take_nil, List.drop_zero, List.drop_succ_cons, List.drop_nil, List.cons_append, List.nil_append, List.append_nil, List.length_cons, List.length_nil, Nat.zero_add, Nat.reduceAdd, if_true, if_false, Bool.false_eq_true, beq_self_eq_true, decide_eq_decide, Bool.true_eq_false, or_false, false_or, or_true, true_or, and_false, false_and, not_true_eq_false, not_false_eq_true, Bool.and_true, Bool.true_and, Bool.not_true, Bool.not_false] at *; omega)) ?_) | (refine Exists.intro _ (Exists.intro _ (And.intro rfl ?_))) | (refine Exists.intro _ (And.intro rfl ?_)) | (refine Exists.intro _ (Exists.intro _ (Exists.intro _ (Exists.intro _ (And.intro rfl ?_))))) | (refine ld_step rfl (by assumption) rfl ?_) | (refine lds_step rfl (by assumption) rfl ?_) | (refine fL_mk ?_) | (refine fH_mk ?_) | (refine fN_mk ?_) | (refine fLB_mk ?_) | (refine And.intro (by repeat (first | assumption | refine GLB_app ?_)) ?_) | (refine ld_step rfl ((rd_x0 _ _ _ _ _).trans rfl) rfl ?_) | (refine ld_step rfl ((rd_x1 _ _ _ _ _ _).trans rfl) rfl ?_) | (refine ld_step rfl ((rd_x2 _ _ _ _ _ _ _).trans rfl) rfl ?_) | (refine lds_step rfl ((rd_x0 _ _ _ _ _).trans rfl) rfl ?_) | (refine lds_step rfl ((rd_x1 _ _ _ _ _ _).trans rfl) rfl ?_) | (refine lds_step rfl ((rd_x2 _ _ _ _ _ _ _).trans rfl) rfl ?_) | (refine mem_step (st_eq rfl rfl rfl rfl (wr_last _ _ _ _ rfl)) ?_) | (refine drec_yes (by omega) ?_) | (refine drec_no (by omega) ?_) | (intro _) | fail)
            all_goals (conv => whnf)
            all_goals
              obtain rfl : z = ((i3 + 1 : Nat) : Int) := by omega
              exact kn hlt _ _ _ _ _ rfl (hE.app _)
          · have hn1 : ∀ M, Ext HB M → news M 1 (.sl (some (bb, 0)) ((i3 : Int)).toNat cc) = some (i3, (exB.take i3).flatMap encB) := fun M hM => news_eq (rdB_take (bE hM) (by show i3 ≤ 12; omega)) (encB_one _)
            have hl2 : ((exB.take i3).flatMap encB).length = i3 * 1 := by rw [flat_len encB_len, htl]
            have hl3 : (exB ++ exB.take i3).length = 12 + i3 := by rw [List.length_append, htl]; rfl
            have tk2 : ∀ x, x ∈ exB ++ exB.take i3 → 0 ≤ x ∧ x < 256 := fun x hx => (List.mem_append.1 hx).elim (exB_bd x) (tk x)
            repeat' (conv => whnf
                     first | (refine Stop.mk ?_) | (refine fO_is (b := true) rfl ?_) | (refine fO_is (b := false) rfl ?_) | (refine fI_i64 (by first | omega | (simp only [Int.ofNat_eq_natCast] at *; omega)) ?_; intro z hz) | (refine fI_u32 (by first | omega | (simp only [Int.ofNat_eq_natCast] at *; omega)) ?_; intro z hz) | (refine fI_u8 (by first | omega | (simp only [Int.ofNat_eq_natCast] at *; omega)) ?_; intro z hz) | (refine fI_u64 (by first | omega | (simp only [Int.ofNat_eq_natCast] at *; omega)) ?_; intro z hz) | (refine fI_tdiv (by first | omega | (simp only [Int.ofNat_eq_natCast] at *; omega)) ?_; intro z hz) | (refine fI_tmod (by first | omega | (simp only [Int.ofNat_eq_natCast] at *; omega)) ?_; intro z hz) | (refine fI_gen ?_; intro z hz) | (refine fO_gen ?_; intro z hz) | (refine pure_step (slcH_eq rfl rfl (by omega) (by omega)) ?_) | (have t_ := o1; refine And.intro (gE (hE.app _)) (Exists.intro (exB ++ exB.take i3) (And.intro rfl (And.intro o2 (And.intro (by rw [hl3]; omega) (And.intro tk2 (And.intro (rdB_blk o3) ?_))))))) | (refine And.intro (gE hE) (Exists.intro (exB.take i3) (And.intro htl.symm (And.intro (by omega) (And.intro (by rw [htl]; omega) (And.intro tk (And.intro hr1' ?_))))))) | (have t_ := p1; refine app_own1 rfl rfl rfl w1 (hn1 _ (hE.app _)) rfl hl2 (encB_one _) (by decide) (by omega) (by rw [hl2]; show (12 + i3 * 1) * 1 ≤ _; omega) (by rw [hl2]; show 12 + i3 * 1 < _; omega) (encB_lt _) ?_; intro w2 X2 g2 hown2 hg2 hX2; rw [← List.flatMap_append] at hown2; obtain ⟨b2, cap2, ws2, rfl, o1, o2, o3, o4⟩ := own_out hown2 (by intro hh; have := congrArg List.length hh; rw [hl3] at this; simp at this)) | (refine app_own1 rfl rfl rfl (own_lit (k := 0) rfl rfl) hnw rfl rfl (encB_one _) (by decide) (by decide) (by decide) (by decide) (encB_lt _) ?_; intro w' X' g' hown' hg1 hX; rw [List.nil_append] at hown'; have w1 := hown'; obtain ⟨b', cap', ws', rfl, p1, p2, p3, p4⟩ := own_out hown' (by decide)) | (refine dec_true (by assumption) ?_) | (refine dec_false (by assumption) ?_) | (refine dec_split (fun h => ?_) (fun h => ?_)) | (apply silE) | (refine Both.mk ?_ ?_) | (refine And.intro rfl ?_) | (exact And.intro rfl (And.intro rfl (And.intro rfl rfl))) | (refine And.intro (by first | omega | ((simp only [decide_eq_true_eq, decide_eq_false_iff_not, Bool.and_eq_true, beq_iff_eq, Bool.not_eq_true', Bool.not_eq_false'] at *); omega) | (subst_vars; simp only [Int.ofNat_eq_natCast, tq_not, fq_not, tq_and, fq_and, tq_or, fq_or, tq_beq, fq_beq, tq_bne, fq_bne, tq_dec, fq_dec, one1, V.tup.injEq, V.agg.injEq, List.cons.injEq, V.int.injEq, V.bool.injEq, true_and, and_true, decide_eq_true_eq, decide_eq_false_iff_not, Bool.and_eq_true, Bool.and_eq_false_iff, Bool.or_eq_true, Bool.or_eq_false_iff, Bool.not_eq_true', Bool.not_eq_false', beq_iff_eq, wrap_u32, wrap_i64, wrap_u8, beq_eq_false_iff_ne, ne_eq, bne_iff_ne, bne_eq_false_iff_eq, eq_self, and_self, splice, V.cells, List.take_succ_cons, List.take_zero, List.take_nil, List.drop_zero, List.drop_succ_cons, List.drop_nil, List.cons_append, List.nil_append, List.append_nil, List.length_cons, List.length_nil, Nat.zero_add, Nat.reduceAdd, if_true, if_false, Bool.false_eq_true, beq_self_eq_true, decide_eq_decide, Bool.true_eq_false, or_false, false_or, or_true, true_or, and_false, false_and, not_true_eq_false, not_false_eq_true, Bool.and_true, Bool.true_and, Bool.not_true, Bool.not_false] at *; omega)) ?_) | (refine Exists.intro _ (Exists.intro _ (And.intro rfl ?_))) | (refine Exists.intro _ (And.intro rfl ?_)) | (refine Exists.intro _ (Exists.intro _ (Exists.intro _ (Exists.intro _ (And.intro rfl ?_))))) | (refine ld_step rfl (by assumption) rfl ?_) | (refine lds_step rfl (by assumption) rfl ?_) | (refine fL_mk ?_) | (refine fH_mk ?_) | (refine fN_mk ?_) | (refine fLB_mk ?_) | (refine And.intro (by repeat (first | assumption | refine GLB_app ?_)) ?_) | (refine ld_step rfl ((rd_x0 _ _ _ _ _).trans rfl) rfl ?_) | (refine ld_step rfl ((rd_x1 _ _ _ _ _ _).trans rfl) rfl ?_) | (refine ld_step rfl ((rd_x2 _ _ _ _ _ _ _).trans rfl) rfl ?_) | (refine lds_step rfl ((rd_x0 _ _ _ _ _).trans rfl) rfl ?_) | (refine lds_step rfl ((rd_x1 _ _ _ _ _ _).trans rfl) rfl ?_) | (refine lds_step rfl ((rd_x2 _ _ _ _ _ _ _).trans rfl) rfl ?_) | (refine mem_step (st_eq rfl rfl rfl rfl (wr_last _ _ _ _ rfl)) ?_) | (refine drec_yes (by omega) ?_) | (refine drec_no (by omega) ?_) | (intro _) | fail)
            all_goals (conv => whnf)
            all_goals
              obtain rfl : z = ((i3 + 1 : Nat) : Int) := by omega
              exact kn hlt _ _ _ _ _ rfl (hE.app _)
      · clear kn kr
        refine kx _ _ _ _ _ _ ?_
        conv => whnf
        refine Halt.mk ?_
        show rC _ _ r6_6 _ _ _ _ _ _
        have hxE : Ext Hx H' := ⟨Nat.le_trans hxB.1 hE.1, fun x hx => (hE.2 x (Nat.lt_of_lt_of_le hx hxB.1)).trans (hxB.2 x hx)⟩
        have fin : ∀ M e g, Ext Hx M → Q (.bool true) M e g := fun M e g h => by rw [h.eq]; exact hq _ e g
        have gH' := gE hE
        cases e <;> cases g
        all_goals
          repeat' (conv => whnf
                   first | (refine Stop.mk ?_) | (refine fI_gen ?_; intro z hz) | (refine fO_gen ?_; intro z hz) | (refine And.intro gH' ?_) | (refine dec_true (by assumption) ?_) | (refine dec_false (by assumption) ?_) | (refine dec_split (fun h => ?_) (fun h => ?_)) | (apply silE) | (refine Both.mk ?_ ?_) | (refine And.intro rfl ?_) | (exact And.intro rfl (And.intro rfl (And.intro rfl rfl))) | (refine And.intro (by first | omega | ((simp only [decide_eq_true_eq, decide_eq_false_iff_not, Bool.and_eq_true, beq_iff_eq, Bool.not_eq_true', Bool.not_eq_false'] at *); omega) | (subst_vars; simp only [Int.ofNat_eq_natCast, tq_not, fq_not, tq_and, fq_and, tq_or, fq_or, tq_beq, fq_beq, tq_bne, fq_bne, tq_dec, fq_dec, one1, V.tup.injEq, V.agg.injEq, List.cons.injEq, V.int.injEq, V.bool.injEq, true_and, and_true, decide_eq_true_eq, decide_eq_false_iff_not, Bool.and_eq_true, Bool.and_eq_false_iff, Bool.or_eq_true, Bool.or_eq_false_iff, Bool.not_eq_true', Bool.not_eq_false', beq_iff_eq, wrap_u32, wrap_i64, wrap_u8, beq_eq_false_iff_ne, ne_eq, bne_iff_ne, bne_eq_false_iff_eq, eq_self, and_self, splice, V.cells, List.take_succ_cons, List.take_zero, List.take_nil, List.drop_zero, List.drop_succ_cons, List.drop_nil, List.cons_append, List.nil_append, List.append_nil, List.length_cons, List.length_nil, Nat.zero_add, Nat.reduceAdd, if_true, if_false, Bool.false_eq_true, beq_self_eq_true, decide_eq_decide, Bool.true_eq_false, or_false, false_or, or_true, true_or, and_false, false_and, not_true_eq_false, not_false_eq_true, Bool.and_true, Bool.true_and, Bool.not_true, Bool.not_false] at *; omega)) ?_) | (refine Exists.intro _ (Exists.intro _ (And.intro rfl ?_))) | (refine Exists.intro _ (And.intro rfl ?_)) | (refine Exists.intro _ (Exists.intro _ (Exists.intro _ (Exists.intro _ (And.intro rfl ?_))))) | (refine ld_step rfl (by assumption) rfl ?_) | (refine lds_step rfl (by assumption) rfl ?_) | (refine fL_mk ?_) | (refine fH_mk ?_) | (refine fN_mk ?_) | (refine fLB_mk ?_) | (refine And.intro (by repeat (first | assumption | refine GLB_app ?_)) ?_) | (refine ld_step rfl ((rd_x0 _ _ _ _ _).trans rfl) rfl ?_) | (refine ld_step rfl ((rd_x1 _ _ _ _ _ _).trans rfl) rfl ?_) | (refine ld_step rfl ((rd_x2 _ _ _ _ _ _ _).trans rfl) rfl ?_) | (refine lds_step rfl ((rd_x0 _ _ _ _ _).trans rfl) rfl ?_) | (refine lds_step rfl ((rd_x1 _ _ _ _ _ _).trans rfl) rfl ?_) | (refine lds_step rfl ((rd_x2 _ _ _ _ _ _ _).trans rfl) rfl ?_) | (refine mem_step (st_eq rfl rfl rfl rfl (wr_last _ _ _ _ rfl)) ?_) | (refine drec_yes (by omega) ?_) | (refine drec_no (by omega) ?_) | (intro _) | fail)
          conv => whnf
          first
            | exact fin _ _ _ hxE
            | exact fin _ _ _ hxE.take
            | trace_state
  · exact hs.elim
end Go.Ev
