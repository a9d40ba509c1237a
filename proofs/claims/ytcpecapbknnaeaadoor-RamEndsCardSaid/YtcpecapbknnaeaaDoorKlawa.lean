/- dev: RamApart -/
import Derived.Test.YtcpecapbknnaeaaDoorKram
import Derived.Test.YtcpecapbknnaeaaDoorEvZ
import Derived.Test.YtcpecapbknnaeaaDoorEvSl
set_option linter.all false
namespace Go.Ev
open Go Go.Proofs
set_option maxRecDepth 4000
set_option maxHeartbeats 4000000
abbrev D4 := Int × Int × Int × Int
def encD (d : D4) : List V := [.int .i64 d.1, .int .i64 d.2.1, .int .i64 d.2.2.1, .int .u32 d.2.2.2]
theorem encD_len (d : D4) : (encD d).length = 4 := rfl
def okD (d : D4) : Prop := (-9223372036854775808 ≤ d.1 ∧ d.1 < 9223372036854775808) ∧ (-9223372036854775808 ≤ d.2.1 ∧ d.2.1 < 9223372036854775808) ∧ (-9223372036854775808 ≤ d.2.2.1 ∧ d.2.2.1 < 9223372036854775808) ∧ (0 ≤ d.2.2.2 ∧ d.2.2.2 < 4294967296)
def DeedsAt (H : List B) (p : Option (Nat × Nat)) (len : Nat) (l : List D4) : Prop :=
  len = l.length ∧ (∀ d, d ∈ l → okD d) ∧ (l = [] ∨ ∃ b o, p = some (b, o) ∧ rd H b o (l.length * 4) = some (l.flatMap encD))
theorem ram0 (Hx : List B) {l : List Int} {k : Nat} (hk : l.length = k) (hu : U32s l) (hn : 1 ≤ k ∧ k ≤ 1024) : RamAt (Hx ++ [WB l] ++ [RB Hx.length k]) (Hx.length + 1) Hx.length l := by
  refine ⟨?_, ?_, hu, hk ▸ hn⟩
  · rw [hk, List.getElem?_append_right (by simp)]; simp
  · rw [List.getElem?_append_left (by simp), List.getElem?_append_right (Nat.le_refl _)]; simp
theorem u32s0 (k : Nat) : U32s (List.replicate k 0) := by
  intro x hx
  rw [(List.mem_replicate.1 hx).2]; decide
theorem len0 (k : Nat) : (List.replicate k (0 : Int)).length = k := List.length_replicate
theorem wr_take {l : List Int} {off v : Int} (h0 : hasP l.length off 4) (hv : (0 ≤ v ∧ v < 4294967296)) : takeV 4 off ((wrL l off 4 v).getD (off / 4).toNat 0) = v := by
  have hj : (off / 4).toNat < l.length := by have := h0.1; have := h0.2.1; omega
  unfold wrL
  rw [if_pos h0, List.getD_eq_getElem?_getD, List.getElem?_set_self hj]
  show takeV 4 off (putV 4 off _ v) = v
  have h1 : pw off = 1 := by unfold pw; have := h0.2.2.2; rw [if_pos this]
  unfold takeV putV; rw [h1, show qn 4 = 4294967296 from rfl]; omega
theorem xor_bd {x : BitVec 32} : 0 ≤ IntKind.u32.wrap ((x.toNat : Nat) : Int) ∧ IntKind.u32.wrap ((x.toNat : Nat) : Int) < 4294967296 := by rw [wrap_u32]; omega
theorem take_set_ge {H : List B} {n b : Nat} {x : B} (h : n ≤ b) : List.take n (H.set b x) = List.take n H := by
  rw [List.take_set, List.set_eq_of_length_le (by rw [List.length_take]; omega)]
def s7 : Sp := fun vs H Q => match vs with
  | [] => GLB H ∧ Q (.bool true) H false false
  | _ => False
theorem m7 : Mono s7 := by
  intro vs H Q Q' hQ h
  unfold s7 at h ⊢
  split at h
  all_goals first
    | exact h.elim
    | (repeat' (first | exact hQ _ _ _ _ h | refine And.imp_right (fun h => ?_) h | refine Exists.imp (fun _ h => ?_) h | (intro z; replace h := h z)))
theorem k7 : Snd Tryd.prog 2 7 s7 := by
  refine snd_of_ev (by kernel_rfl) (C := tab [(8, s8), (9, s9), (10, s10)]) (sndC_cons k8 (sndC_cons k9 (sndC_cons k10 (sndC_nil)))) x7 n7 c7 30 ?_
  intro vs H Q hs
  unfold s7 at hs
  split at hs
  · skip
    obtain ⟨hg, hs⟩ := hs
    have hq := hs; clear hs
    have r1 := ram0 H (len0 ((8 : Int) / 4).toNat) (u32s0 _) (by decide); have g1 : GLB (H ++ [WB (List.replicate ((8 : Int) / 4).toNat 0)] ++ [RB H.length ((8 : Int) / 4).toNat]) := GLB_app (GLB_app hg); have r2 := r1.wset (off := 2) (n := 2) (v := 4660) (by decide); have g2 := r1.glb g1 (WB (wrL (List.replicate ((8 : Int) / 4).toNat 0) 2 2 4660))
    repeat' (conv => whnf
             first
             | (refine Stop.mk ?_)
             | (refine fO_is (b := true) (by decide) ?_)
             | (refine fO_is (b := false) (by decide) ?_)
             | (refine fI_is (b := 305397760) (by decide) ?_)
             | (refine fI_is (b := 0) (by decide) ?_)
             | (refine fI_gen ?_; intro z hz)
             | (refine fO_gen ?_; intro z hz)
             | (refine ⟨by decide, fun _ => ?_, fun h => absurd (by decide) h⟩)
             | (refine ⟨⟨by decide, by decide⟩, g1, _, _, r1, ?_⟩)
             | (refine ⟨by decide, g2, _, _, r2, ?_⟩)
             | (refine dec_true (by assumption) ?_)
             | (refine dec_false (by assumption) ?_)
             | (refine dec_split (fun h => ?_) (fun h => ?_))
             | (apply silE)
             | (exact And.intro rfl (And.intro rfl (And.intro rfl rfl)))
             | (refine And.intro (by first | omega | ((simp only [decide_eq_true_eq, decide_eq_false_iff_not, Bool.and_eq_true, beq_iff_eq, Bool.not_eq_true', Bool.not_eq_false'] at *); omega) | (subst_vars; simp only [Int.ofNat_eq_natCast, tq_not, fq_not, tq_and, fq_and, tq_or, fq_or, tq_beq, fq_beq, tq_bne, fq_bne, tq_dec, fq_dec, one1, V.tup.injEq, V.agg.injEq, List.cons.injEq, V.int.injEq, V.bool.injEq, true_and, and_true, decide_eq_true_eq, decide_eq_false_iff_not, Bool.and_eq_true, Bool.and_eq_false_iff, Bool.or_eq_true, Bool.or_eq_false_iff, Bool.not_eq_true', Bool.not_eq_false', beq_iff_eq, wrap_u32, wrap_i64, wrap_u8, beq_eq_false_iff_ne, ne_eq, bne_iff_ne, bne_eq_false_iff_eq, eq_self, and_self, splice, V.cells, List.take_succ_cons, List.take_zero, List.take_nil, List.drop_zero, List.drop_succ_cons, List.drop_nil, List.cons_append, List.nil_append, List.append_nil, List.length_cons, List.length_nil, Nat.zero_add, Nat.reduceAdd, if_true, if_false, Bool.false_eq_true, beq_self_eq_true, decide_eq_decide, Bool.true_eq_false, or_false, false_or, or_true, true_or, and_false, false_and, not_true_eq_false, not_false_eq_true, Bool.and_true, Bool.true_and, Bool.not_true, Bool.not_false] at *; omega)) ?_)
             | (refine Exists.intro _ (Exists.intro _ (And.intro rfl ?_)))
             | (refine Exists.intro _ (And.intro rfl ?_))
             | (refine Exists.intro _ (Exists.intro _ (Exists.intro _ (Exists.intro _ (And.intro rfl ?_)))))
             | (refine ld_step rfl (by assumption) rfl ?_)
             | (refine lds_step rfl (by assumption) rfl ?_)
             | (refine fL_mk ?_)
             | (refine fH_mk ?_)
             | (refine fN_mk ?_)
             | (refine fLB_mk ?_)
             | (refine And.intro (by repeat (first | assumption | refine GLB_app ?_)) ?_)
             | (refine ld_step rfl ((rd_x0 _ _ _ _ _).trans rfl) rfl ?_)
             | (refine ld_step rfl ((rd_x1 _ _ _ _ _ _).trans rfl) rfl ?_)
             | (refine ld_step rfl ((rd_x2 _ _ _ _ _ _ _).trans rfl) rfl ?_)
             | (refine lds_step rfl ((rd_x0 _ _ _ _ _).trans rfl) rfl ?_)
             | (refine lds_step rfl ((rd_x1 _ _ _ _ _ _).trans rfl) rfl ?_)
             | (refine lds_step rfl ((rd_x2 _ _ _ _ _ _ _).trans rfl) rfl ?_)
             | (refine mem_step (st_eq rfl rfl rfl rfl (wr_last _ _ _ _ rfl)) ?_)
             | (refine drec_yes (by omega) ?_)
             | (refine drec_no (by omega) ?_)
             | (intro _)
             | fail)
    all_goals
      conv => whnf
      exact leafH hq rfl (by rw [take_set_ge (Nat.le_refl _)]; exact take_app2 H _ _)
  · exact hs.elim
theorem rd_keep {Hx X : List B} {b o n c : Nat} {r : List V} {x : B} (h : rd Hx b o n = some r) (hc : Hx.length ≤ c) : rd ((Hx ++ X).set c x) b o n = some r := by
  have hb : b < Hx.length := by
    unfold rd at h
    split at h
    · rename_i hh; exact (List.getElem?_eq_some_iff.1 hh).1
    · cases h
  have h1 := rd_app h X
  unfold rd at h1 ⊢
  rw [List.getElem?_set_ne (by omega)]
  exact h1
def s3 : Sp := fun vs H Q => match vs with
  | [.int .i64 n, .sl p len cp, .int .i64 off, .int .u32 v] => ((-9223372036854775808 ≤ n ∧ n < 9223372036854775808) ∧ (-9223372036854775808 ≤ off ∧ off < 9223372036854775808) ∧ (0 ≤ v ∧ v < 4294967296)) ∧ GLB H ∧ (∃ l, DeedsAt H p len l) ∧ Q (.bool true) H false false
  | _ => False
theorem k3 : Snd Tryd.prog 2 3 s3 := by
  refine snd_of_ev (by kernel_rfl) (C := tab [(7, s7), (8, s8), (9, s9), (10, s10), (11, s11), (12, s12)]) (sndC_cons k7 (sndC_cons k8 (sndC_cons k9 (sndC_cons k10 (sndC_cons k11 (sndC_cons k12 (sndC_nil))))))) x3 n3 c3 200 ?_
  have hC : MonoC (tab [(7, s7), (8, s8), (9, s9), (10, s10), (11, s11), (12, s12)]) := monoC_cons m7 (monoC_cons m8 (monoC_cons m9 (monoC_cons m10 (monoC_cons m11 (monoC_cons m12 (monoC_nil))))))
  intro vs Hx Q hs
  unfold s3 at hs
  split at hs
  · rename_i n p len cp off v
    obtain ⟨hp, hg, ⟨l, rfl, hok, hl⟩, hq⟩ := hs
    suffices hh : ∀ k, 150 < k → evFun (tab [(7, s7), (8, s8), (9, s9), (10, s10), (11, s11), (12, s12)]) k e3 [.int .i64 n, .sl p l.length cp, .int .i64 off, .int .u32 v] Hx Q from hh _ (by omega)
    intro k hk
    refine evFun_in (tm := SV.v (.int .i64 n) :: SV.v (.sl p l.length cp) :: SV.v (.int .i64 off) :: SV.v (.int .u32 v) :: undefV :: undefV :: undefV :: undefV :: undefV :: undefV :: undefV :: undefV :: undefV :: undefV :: undefV :: undefV :: undefV :: undefV :: undefV :: undefV :: undefV :: undefV :: undefV :: undefV :: undefV :: undefV :: undefV :: undefV :: undefV :: undefV :: undefV :: undefV :: undefV :: undefV :: undefV :: undefV :: undefV :: undefV :: undefV :: undefV :: undefV :: undefV :: undefV :: undefV :: undefV :: undefV :: undefV :: undefV :: undefV :: undefV :: undefV :: undefV :: undefV :: undefV :: undefV :: undefV :: undefV :: undefV :: undefV :: undefV :: undefV :: undefV :: undefV :: undefV :: undefV :: undefV :: undefV :: undefV :: undefV :: undefV :: undefV :: undefV :: undefV :: undefV :: undefV :: undefV :: undefV :: undefV :: undefV :: undefV :: undefV :: undefV :: undefV :: undefV :: undefV :: undefV :: undefV :: undefV :: undefV :: undefV :: undefV :: undefV :: undefV :: undefV :: undefV :: undefV :: undefV :: undefV :: undefV :: undefV :: undefV :: undefV :: undefV :: undefV :: undefV :: undefV :: undefV :: undefV :: undefV :: undefV :: undefV :: undefV :: []) rfl ?_
    show rC _ _ r3_0 _ _ _ _ _ _
    by_cases h0 : newP n
    · obtain ⟨m, hm⟩ : ∃ m, m = (n / 4).toNat := ⟨_, rfl⟩
      have hn4 : 1 ≤ m ∧ m ≤ 1024 ∧ 4 * (m : Int) = n := by unfold newP at h0; omega
      obtain ⟨H1, hH1⟩ : ∃ H1, H1 = Hx ++ [WB (List.replicate m 0)] ++ [RB Hx.length m] := ⟨_, rfl⟩
      have r1 : RamAt H1 (Hx.length + 1) Hx.length (List.replicate m 0) := hH1 ▸ ram0 Hx (len0 m) (u32s0 m) ⟨hn4.1, hn4.2.1⟩
      have g1 : GLB H1 := hH1 ▸ GLB_app (GLB_app hg)
      have t1 : Hx = List.take Hx.length H1 := hH1 ▸ take_app2 Hx _ _
      refine rC_seqH ?_
      repeat' (conv => whnf
               first
               | (refine Stop.mk ?_)
               | (refine fI_gen ?_; intro z hz)
               | (refine fO_gen ?_; intro z hz)
               | (refine dec_true (by assumption) ?_)
               | (refine dec_false (by assumption) ?_)
               | (refine dec_split (fun h => ?_) (fun h => ?_))
               | (apply silE)
               | (exact And.intro rfl (And.intro rfl (And.intro rfl rfl)))
               | (refine And.intro (by first | omega | ((simp only [decide_eq_true_eq, decide_eq_false_iff_not, Bool.and_eq_true, beq_iff_eq, Bool.not_eq_true', Bool.not_eq_false'] at *); omega) | (subst_vars; simp only [Int.ofNat_eq_natCast, tq_not, fq_not, tq_and, fq_and, tq_or, fq_or, tq_beq, fq_beq, tq_bne, fq_bne, tq_dec, fq_dec, one1, V.tup.injEq, V.agg.injEq, List.cons.injEq, V.int.injEq, V.bool.injEq, true_and, and_true, decide_eq_true_eq, decide_eq_false_iff_not, Bool.and_eq_true, Bool.and_eq_false_iff, Bool.or_eq_true, Bool.or_eq_false_iff, Bool.not_eq_true', Bool.not_eq_false', beq_iff_eq, wrap_u32, wrap_i64, wrap_u8, beq_eq_false_iff_ne, ne_eq, bne_iff_ne, bne_eq_false_iff_eq, eq_self, and_self, splice, V.cells, List.take_succ_cons, List.take_zero, List.take_nil, List.drop_zero, List.drop_succ_cons, List.drop_nil, List.cons_append, List.nil_append, List.append_nil, List.length_cons, List.length_nil, Nat.zero_add, Nat.reduceAdd, if_true, if_false, Bool.false_eq_true, beq_self_eq_true, decide_eq_decide, Bool.true_eq_false, or_false, false_or, or_true, true_or, and_false, false_and, not_true_eq_false, not_false_eq_true, Bool.and_true, Bool.true_and, Bool.not_true, Bool.not_false] at *; omega)) ?_)
               | (refine Exists.intro _ (Exists.intro _ (And.intro rfl ?_)))
               | (refine Exists.intro _ (And.intro rfl ?_))
               | (refine Exists.intro _ (Exists.intro _ (Exists.intro _ (Exists.intro _ (And.intro rfl ?_)))))
               | (refine ld_step rfl (by assumption) rfl ?_)
               | (refine lds_step rfl (by assumption) rfl ?_)
               | (refine fL_mk ?_)
               | (refine fH_mk ?_)
               | (refine fN_mk ?_)
               | (refine fLB_mk ?_)
               | (refine And.intro (by repeat (first | assumption | refine GLB_app ?_)) ?_)
               | (refine ld_step rfl ((rd_x0 _ _ _ _ _).trans rfl) rfl ?_)
               | (refine ld_step rfl ((rd_x1 _ _ _ _ _ _).trans rfl) rfl ?_)
               | (refine ld_step rfl ((rd_x2 _ _ _ _ _ _ _).trans rfl) rfl ?_)
               | (refine lds_step rfl ((rd_x0 _ _ _ _ _).trans rfl) rfl ?_)
               | (refine lds_step rfl ((rd_x1 _ _ _ _ _ _).trans rfl) rfl ?_)
               | (refine lds_step rfl ((rd_x2 _ _ _ _ _ _ _).trans rfl) rfl ?_)
               | (refine mem_step (st_eq rfl rfl rfl rfl (wr_last _ _ _ _ rfl)) ?_)
               | (refine drec_yes (by omega) ?_)
               | (refine drec_no (by omega) ?_)
               | (intro _)
               | fail)
      any_goals refine Halt.mk ?_
      any_goals show rC _ _ r3_1 _ _ _ _ _ _
      refine rC_seqH ?_
      repeat' (conv => whnf
               first
               | (refine Stop.mk ?_)
               | (refine fI_gen ?_; intro z hz)
               | (refine fO_gen ?_; intro z hz)
               | (refine ⟨hg, ?_⟩)
               | (refine dec_true (by assumption) ?_)
               | (refine dec_false (by assumption) ?_)
               | (refine dec_split (fun h => ?_) (fun h => ?_))
               | (apply silE)
               | (exact And.intro rfl (And.intro rfl (And.intro rfl rfl)))
               | (refine And.intro (by first | omega | ((simp only [decide_eq_true_eq, decide_eq_false_iff_not, Bool.and_eq_true, beq_iff_eq, Bool.not_eq_true', Bool.not_eq_false'] at *); omega) | (subst_vars; simp only [Int.ofNat_eq_natCast, tq_not, fq_not, tq_and, fq_and, tq_or, fq_or, tq_beq, fq_beq, tq_bne, fq_bne, tq_dec, fq_dec, one1, V.tup.injEq, V.agg.injEq, List.cons.injEq, V.int.injEq, V.bool.injEq, true_and, and_true, decide_eq_true_eq, decide_eq_false_iff_not, Bool.and_eq_true, Bool.and_eq_false_iff, Bool.or_eq_true, Bool.or_eq_false_iff, Bool.not_eq_true', Bool.not_eq_false', beq_iff_eq, wrap_u32, wrap_i64, wrap_u8, beq_eq_false_iff_ne, ne_eq, bne_iff_ne, bne_eq_false_iff_eq, eq_self, and_self, splice, V.cells, List.take_succ_cons, List.take_zero, List.take_nil, List.drop_zero, List.drop_succ_cons, List.drop_nil, List.cons_append, List.nil_append, List.append_nil, List.length_cons, List.length_nil, Nat.zero_add, Nat.reduceAdd, if_true, if_false, Bool.false_eq_true, beq_self_eq_true, decide_eq_decide, Bool.true_eq_false, or_false, false_or, or_true, true_or, and_false, false_and, not_true_eq_false, not_false_eq_true, Bool.and_true, Bool.true_and, Bool.not_true, Bool.not_false] at *; omega)) ?_)
               | (refine Exists.intro _ (Exists.intro _ (And.intro rfl ?_)))
               | (refine Exists.intro _ (And.intro rfl ?_))
               | (refine Exists.intro _ (Exists.intro _ (Exists.intro _ (Exists.intro _ (And.intro rfl ?_)))))
               | (refine ld_step rfl (by assumption) rfl ?_)
               | (refine lds_step rfl (by assumption) rfl ?_)
               | (refine fL_mk ?_)
               | (refine fH_mk ?_)
               | (refine fN_mk ?_)
               | (refine fLB_mk ?_)
               | (refine And.intro (by repeat (first | assumption | refine GLB_app ?_)) ?_)
               | (refine ld_step rfl ((rd_x0 _ _ _ _ _).trans rfl) rfl ?_)
               | (refine ld_step rfl ((rd_x1 _ _ _ _ _ _).trans rfl) rfl ?_)
               | (refine ld_step rfl ((rd_x2 _ _ _ _ _ _ _).trans rfl) rfl ?_)
               | (refine lds_step rfl ((rd_x0 _ _ _ _ _).trans rfl) rfl ?_)
               | (refine lds_step rfl ((rd_x1 _ _ _ _ _ _).trans rfl) rfl ?_)
               | (refine lds_step rfl ((rd_x2 _ _ _ _ _ _ _).trans rfl) rfl ?_)
               | (refine mem_step (st_eq rfl rfl rfl rfl (wr_last _ _ _ _ rfl)) ?_)
               | (refine drec_yes (by omega) ?_)
               | (refine drec_no (by omega) ?_)
               | (intro _)
               | fail)
      any_goals refine Halt.mk ?_
      any_goals show rC _ _ r3_2 _ _ _ _ _ _
      refine rC_seqH ?_
      repeat' (conv => whnf
               first
               | (refine Stop.mk ?_)
               | (refine fI_gen ?_; intro z hz)
               | (refine fO_gen ?_; intro z hz)
               | (refine ⟨hp.1, fun _ => ?_, fun h => absurd h0 h⟩)
               | (refine dec_true (by assumption) ?_)
               | (refine dec_false (by assumption) ?_)
               | (refine dec_split (fun h => ?_) (fun h => ?_))
               | (apply silE)
               | (exact And.intro rfl (And.intro rfl (And.intro rfl rfl)))
               | (refine And.intro (by first | omega | ((simp only [decide_eq_true_eq, decide_eq_false_iff_not, Bool.and_eq_true, beq_iff_eq, Bool.not_eq_true', Bool.not_eq_false'] at *); omega) | (subst_vars; simp only [Int.ofNat_eq_natCast, tq_not, fq_not, tq_and, fq_and, tq_or, fq_or, tq_beq, fq_beq, tq_bne, fq_bne, tq_dec, fq_dec, one1, V.tup.injEq, V.agg.injEq, List.cons.injEq, V.int.injEq, V.bool.injEq, true_and, and_true, decide_eq_true_eq, decide_eq_false_iff_not, Bool.and_eq_true, Bool.and_eq_false_iff, Bool.or_eq_true, Bool.or_eq_false_iff, Bool.not_eq_true', Bool.not_eq_false', beq_iff_eq, wrap_u32, wrap_i64, wrap_u8, beq_eq_false_iff_ne, ne_eq, bne_iff_ne, bne_eq_false_iff_eq, eq_self, and_self, splice, V.cells, List.take_succ_cons, List.take_zero, List.take_nil, List.drop_zero, List.drop_succ_cons, List.drop_nil, List.cons_append, List.nil_append, List.append_nil, List.length_cons, List.length_nil, Nat.zero_add, Nat.reduceAdd, if_true, if_false, Bool.false_eq_true, beq_self_eq_true, decide_eq_decide, Bool.true_eq_false, or_false, false_or, or_true, true_or, and_false, false_and, not_true_eq_false, not_false_eq_true, Bool.and_true, Bool.true_and, Bool.not_true, Bool.not_false] at *; omega)) ?_)
               | (refine Exists.intro _ (Exists.intro _ (And.intro rfl ?_)))
               | (refine Exists.intro _ (And.intro rfl ?_))
               | (refine Exists.intro _ (Exists.intro _ (Exists.intro _ (Exists.intro _ (And.intro rfl ?_)))))
               | (refine ld_step rfl (by assumption) rfl ?_)
               | (refine lds_step rfl (by assumption) rfl ?_)
               | (refine fL_mk ?_)
               | (refine fH_mk ?_)
               | (refine fN_mk ?_)
               | (refine fLB_mk ?_)
               | (refine And.intro (by repeat (first | assumption | refine GLB_app ?_)) ?_)
               | (refine ld_step rfl ((rd_x0 _ _ _ _ _).trans rfl) rfl ?_)
               | (refine ld_step rfl ((rd_x1 _ _ _ _ _ _).trans rfl) rfl ?_)
               | (refine ld_step rfl ((rd_x2 _ _ _ _ _ _ _).trans rfl) rfl ?_)
               | (refine lds_step rfl ((rd_x0 _ _ _ _ _).trans rfl) rfl ?_)
               | (refine lds_step rfl ((rd_x1 _ _ _ _ _ _).trans rfl) rfl ?_)
               | (refine lds_step rfl ((rd_x2 _ _ _ _ _ _ _).trans rfl) rfl ?_)
               | (refine mem_step (st_eq rfl rfl rfl rfl (wr_last _ _ _ _ rfl)) ?_)
               | (refine drec_yes (by omega) ?_)
               | (refine drec_no (by omega) ?_)
               | (intro _)
               | fail)
      any_goals refine Halt.mk ?_
      any_goals show rC _ _ r3_3 _ _ _ _ _ _
      rw [← hm, ← hH1]
      by_cases hlen : l.length ≤ 100
      · have hgt : decide ((l.length : Int) > 100) = false := decide_eq_false (by omega)
        refine rC_seqH ?_
        repeat' (conv => whnf
                 first
                 | (refine Stop.mk ?_)
                 | (with_reducible refine fI_is (a := (l.length : Int)) rfl ?_)
                 | (with_reducible refine fO_is hgt ?_)
                 | (refine fI_gen ?_; intro z hz)
                 | (refine fO_gen ?_; intro z hz)
                 | (refine dec_true (by assumption) ?_)
                 | (refine dec_false (by assumption) ?_)
                 | (refine dec_split (fun h => ?_) (fun h => ?_))
                 | (apply silE)
                 | (exact And.intro rfl (And.intro rfl (And.intro rfl rfl)))
                 | (refine And.intro (by first | omega | ((simp only [decide_eq_true_eq, decide_eq_false_iff_not, Bool.and_eq_true, beq_iff_eq, Bool.not_eq_true', Bool.not_eq_false'] at *); omega) | (subst_vars; simp only [Int.ofNat_eq_natCast, tq_not, fq_not, tq_and, fq_and, tq_or, fq_or, tq_beq, fq_beq, tq_bne, fq_bne, tq_dec, fq_dec, one1, V.tup.injEq, V.agg.injEq, List.cons.injEq, V.int.injEq, V.bool.injEq, true_and, and_true, decide_eq_true_eq, decide_eq_false_iff_not, Bool.and_eq_true, Bool.and_eq_false_iff, Bool.or_eq_true, Bool.or_eq_false_iff, Bool.not_eq_true', Bool.not_eq_false', beq_iff_eq, wrap_u32, wrap_i64, wrap_u8, beq_eq_false_iff_ne, ne_eq, bne_iff_ne, bne_eq_false_iff_eq, eq_self, and_self, splice, V.cells, List.take_succ_cons, List.take_zero, List.take_nil, List.drop_zero, List.drop_succ_cons, List.drop_nil, List.cons_append, List.nil_append, List.append_nil, List.length_cons, List.length_nil, Nat.zero_add, Nat.reduceAdd, if_true, if_false, Bool.false_eq_true, beq_self_eq_true, decide_eq_decide, Bool.true_eq_false, or_false, false_or, or_true, true_or, and_false, false_and, not_true_eq_false, not_false_eq_true, Bool.and_true, Bool.true_and, Bool.not_true, Bool.not_false] at *; omega)) ?_)
                 | (refine Exists.intro _ (Exists.intro _ (And.intro rfl ?_)))
                 | (refine Exists.intro _ (And.intro rfl ?_))
                 | (refine Exists.intro _ (Exists.intro _ (Exists.intro _ (Exists.intro _ (And.intro rfl ?_)))))
                 | (refine ld_step rfl (by assumption) rfl ?_)
                 | (refine lds_step rfl (by assumption) rfl ?_)
                 | (refine fL_mk ?_)
                 | (refine fH_mk ?_)
                 | (refine fN_mk ?_)
                 | (refine fLB_mk ?_)
                 | (refine And.intro (by repeat (first | assumption | refine GLB_app ?_)) ?_)
                 | (refine ld_step rfl ((rd_x0 _ _ _ _ _).trans rfl) rfl ?_)
                 | (refine ld_step rfl ((rd_x1 _ _ _ _ _ _).trans rfl) rfl ?_)
                 | (refine ld_step rfl ((rd_x2 _ _ _ _ _ _ _).trans rfl) rfl ?_)
                 | (refine lds_step rfl ((rd_x0 _ _ _ _ _).trans rfl) rfl ?_)
                 | (refine lds_step rfl ((rd_x1 _ _ _ _ _ _).trans rfl) rfl ?_)
                 | (refine lds_step rfl ((rd_x2 _ _ _ _ _ _ _).trans rfl) rfl ?_)
                 | (refine mem_step (st_eq rfl rfl rfl rfl (wr_last _ _ _ _ rfl)) ?_)
                 | (refine drec_yes (by omega) ?_)
                 | (refine drec_no (by omega) ?_)
                 | (intro _)
                 | fail)
        any_goals refine Halt.mk ?_
        any_goals show rC _ _ r3_4 _ _ _ _ _ _
        refine rC_seqH ?_
        repeat' (conv => whnf
                 first
                 | (refine Stop.mk ?_)
                 | (refine fI_mk ?_)
                 | (refine fO_mk ?_)
                 | (refine fN_mk ?_)
                 | fail)
        conv => whnf
        refine rLoop_ctr (c := rC (tab [(7, s7), (8, s8), (9, s9), (10, s10), (11, s11), (12, s12)]) k l3_0) l.length 11 (false :: false :: false :: false :: false :: false :: false :: false :: false :: false :: false :: false :: false :: false :: false :: false :: false :: false :: false :: false :: false :: false :: false :: false :: false :: false :: false :: false :: false :: false :: false :: false :: false :: false :: false :: true :: true :: true :: true :: true :: true :: true :: true :: true :: true :: true :: true :: true :: true :: true :: true :: true :: true :: true :: true :: true :: true :: true :: false :: false :: false :: false :: false :: false :: false :: false :: false :: false :: false :: false :: false :: false :: false :: false :: false :: false :: false :: false :: false :: false :: false :: false :: false :: false :: false :: false :: false :: false :: false :: false :: false :: false :: false :: false :: false :: false :: false :: false :: false :: false :: false :: false :: false :: false :: false :: false :: false :: false :: false :: false :: false :: false :: []) (fun i tm L H e g => (∃ w, w.length = m ∧ U32s w ∧ H = H1.set Hx.length (WB w)) ∧ L = [] ∧ e = false ∧ g = true) (by omega) rfl ⟨⟨List.replicate m 0, len0 m, u32s0 m, r1.same.symm⟩, rfl, rfl, rfl⟩ ?_
        intro i0 hi0
        conv => whnf
        intro j
        conv => whnf
        intro j
        conv => whnf
        intro j
        conv => whnf
        intro j
        conv => whnf
        intro j
        conv => whnf
        intro j
        conv => whnf
        intro j
        conv => whnf
        intro j
        conv => whnf
        intro j
        conv => whnf
        intro j
        conv => whnf
        intro j
        conv => whnf
        intro j
        conv => whnf
        intro j
        conv => whnf
        intro j
        conv => whnf
        intro j
        conv => whnf
        intro j
        conv => whnf
        intro j
        conv => whnf
        intro j
        conv => whnf
        intro j
        conv => whnf
        intro j
        conv => whnf
        intro j
        conv => whnf
        intro j
        conv => whnf
        intro j
        conv => whnf
        refine Halt.mk ?_
        rintro L H' e g ⟨⟨w, hw, hwu, rfl⟩, rfl, rfl, rfl⟩ K kn kx kr
        have r2 : RamAt (H1.set Hx.length (WB w)) (Hx.length + 1) Hx.length w := r1.set (hw.trans (len0 m).symm) hwu
        have g2 : GLB (H1.set Hx.length (WB w)) := r1.glb g1 _
        repeat' (conv => whnf
                 first
                 | (refine Stop.mk ?_)
                 | (refine fI_mk ?_)
                 | (refine fO_mk ?_)
                 | (refine fN_mk ?_)
                 | fail)
        conv => whnf
        refine dec_split (fun h => ?_) (fun h => ?_)
        · have hlt : i0 < l.length := by have := of_decide_eq_true h; omega
          clear kx kr
          rcases hl with rfl | ⟨b, o, rfl, hl⟩
          · exact absurd hlt (Nat.not_lt_zero _)
          obtain ⟨d, hd⟩ : ∃ d, d = l[i0] := ⟨_, rfl⟩
          have hdo : okD d := hd ▸ hok _ (List.getElem_mem hlt)
          have he : rd (H1.set Hx.length (WB w)) b (o + i0 * 4) 4 = some (encD d) := by
            rw [hH1, List.append_assoc, hd]
            exact rd_keep (rd_el encD_len hl i0 hlt _ rfl) (Nat.le_refl _)
          have he1 : ∀ p, p = o + i0 * 4 + 1 → rd (H1.set Hx.length (WB w)) b p 1 = some [.int .i64 d.2.1] := fun p hp => hp ▸ rd_sub he 1 1 (by decide)
          have he2 : ∀ p, p = o + i0 * 4 + 2 → rd (H1.set Hx.length (WB w)) b p 1 = some [.int .i64 d.2.2.1] := fun p hp => hp ▸ rd_sub he 2 1 (by decide)
          have he3 : ∀ p, p = o + i0 * 4 + 3 → rd (H1.set Hx.length (WB w)) b p 1 = some [.int .u32 d.2.2.2] := fun p hp => hp ▸ rd_sub he 3 1 (by decide)
          repeat' (conv => whnf
                   first
                   | (refine Stop.mk ?_)
                   | (refine fI_i64 (by first | omega | (simp only [Int.ofNat_eq_natCast] at *; omega)) ?_; intro z hz)
                   | (refine fI_u32 (by first | omega | (simp only [Int.ofNat_eq_natCast] at *; omega)) ?_; intro z hz)
                   | (refine fI_u8 (by first | omega | (simp only [Int.ofNat_eq_natCast] at *; omega)) ?_; intro z hz)
                   | (refine fI_u64 (by first | omega | (simp only [Int.ofNat_eq_natCast] at *; omega)) ?_; intro z hz)
                   | (refine fI_tdiv (by first | omega | (simp only [Int.ofNat_eq_natCast] at *; omega)) ?_; intro z hz)
                   | (refine fI_tmod (by first | omega | (simp only [Int.ofNat_eq_natCast] at *; omega)) ?_; intro z hz)
                   | (refine fI_gen ?_; intro z hz)
                   | (refine fO_gen ?_; intro z hz)
                   | (refine pure_step (ixs_eq rfl rfl (by omega) (show _ < (l.length : Int) by omega)) ?_)
                   | (refine ld_step rfl (he1 _ (by omega)) rfl ?_)
                   | (refine ld_step rfl (he2 _ (by omega)) rfl ?_)
                   | (refine ld_step rfl (he3 _ (by omega)) rfl ?_)
                   | (refine lds_step rfl (he1 _ (by omega)) rfl ?_)
                   | (refine lds_step rfl (he2 _ (by omega)) rfl ?_)
                   | (refine lds_step rfl (he3 _ (by omega)) rfl ?_)
                   | (refine ⟨⟨hdo.2.1, hdo.2.2.2⟩, g2, _, _, r2, ?_⟩)
                   | (refine dec_true (by assumption) ?_)
                   | (refine dec_false (by assumption) ?_)
                   | (refine dec_split (fun h => ?_) (fun h => ?_))
                   | (apply silE)
                   | (exact And.intro rfl (And.intro rfl (And.intro rfl rfl)))
                   | (refine And.intro (by first | omega | ((simp only [decide_eq_true_eq, decide_eq_false_iff_not, Bool.and_eq_true, beq_iff_eq, Bool.not_eq_true', Bool.not_eq_false'] at *); omega) | (subst_vars; simp only [Int.ofNat_eq_natCast, tq_not, fq_not, tq_and, fq_and, tq_or, fq_or, tq_beq, fq_beq, tq_bne, fq_bne, tq_dec, fq_dec, one1, V.tup.injEq, V.agg.injEq, List.cons.injEq, V.int.injEq, V.bool.injEq, true_and, and_true, decide_eq_true_eq, decide_eq_false_iff_not, Bool.and_eq_true, Bool.and_eq_false_iff, Bool.or_eq_true, Bool.or_eq_false_iff, Bool.not_eq_true', Bool.not_eq_false', beq_iff_eq, wrap_u32, wrap_i64, wrap_u8, beq_eq_false_iff_ne, ne_eq, bne_iff_ne, bne_eq_false_iff_eq, eq_self, and_self, splice, V.cells, List.take_succ_cons, List.take_zero, List.take_nil, List.drop_zero, List.drop_succ_cons, List.drop_nil, List.cons_append, List.nil_append, List.append_nil, List.length_cons, List.length_nil, Nat.zero_add, Nat.reduceAdd, if_true, if_false, Bool.false_eq_true, beq_self_eq_true, decide_eq_decide, Bool.true_eq_false, or_false, false_or, or_true, true_or, and_false, false_and, not_true_eq_false, not_false_eq_true, Bool.and_true, Bool.true_and, Bool.not_true, Bool.not_false] at *; omega)) ?_)
                   | (refine Exists.intro _ (Exists.intro _ (And.intro rfl ?_)))
                   | (refine Exists.intro _ (And.intro rfl ?_))
                   | (refine Exists.intro _ (Exists.intro _ (Exists.intro _ (Exists.intro _ (And.intro rfl ?_)))))
                   | (refine ld_step rfl (by assumption) rfl ?_)
                   | (refine lds_step rfl (by assumption) rfl ?_)
                   | (refine fL_mk ?_)
                   | (refine fH_mk ?_)
                   | (refine fN_mk ?_)
                   | (refine fLB_mk ?_)
                   | (refine And.intro (by repeat (first | assumption | refine GLB_app ?_)) ?_)
                   | (refine ld_step rfl ((rd_x0 _ _ _ _ _).trans rfl) rfl ?_)
                   | (refine ld_step rfl ((rd_x1 _ _ _ _ _ _).trans rfl) rfl ?_)
                   | (refine ld_step rfl ((rd_x2 _ _ _ _ _ _ _).trans rfl) rfl ?_)
                   | (refine lds_step rfl ((rd_x0 _ _ _ _ _).trans rfl) rfl ?_)
                   | (refine lds_step rfl ((rd_x1 _ _ _ _ _ _).trans rfl) rfl ?_)
                   | (refine lds_step rfl ((rd_x2 _ _ _ _ _ _ _).trans rfl) rfl ?_)
                   | (refine mem_step (st_eq rfl rfl rfl rfl (wr_last _ _ _ _ rfl)) ?_)
                   | (refine drec_yes (by omega) ?_)
                   | (refine drec_no (by omega) ?_)
                   | (intro _)
                   | fail)
          conv => whnf
          subst hz
          exact kn hlt _ _ _ _ _ rfl ⟨⟨_, (wrL_len _ _ _ _).trans hw, r2.wu hdo.2.2.2, List.set_set _⟩, rfl, rfl, rfl⟩
        · clear kn
          repeat' (conv => whnf
                   first
                   | (refine Stop.mk ?_)
                   | (refine fI_gen ?_; intro z hz)
                   | (refine fO_gen ?_; intro z hz)
                   | (refine kx _ _ _ _ _ _ ?_)
                   | (refine dec_true (by assumption) ?_)
                   | (refine dec_false (by assumption) ?_)
                   | (refine dec_split (fun h => ?_) (fun h => ?_))
                   | (apply silE)
                   | (exact And.intro rfl (And.intro rfl (And.intro rfl rfl)))
                   | (refine And.intro (by first | omega | ((simp only [decide_eq_true_eq, decide_eq_false_iff_not, Bool.and_eq_true, beq_iff_eq, Bool.not_eq_true', Bool.not_eq_false'] at *); omega) | (subst_vars; simp only [Int.ofNat_eq_natCast, tq_not, fq_not, tq_and, fq_and, tq_or, fq_or, tq_beq, fq_beq, tq_bne, fq_bne, tq_dec, fq_dec, one1, V.tup.injEq, V.agg.injEq, List.cons.injEq, V.int.injEq, V.bool.injEq, true_and, and_true, decide_eq_true_eq, decide_eq_false_iff_not, Bool.and_eq_true, Bool.and_eq_false_iff, Bool.or_eq_true, Bool.or_eq_false_iff, Bool.not_eq_true', Bool.not_eq_false', beq_iff_eq, wrap_u32, wrap_i64, wrap_u8, beq_eq_false_iff_ne, ne_eq, bne_iff_ne, bne_eq_false_iff_eq, eq_self, and_self, splice, V.cells, List.take_succ_cons, List.take_zero, List.take_nil, List.drop_zero, List.drop_succ_cons, List.drop_nil, List.cons_append, List.nil_append, List.append_nil, List.length_cons, List.length_nil, Nat.zero_add, Nat.reduceAdd, if_true, if_false, Bool.false_eq_true, beq_self_eq_true, decide_eq_decide, Bool.true_eq_false, or_false, false_or, or_true, true_or, and_false, false_and, not_true_eq_false, not_false_eq_true, Bool.and_true, Bool.true_and, Bool.not_true, Bool.not_false] at *; omega)) ?_)
                   | (refine Exists.intro _ (Exists.intro _ (And.intro rfl ?_)))
                   | (refine Exists.intro _ (And.intro rfl ?_))
                   | (refine Exists.intro _ (Exists.intro _ (Exists.intro _ (Exists.intro _ (And.intro rfl ?_)))))
                   | (refine ld_step rfl (by assumption) rfl ?_)
                   | (refine lds_step rfl (by assumption) rfl ?_)
                   | (refine fL_mk ?_)
                   | (refine fH_mk ?_)
                   | (refine fN_mk ?_)
                   | (refine fLB_mk ?_)
                   | (refine And.intro (by repeat (first | assumption | refine GLB_app ?_)) ?_)
                   | (refine ld_step rfl ((rd_x0 _ _ _ _ _).trans rfl) rfl ?_)
                   | (refine ld_step rfl ((rd_x1 _ _ _ _ _ _).trans rfl) rfl ?_)
                   | (refine ld_step rfl ((rd_x2 _ _ _ _ _ _ _).trans rfl) rfl ?_)
                   | (refine lds_step rfl ((rd_x0 _ _ _ _ _).trans rfl) rfl ?_)
                   | (refine lds_step rfl ((rd_x1 _ _ _ _ _ _).trans rfl) rfl ?_)
                   | (refine lds_step rfl ((rd_x2 _ _ _ _ _ _ _).trans rfl) rfl ?_)
                   | (refine mem_step (st_eq rfl rfl rfl rfl (wr_last _ _ _ _ rfl)) ?_)
                   | (refine drec_yes (by omega) ?_)
                   | (refine drec_no (by omega) ?_)
                   | (intro _)
                   | fail)
          refine Halt.mk ?_
          show rC _ _ r3_5 _ _ _ _ _ _
          clear kx kr
          obtain ⟨H2, hH2⟩ : ∃ H2, H2 = H1.set Hx.length (WB w) := ⟨_, rfl⟩
          have t2 : Hx = List.take Hx.length H2 := by rw [hH2, take_set_ge (Nat.le_refl _)]; exact t1
          have n2 : Hx.length + 2 = H2.length := by rw [hH2, hH1]; simp
          rw [← hH2] at r2 g2
          rw [← hH2]
          have r3 : RamAt (H2 ++ [WB w] ++ [RB H2.length w.length]) (Hx.length + 1) Hx.length w := (r2.app _).app _
          have c3 : RamAt (H2 ++ [WB w] ++ [RB H2.length w.length]) (H2.length + 1) H2.length w := ram0 H2 rfl hwu r2.n
          have g3 : GLB (H2 ++ [WB w] ++ [RB H2.length w.length]) := GLB_app (GLB_app g2)
          by_cases h5 : hasP w.length off 4
          · refine rC_seqH ?_
            repeat' (conv => whnf
                     first
                     | (refine Stop.mk ?_)
                     | (refine fI_is (if_pos h5) ?_)
                     | (refine fO_is (decide_eq_true h5) ?_)
                     | (refine fI_gen ?_; intro z hz)
                     | (refine fO_gen ?_; intro z hz)
                     | (refine ⟨hp.2.1, g2, _, _, r2, ?_⟩)
                     | (refine dec_true (by assumption) ?_)
                     | (refine dec_false (by assumption) ?_)
                     | (refine dec_split (fun h => ?_) (fun h => ?_))
                     | (apply silE)
                     | (exact And.intro rfl (And.intro rfl (And.intro rfl rfl)))
                     | (refine And.intro (by first | omega | ((simp only [decide_eq_true_eq, decide_eq_false_iff_not, Bool.and_eq_true, beq_iff_eq, Bool.not_eq_true', Bool.not_eq_false'] at *); omega) | (subst_vars; simp only [Int.ofNat_eq_natCast, tq_not, fq_not, tq_and, fq_and, tq_or, fq_or, tq_beq, fq_beq, tq_bne, fq_bne, tq_dec, fq_dec, one1, V.tup.injEq, V.agg.injEq, List.cons.injEq, V.int.injEq, V.bool.injEq, true_and, and_true, decide_eq_true_eq, decide_eq_false_iff_not, Bool.and_eq_true, Bool.and_eq_false_iff, Bool.or_eq_true, Bool.or_eq_false_iff, Bool.not_eq_true', Bool.not_eq_false', beq_iff_eq, wrap_u32, wrap_i64, wrap_u8, beq_eq_false_iff_ne, ne_eq, bne_iff_ne, bne_eq_false_iff_eq, eq_self, and_self, splice, V.cells, List.take_succ_cons, List.take_zero, List.take_nil, List.drop_zero, List.drop_succ_cons, List.drop_nil, List.cons_append, List.nil_append, List.append_nil, List.length_cons, List.length_nil, Nat.zero_add, Nat.reduceAdd, if_true, if_false, Bool.false_eq_true, beq_self_eq_true, decide_eq_decide, Bool.true_eq_false, or_false, false_or, or_true, true_or, and_false, false_and, not_true_eq_false, not_false_eq_true, Bool.and_true, Bool.true_and, Bool.not_true, Bool.not_false] at *; omega)) ?_)
                     | (refine Exists.intro _ (Exists.intro _ (And.intro rfl ?_)))
                     | (refine Exists.intro _ (And.intro rfl ?_))
                     | (refine Exists.intro _ (Exists.intro _ (Exists.intro _ (Exists.intro _ (And.intro rfl ?_)))))
                     | (refine ld_step rfl (by assumption) rfl ?_)
                     | (refine lds_step rfl (by assumption) rfl ?_)
                     | (refine fL_mk ?_)
                     | (refine fH_mk ?_)
                     | (refine fN_mk ?_)
                     | (refine fLB_mk ?_)
                     | (refine And.intro (by repeat (first | assumption | refine GLB_app ?_)) ?_)
                     | (refine ld_step rfl ((rd_x0 _ _ _ _ _).trans rfl) rfl ?_)
                     | (refine ld_step rfl ((rd_x1 _ _ _ _ _ _).trans rfl) rfl ?_)
                     | (refine ld_step rfl ((rd_x2 _ _ _ _ _ _ _).trans rfl) rfl ?_)
                     | (refine lds_step rfl ((rd_x0 _ _ _ _ _).trans rfl) rfl ?_)
                     | (refine lds_step rfl ((rd_x1 _ _ _ _ _ _).trans rfl) rfl ?_)
                     | (refine lds_step rfl ((rd_x2 _ _ _ _ _ _ _).trans rfl) rfl ?_)
                     | (refine mem_step (st_eq rfl rfl rfl rfl (wr_last _ _ _ _ rfl)) ?_)
                     | (refine drec_yes (by omega) ?_)
                     | (refine drec_no (by omega) ?_)
                     | (intro _)
                     | fail)
            any_goals refine Halt.mk ?_
            any_goals show rC _ _ r3_6 _ _ _ _ _ _
            refine rC_seqH ?_
            repeat' (conv => whnf
                     first
                     | (refine Stop.mk ?_)
                     | (refine fI_gen ?_; intro z hz)
                     | (refine fO_gen ?_; intro z hz)
                     | (refine ⟨_, _, r2, ?_⟩)
                     | (refine dec_true (by assumption) ?_)
                     | (refine dec_false (by assumption) ?_)
                     | (refine dec_split (fun h => ?_) (fun h => ?_))
                     | (apply silE)
                     | (exact And.intro rfl (And.intro rfl (And.intro rfl rfl)))
                     | (refine And.intro (by first | omega | ((simp only [decide_eq_true_eq, decide_eq_false_iff_not, Bool.and_eq_true, beq_iff_eq, Bool.not_eq_true', Bool.not_eq_false'] at *); omega) | (subst_vars; simp only [Int.ofNat_eq_natCast, tq_not, fq_not, tq_and, fq_and, tq_or, fq_or, tq_beq, fq_beq, tq_bne, fq_bne, tq_dec, fq_dec, one1, V.tup.injEq, V.agg.injEq, List.cons.injEq, V.int.injEq, V.bool.injEq, true_and, and_true, decide_eq_true_eq, decide_eq_false_iff_not, Bool.and_eq_true, Bool.and_eq_false_iff, Bool.or_eq_true, Bool.or_eq_false_iff, Bool.not_eq_true', Bool.not_eq_false', beq_iff_eq, wrap_u32, wrap_i64, wrap_u8, beq_eq_false_iff_ne, ne_eq, bne_iff_ne, bne_eq_false_iff_eq, eq_self, and_self, splice, V.cells, List.take_succ_cons, List.take_zero, List.take_nil, List.drop_zero, List.drop_succ_cons, List.drop_nil, List.cons_append, List.nil_append, List.append_nil, List.length_cons, List.length_nil, Nat.zero_add, Nat.reduceAdd, if_true, if_false, Bool.false_eq_true, beq_self_eq_true, decide_eq_decide, Bool.true_eq_false, or_false, false_or, or_true, true_or, and_false, false_and, not_true_eq_false, not_false_eq_true, Bool.and_true, Bool.true_and, Bool.not_true, Bool.not_false] at *; omega)) ?_)
                     | (refine Exists.intro _ (Exists.intro _ (And.intro rfl ?_)))
                     | (refine Exists.intro _ (And.intro rfl ?_))
                     | (refine Exists.intro _ (Exists.intro _ (Exists.intro _ (Exists.intro _ (And.intro rfl ?_)))))
                     | (refine ld_step rfl (by assumption) rfl ?_)
                     | (refine lds_step rfl (by assumption) rfl ?_)
                     | (refine fL_mk ?_)
                     | (refine fH_mk ?_)
                     | (refine fN_mk ?_)
                     | (refine fLB_mk ?_)
                     | (refine And.intro (by repeat (first | assumption | refine GLB_app ?_)) ?_)
                     | (refine ld_step rfl ((rd_x0 _ _ _ _ _).trans rfl) rfl ?_)
                     | (refine ld_step rfl ((rd_x1 _ _ _ _ _ _).trans rfl) rfl ?_)
                     | (refine ld_step rfl ((rd_x2 _ _ _ _ _ _ _).trans rfl) rfl ?_)
                     | (refine lds_step rfl ((rd_x0 _ _ _ _ _).trans rfl) rfl ?_)
                     | (refine lds_step rfl ((rd_x1 _ _ _ _ _ _).trans rfl) rfl ?_)
                     | (refine lds_step rfl ((rd_x2 _ _ _ _ _ _ _).trans rfl) rfl ?_)
                     | (refine mem_step (st_eq rfl rfl rfl rfl (wr_last _ _ _ _ rfl)) ?_)
                     | (refine drec_yes (by omega) ?_)
                     | (refine drec_no (by omega) ?_)
                     | (intro _)
                     | fail)
            any_goals refine Halt.mk ?_
            any_goals show rC _ _ r3_7 _ _ _ _ _ _
            refine rC_seqH ?_
            repeat' (conv => whnf
                     first
                     | (refine Stop.mk ?_)
                     | (refine fI_gen ?_; intro z hz)
                     | (refine fO_gen ?_; intro z hz)
                     | (refine dec_true (by assumption) ?_)
                     | (refine dec_false (by assumption) ?_)
                     | (refine dec_split (fun h => ?_) (fun h => ?_))
                     | (apply silE)
                     | (exact And.intro rfl (And.intro rfl (And.intro rfl rfl)))
                     | (refine And.intro (by first | omega | ((simp only [decide_eq_true_eq, decide_eq_false_iff_not, Bool.and_eq_true, beq_iff_eq, Bool.not_eq_true', Bool.not_eq_false'] at *); omega) | (subst_vars; simp only [Int.ofNat_eq_natCast, tq_not, fq_not, tq_and, fq_and, tq_or, fq_or, tq_beq, fq_beq, tq_bne, fq_bne, tq_dec, fq_dec, one1, V.tup.injEq, V.agg.injEq, List.cons.injEq, V.int.injEq, V.bool.injEq, true_and, and_true, decide_eq_true_eq, decide_eq_false_iff_not, Bool.and_eq_true, Bool.and_eq_false_iff, Bool.or_eq_true, Bool.or_eq_false_iff, Bool.not_eq_true', Bool.not_eq_false', beq_iff_eq, wrap_u32, wrap_i64, wrap_u8, beq_eq_false_iff_ne, ne_eq, bne_iff_ne, bne_eq_false_iff_eq, eq_self, and_self, splice, V.cells, List.take_succ_cons, List.take_zero, List.take_nil, List.drop_zero, List.drop_succ_cons, List.drop_nil, List.cons_append, List.nil_append, List.append_nil, List.length_cons, List.length_nil, Nat.zero_add, Nat.reduceAdd, if_true, if_false, Bool.false_eq_true, beq_self_eq_true, decide_eq_decide, Bool.true_eq_false, or_false, false_or, or_true, true_or, and_false, false_and, not_true_eq_false, not_false_eq_true, Bool.and_true, Bool.true_and, Bool.not_true, Bool.not_false] at *; omega)) ?_)
                     | (refine Exists.intro _ (Exists.intro _ (And.intro rfl ?_)))
                     | (refine Exists.intro _ (And.intro rfl ?_))
                     | (refine Exists.intro _ (Exists.intro _ (Exists.intro _ (Exists.intro _ (And.intro rfl ?_)))))
                     | (refine ld_step rfl (by assumption) rfl ?_)
                     | (refine lds_step rfl (by assumption) rfl ?_)
                     | (refine fL_mk ?_)
                     | (refine fH_mk ?_)
                     | (refine fN_mk ?_)
                     | (refine fLB_mk ?_)
                     | (refine And.intro (by repeat (first | assumption | refine GLB_app ?_)) ?_)
                     | (refine ld_step rfl ((rd_x0 _ _ _ _ _).trans rfl) rfl ?_)
                     | (refine ld_step rfl ((rd_x1 _ _ _ _ _ _).trans rfl) rfl ?_)
                     | (refine ld_step rfl ((rd_x2 _ _ _ _ _ _ _).trans rfl) rfl ?_)
                     | (refine lds_step rfl ((rd_x0 _ _ _ _ _).trans rfl) rfl ?_)
                     | (refine lds_step rfl ((rd_x1 _ _ _ _ _ _).trans rfl) rfl ?_)
                     | (refine lds_step rfl ((rd_x2 _ _ _ _ _ _ _).trans rfl) rfl ?_)
                     | (refine mem_step (st_eq rfl rfl rfl rfl (wr_last _ _ _ _ rfl)) ?_)
                     | (refine drec_yes (by omega) ?_)
                     | (refine drec_no (by omega) ?_)
                     | (intro _)
                     | fail)
            any_goals refine Halt.mk ?_
            any_goals show rC _ _ r3_8 _ _ _ _ _ _
            have hb : 0 ≤ takeV 4 off (w.getD (off / 4).toNat 0) ∧ takeV 4 off (w.getD (off / 4).toNat 0) < 4294967296 := by unfold takeV; rw [show qn 4 = 4294967296 from rfl]; omega
            have r4 := r3.wset (off := off) (n := 4) (v := v) hp.2.2
            have g4 := r3.glb g3 (WB (wrL w off 4 v))
            have c4 := c3.other (c := Hx.length) (by omega) (by omega) (WB (wrL w off 4 v))
            have h6 : hasP (wrL w off 4 v).length off 4 := by rw [wrL_len]; exact h5
            refine rC_seqH ?_
            repeat' (conv => whnf
                     first
                     | (refine Stop.mk ?_)
                     | (refine fI_gen ?_; intro z hz)
                     | (refine fO_gen ?_; intro z hz)
                     | (refine ⟨⟨hp.2.1, hp.2.2⟩, g3, _, _, r3, ?_⟩)
                     | (refine dec_true (by assumption) ?_)
                     | (refine dec_false (by assumption) ?_)
                     | (refine dec_split (fun h => ?_) (fun h => ?_))
                     | (apply silE)
                     | (exact And.intro rfl (And.intro rfl (And.intro rfl rfl)))
                     | (refine And.intro (by first | omega | ((simp only [decide_eq_true_eq, decide_eq_false_iff_not, Bool.and_eq_true, beq_iff_eq, Bool.not_eq_true', Bool.not_eq_false'] at *); omega) | (subst_vars; simp only [Int.ofNat_eq_natCast, tq_not, fq_not, tq_and, fq_and, tq_or, fq_or, tq_beq, fq_beq, tq_bne, fq_bne, tq_dec, fq_dec, one1, V.tup.injEq, V.agg.injEq, List.cons.injEq, V.int.injEq, V.bool.injEq, true_and, and_true, decide_eq_true_eq, decide_eq_false_iff_not, Bool.and_eq_true, Bool.and_eq_false_iff, Bool.or_eq_true, Bool.or_eq_false_iff, Bool.not_eq_true', Bool.not_eq_false', beq_iff_eq, wrap_u32, wrap_i64, wrap_u8, beq_eq_false_iff_ne, ne_eq, bne_iff_ne, bne_eq_false_iff_eq, eq_self, and_self, splice, V.cells, List.take_succ_cons, List.take_zero, List.take_nil, List.drop_zero, List.drop_succ_cons, List.drop_nil, List.cons_append, List.nil_append, List.append_nil, List.length_cons, List.length_nil, Nat.zero_add, Nat.reduceAdd, if_true, if_false, Bool.false_eq_true, beq_self_eq_true, decide_eq_decide, Bool.true_eq_false, or_false, false_or, or_true, true_or, and_false, false_and, not_true_eq_false, not_false_eq_true, Bool.and_true, Bool.true_and, Bool.not_true, Bool.not_false] at *; omega)) ?_)
                     | (refine Exists.intro _ (Exists.intro _ (And.intro rfl ?_)))
                     | (refine Exists.intro _ (And.intro rfl ?_))
                     | (refine Exists.intro _ (Exists.intro _ (Exists.intro _ (Exists.intro _ (And.intro rfl ?_)))))
                     | (refine ld_step rfl (by assumption) rfl ?_)
                     | (refine lds_step rfl (by assumption) rfl ?_)
                     | (refine fL_mk ?_)
                     | (refine fH_mk ?_)
                     | (refine fN_mk ?_)
                     | (refine fLB_mk ?_)
                     | (refine And.intro (by repeat (first | assumption | refine GLB_app ?_)) ?_)
                     | (refine ld_step rfl ((rd_x0 _ _ _ _ _).trans rfl) rfl ?_)
                     | (refine ld_step rfl ((rd_x1 _ _ _ _ _ _).trans rfl) rfl ?_)
                     | (refine ld_step rfl ((rd_x2 _ _ _ _ _ _ _).trans rfl) rfl ?_)
                     | (refine lds_step rfl ((rd_x0 _ _ _ _ _).trans rfl) rfl ?_)
                     | (refine lds_step rfl ((rd_x1 _ _ _ _ _ _).trans rfl) rfl ?_)
                     | (refine lds_step rfl ((rd_x2 _ _ _ _ _ _ _).trans rfl) rfl ?_)
                     | (refine mem_step (st_eq rfl rfl rfl rfl (wr_last _ _ _ _ rfl)) ?_)
                     | (refine drec_yes (by omega) ?_)
                     | (refine drec_no (by omega) ?_)
                     | (intro _)
                     | fail)
            any_goals refine Halt.mk ?_
            any_goals show rC _ _ r3_9 _ _ _ _ _ _
            refine rC_seqH ?_
            repeat' (conv => whnf
                     first
                     | (refine Stop.mk ?_)
                     | (refine fI_is ((if_pos h6).trans (wr_take h5 hp.2.2)) ?_)
                     | (refine fO_is (decide_eq_true h6) ?_)
                     | (refine fI_gen ?_; intro z hz)
                     | (refine fO_gen ?_; intro z hz)
                     | (refine ⟨hp.2.1, g4, _, _, r4, ?_⟩)
                     | (refine dec_true (by assumption) ?_)
                     | (refine dec_false (by assumption) ?_)
                     | (refine dec_split (fun h => ?_) (fun h => ?_))
                     | (apply silE)
                     | (exact And.intro rfl (And.intro rfl (And.intro rfl rfl)))
                     | (refine And.intro (by first | omega | ((simp only [decide_eq_true_eq, decide_eq_false_iff_not, Bool.and_eq_true, beq_iff_eq, Bool.not_eq_true', Bool.not_eq_false'] at *); omega) | (subst_vars; simp only [Int.ofNat_eq_natCast, tq_not, fq_not, tq_and, fq_and, tq_or, fq_or, tq_beq, fq_beq, tq_bne, fq_bne, tq_dec, fq_dec, one1, V.tup.injEq, V.agg.injEq, List.cons.injEq, V.int.injEq, V.bool.injEq, true_and, and_true, decide_eq_true_eq, decide_eq_false_iff_not, Bool.and_eq_true, Bool.and_eq_false_iff, Bool.or_eq_true, Bool.or_eq_false_iff, Bool.not_eq_true', Bool.not_eq_false', beq_iff_eq, wrap_u32, wrap_i64, wrap_u8, beq_eq_false_iff_ne, ne_eq, bne_iff_ne, bne_eq_false_iff_eq, eq_self, and_self, splice, V.cells, List.take_succ_cons, List.take_zero, List.take_nil, List.drop_zero, List.drop_succ_cons, List.drop_nil, List.cons_append, List.nil_append, List.append_nil, List.length_cons, List.length_nil, Nat.zero_add, Nat.reduceAdd, if_true, if_false, Bool.false_eq_true, beq_self_eq_true, decide_eq_decide, Bool.true_eq_false, or_false, false_or, or_true, true_or, and_false, false_and, not_true_eq_false, not_false_eq_true, Bool.and_true, Bool.true_and, Bool.not_true, Bool.not_false] at *; omega)) ?_)
                     | (refine Exists.intro _ (Exists.intro _ (And.intro rfl ?_)))
                     | (refine Exists.intro _ (And.intro rfl ?_))
                     | (refine Exists.intro _ (Exists.intro _ (Exists.intro _ (Exists.intro _ (And.intro rfl ?_)))))
                     | (refine ld_step rfl (by assumption) rfl ?_)
                     | (refine lds_step rfl (by assumption) rfl ?_)
                     | (refine fL_mk ?_)
                     | (refine fH_mk ?_)
                     | (refine fN_mk ?_)
                     | (refine fLB_mk ?_)
                     | (refine And.intro (by repeat (first | assumption | refine GLB_app ?_)) ?_)
                     | (refine ld_step rfl ((rd_x0 _ _ _ _ _).trans rfl) rfl ?_)
                     | (refine ld_step rfl ((rd_x1 _ _ _ _ _ _).trans rfl) rfl ?_)
                     | (refine ld_step rfl ((rd_x2 _ _ _ _ _ _ _).trans rfl) rfl ?_)
                     | (refine lds_step rfl ((rd_x0 _ _ _ _ _).trans rfl) rfl ?_)
                     | (refine lds_step rfl ((rd_x1 _ _ _ _ _ _).trans rfl) rfl ?_)
                     | (refine lds_step rfl ((rd_x2 _ _ _ _ _ _ _).trans rfl) rfl ?_)
                     | (refine mem_step (st_eq rfl rfl rfl rfl (wr_last _ _ _ _ rfl)) ?_)
                     | (refine drec_yes (by omega) ?_)
                     | (refine drec_no (by omega) ?_)
                     | (intro _)
                     | fail)
            any_goals refine Halt.mk ?_
            any_goals show rC _ _ r3_10 _ _ _ _ _ _
            refine rC_seqH ?_
            repeat' (conv => whnf
                     first
                     | (refine Stop.mk ?_)
                     | (refine fI_is (if_pos h5) ?_)
                     | (refine fO_is (decide_eq_true h5) ?_)
                     | (refine fI_gen ?_; intro z hz)
                     | (refine fO_gen ?_; intro z hz)
                     | (refine ⟨hp.2.1, g4, _, _, c4, ?_⟩)
                     | (refine dec_true (by assumption) ?_)
                     | (refine dec_false (by assumption) ?_)
                     | (refine dec_split (fun h => ?_) (fun h => ?_))
                     | (apply silE)
                     | (exact And.intro rfl (And.intro rfl (And.intro rfl rfl)))
                     | (refine And.intro (by first | omega | ((simp only [decide_eq_true_eq, decide_eq_false_iff_not, Bool.and_eq_true, beq_iff_eq, Bool.not_eq_true', Bool.not_eq_false'] at *); omega) | (subst_vars; simp only [Int.ofNat_eq_natCast, tq_not, fq_not, tq_and, fq_and, tq_or, fq_or, tq_beq, fq_beq, tq_bne, fq_bne, tq_dec, fq_dec, one1, V.tup.injEq, V.agg.injEq, List.cons.injEq, V.int.injEq, V.bool.injEq, true_and, and_true, decide_eq_true_eq, decide_eq_false_iff_not, Bool.and_eq_true, Bool.and_eq_false_iff, Bool.or_eq_true, Bool.or_eq_false_iff, Bool.not_eq_true', Bool.not_eq_false', beq_iff_eq, wrap_u32, wrap_i64, wrap_u8, beq_eq_false_iff_ne, ne_eq, bne_iff_ne, bne_eq_false_iff_eq, eq_self, and_self, splice, V.cells, List.take_succ_cons, List.take_zero, List.take_nil, List.drop_zero, List.drop_succ_cons, List.drop_nil, List.cons_append, List.nil_append, List.append_nil, List.length_cons, List.length_nil, Nat.zero_add, Nat.reduceAdd, if_true, if_false, Bool.false_eq_true, beq_self_eq_true, decide_eq_decide, Bool.true_eq_false, or_false, false_or, or_true, true_or, and_false, false_and, not_true_eq_false, not_false_eq_true, Bool.and_true, Bool.true_and, Bool.not_true, Bool.not_false] at *; omega)) ?_)
                     | (refine Exists.intro _ (Exists.intro _ (And.intro rfl ?_)))
                     | (refine Exists.intro _ (And.intro rfl ?_))
                     | (refine Exists.intro _ (Exists.intro _ (Exists.intro _ (Exists.intro _ (And.intro rfl ?_)))))
                     | (refine ld_step rfl (by assumption) rfl ?_)
                     | (refine lds_step rfl (by assumption) rfl ?_)
                     | (refine fL_mk ?_)
                     | (refine fH_mk ?_)
                     | (refine fN_mk ?_)
                     | (refine fLB_mk ?_)
                     | (refine And.intro (by repeat (first | assumption | refine GLB_app ?_)) ?_)
                     | (refine ld_step rfl ((rd_x0 _ _ _ _ _).trans rfl) rfl ?_)
                     | (refine ld_step rfl ((rd_x1 _ _ _ _ _ _).trans rfl) rfl ?_)
                     | (refine ld_step rfl ((rd_x2 _ _ _ _ _ _ _).trans rfl) rfl ?_)
                     | (refine lds_step rfl ((rd_x0 _ _ _ _ _).trans rfl) rfl ?_)
                     | (refine lds_step rfl ((rd_x1 _ _ _ _ _ _).trans rfl) rfl ?_)
                     | (refine lds_step rfl ((rd_x2 _ _ _ _ _ _ _).trans rfl) rfl ?_)
                     | (refine mem_step (st_eq rfl rfl rfl rfl (wr_last _ _ _ _ rfl)) ?_)
                     | (refine drec_yes (by omega) ?_)
                     | (refine drec_no (by omega) ?_)
                     | (intro _)
                     | fail)
            any_goals refine Halt.mk ?_
            any_goals show rC _ _ r3_11 _ _ _ _ _ _
            obtain ⟨y, hy⟩ : ∃ y, y = IntKind.u32.wrap (((BitVec.ofInt IntKind.u32.bits (if IntKind.u32.signed = true then -1 else IntKind.u32.max) ^^^ BitVec.ofInt IntKind.u32.bits v).toNat : Nat) : Int) := ⟨_, rfl⟩
            have hyb : 0 ≤ y ∧ y < 4294967296 := hy ▸ xor_bd
            have r5 : RamAt (((H2 ++ [WB w] ++ [RB H2.length w.length]).set Hx.length (WB (wrL w off 4 v))).set H2.length (WB (wrL w off 4 y))) (Hx.length + 1) Hx.length (wrL w off 4 v) := r4.other (by omega) (by omega) _
            have g5 := c4.glb g4 (WB (wrL w off 4 y))
            refine rC_seqH ?_
            repeat' (conv => whnf
                     first
                     | (refine Stop.mk ?_)
                     | (refine fI_is hy.symm ?_)
                     | (refine fI_gen ?_; intro z hz)
                     | (refine fO_gen ?_; intro z hz)
                     | (refine ⟨⟨hp.2.1, hyb⟩, g4, _, _, c4, ?_⟩)
                     | (refine ⟨_, _, c4, ?_⟩)
                     | (refine dec_true (by assumption) ?_)
                     | (refine dec_false (by assumption) ?_)
                     | (refine dec_split (fun h => ?_) (fun h => ?_))
                     | (apply silE)
                     | (exact And.intro rfl (And.intro rfl (And.intro rfl rfl)))
                     | (refine And.intro (by first | omega | ((simp only [decide_eq_true_eq, decide_eq_false_iff_not, Bool.and_eq_true, beq_iff_eq, Bool.not_eq_true', Bool.not_eq_false'] at *); omega) | (subst_vars; simp only [Int.ofNat_eq_natCast, tq_not, fq_not, tq_and, fq_and, tq_or, fq_or, tq_beq, fq_beq, tq_bne, fq_bne, tq_dec, fq_dec, one1, V.tup.injEq, V.agg.injEq, List.cons.injEq, V.int.injEq, V.bool.injEq, true_and, and_true, decide_eq_true_eq, decide_eq_false_iff_not, Bool.and_eq_true, Bool.and_eq_false_iff, Bool.or_eq_true, Bool.or_eq_false_iff, Bool.not_eq_true', Bool.not_eq_false', beq_iff_eq, wrap_u32, wrap_i64, wrap_u8, beq_eq_false_iff_ne, ne_eq, bne_iff_ne, bne_eq_false_iff_eq, eq_self, and_self, splice, V.cells, List.take_succ_cons, List.take_zero, List.take_nil, List.drop_zero, List.drop_succ_cons, List.drop_nil, List.cons_append, List.nil_append, List.append_nil, List.length_cons, List.length_nil, Nat.zero_add, Nat.reduceAdd, if_true, if_false, Bool.false_eq_true, beq_self_eq_true, decide_eq_decide, Bool.true_eq_false, or_false, false_or, or_true, true_or, and_false, false_and, not_true_eq_false, not_false_eq_true, Bool.and_true, Bool.true_and, Bool.not_true, Bool.not_false] at *; omega)) ?_)
                     | (refine Exists.intro _ (Exists.intro _ (And.intro rfl ?_)))
                     | (refine Exists.intro _ (And.intro rfl ?_))
                     | (refine Exists.intro _ (Exists.intro _ (Exists.intro _ (Exists.intro _ (And.intro rfl ?_)))))
                     | (refine ld_step rfl (by assumption) rfl ?_)
                     | (refine lds_step rfl (by assumption) rfl ?_)
                     | (refine fL_mk ?_)
                     | (refine fH_mk ?_)
                     | (refine fN_mk ?_)
                     | (refine fLB_mk ?_)
                     | (refine And.intro (by repeat (first | assumption | refine GLB_app ?_)) ?_)
                     | (refine ld_step rfl ((rd_x0 _ _ _ _ _).trans rfl) rfl ?_)
                     | (refine ld_step rfl ((rd_x1 _ _ _ _ _ _).trans rfl) rfl ?_)
                     | (refine ld_step rfl ((rd_x2 _ _ _ _ _ _ _).trans rfl) rfl ?_)
                     | (refine lds_step rfl ((rd_x0 _ _ _ _ _).trans rfl) rfl ?_)
                     | (refine lds_step rfl ((rd_x1 _ _ _ _ _ _).trans rfl) rfl ?_)
                     | (refine lds_step rfl ((rd_x2 _ _ _ _ _ _ _).trans rfl) rfl ?_)
                     | (refine mem_step (st_eq rfl rfl rfl rfl (wr_last _ _ _ _ rfl)) ?_)
                     | (refine drec_yes (by omega) ?_)
                     | (refine drec_no (by omega) ?_)
                     | (intro _)
                     | fail)
            any_goals refine Halt.mk ?_
            any_goals show rC _ _ r3_12 _ _ _ _ _ _
            refine rC_seqH ?_
            repeat' (conv => whnf
                     first
                     | (refine Stop.mk ?_)
                     | (refine fI_is ((if_pos h6).trans (wr_take h5 hp.2.2)) ?_)
                     | (refine fO_is (decide_eq_true h6) ?_)
                     | (refine fI_gen ?_; intro z hz)
                     | (refine fO_gen ?_; intro z hz)
                     | (refine ⟨hp.2.1, g5, _, _, r5, ?_⟩)
                     | (refine dec_true (by assumption) ?_)
                     | (refine dec_false (by assumption) ?_)
                     | (refine dec_split (fun h => ?_) (fun h => ?_))
                     | (apply silE)
                     | (exact And.intro rfl (And.intro rfl (And.intro rfl rfl)))
                     | (refine And.intro (by first | omega | ((simp only [decide_eq_true_eq, decide_eq_false_iff_not, Bool.and_eq_true, beq_iff_eq, Bool.not_eq_true', Bool.not_eq_false'] at *); omega) | (subst_vars; simp only [Int.ofNat_eq_natCast, tq_not, fq_not, tq_and, fq_and, tq_or, fq_or, tq_beq, fq_beq, tq_bne, fq_bne, tq_dec, fq_dec, one1, V.tup.injEq, V.agg.injEq, List.cons.injEq, V.int.injEq, V.bool.injEq, true_and, and_true, decide_eq_true_eq, decide_eq_false_iff_not, Bool.and_eq_true, Bool.and_eq_false_iff, Bool.or_eq_true, Bool.or_eq_false_iff, Bool.not_eq_true', Bool.not_eq_false', beq_iff_eq, wrap_u32, wrap_i64, wrap_u8, beq_eq_false_iff_ne, ne_eq, bne_iff_ne, bne_eq_false_iff_eq, eq_self, and_self, splice, V.cells, List.take_succ_cons, List.take_zero, List.take_nil, List.drop_zero, List.drop_succ_cons, List.drop_nil, List.cons_append, List.nil_append, List.append_nil, List.length_cons, List.length_nil, Nat.zero_add, Nat.reduceAdd, if_true, if_false, Bool.false_eq_true, beq_self_eq_true, decide_eq_decide, Bool.true_eq_false, or_false, false_or, or_true, true_or, and_false, false_and, not_true_eq_false, not_false_eq_true, Bool.and_true, Bool.true_and, Bool.not_true, Bool.not_false] at *; omega)) ?_)
                     | (refine Exists.intro _ (Exists.intro _ (And.intro rfl ?_)))
                     | (refine Exists.intro _ (And.intro rfl ?_))
                     | (refine Exists.intro _ (Exists.intro _ (Exists.intro _ (Exists.intro _ (And.intro rfl ?_)))))
                     | (refine ld_step rfl (by assumption) rfl ?_)
                     | (refine lds_step rfl (by assumption) rfl ?_)
                     | (refine fL_mk ?_)
                     | (refine fH_mk ?_)
                     | (refine fN_mk ?_)
                     | (refine fLB_mk ?_)
                     | (refine And.intro (by repeat (first | assumption | refine GLB_app ?_)) ?_)
                     | (refine ld_step rfl ((rd_x0 _ _ _ _ _).trans rfl) rfl ?_)
                     | (refine ld_step rfl ((rd_x1 _ _ _ _ _ _).trans rfl) rfl ?_)
                     | (refine ld_step rfl ((rd_x2 _ _ _ _ _ _ _).trans rfl) rfl ?_)
                     | (refine lds_step rfl ((rd_x0 _ _ _ _ _).trans rfl) rfl ?_)
                     | (refine lds_step rfl ((rd_x1 _ _ _ _ _ _).trans rfl) rfl ?_)
                     | (refine lds_step rfl ((rd_x2 _ _ _ _ _ _ _).trans rfl) rfl ?_)
                     | (refine mem_step (st_eq rfl rfl rfl rfl (wr_last _ _ _ _ rfl)) ?_)
                     | (refine drec_yes (by omega) ?_)
                     | (refine drec_no (by omega) ?_)
                     | (intro _)
                     | fail)
            any_goals refine Halt.mk ?_
            any_goals show rC _ _ r3_13 _ _ _ _ _ _
            repeat' (conv => whnf
                     first
                     | (refine Stop.mk ?_)
                     | (refine fO_is (beq_self_eq_true _) ?_)
                     | (refine fI_gen ?_; intro z hz)
                     | (refine fO_gen ?_; intro z hz)
                     | (refine dec_true (by assumption) ?_)
                     | (refine dec_false (by assumption) ?_)
                     | (refine dec_split (fun h => ?_) (fun h => ?_))
                     | (apply silE)
                     | (exact And.intro rfl (And.intro rfl (And.intro rfl rfl)))
                     | (refine And.intro (by first | omega | ((simp only [decide_eq_true_eq, decide_eq_false_iff_not, Bool.and_eq_true, beq_iff_eq, Bool.not_eq_true', Bool.not_eq_false'] at *); omega) | (subst_vars; simp only [Int.ofNat_eq_natCast, tq_not, fq_not, tq_and, fq_and, tq_or, fq_or, tq_beq, fq_beq, tq_bne, fq_bne, tq_dec, fq_dec, one1, V.tup.injEq, V.agg.injEq, List.cons.injEq, V.int.injEq, V.bool.injEq, true_and, and_true, decide_eq_true_eq, decide_eq_false_iff_not, Bool.and_eq_true, Bool.and_eq_false_iff, Bool.or_eq_true, Bool.or_eq_false_iff, Bool.not_eq_true', Bool.not_eq_false', beq_iff_eq, wrap_u32, wrap_i64, wrap_u8, beq_eq_false_iff_ne, ne_eq, bne_iff_ne, bne_eq_false_iff_eq, eq_self, and_self, splice, V.cells, List.take_succ_cons, List.take_zero, List.take_nil, List.drop_zero, List.drop_succ_cons, List.drop_nil, List.cons_append, List.nil_append, List.append_nil, List.length_cons, List.length_nil, Nat.zero_add, Nat.reduceAdd, if_true, if_false, Bool.false_eq_true, beq_self_eq_true, decide_eq_decide, Bool.true_eq_false, or_false, false_or, or_true, true_or, and_false, false_and, not_true_eq_false, not_false_eq_true, Bool.and_true, Bool.true_and, Bool.not_true, Bool.not_false] at *; omega)) ?_)
                     | (refine Exists.intro _ (Exists.intro _ (And.intro rfl ?_)))
                     | (refine Exists.intro _ (And.intro rfl ?_))
                     | (refine Exists.intro _ (Exists.intro _ (Exists.intro _ (Exists.intro _ (And.intro rfl ?_)))))
                     | (refine ld_step rfl (by assumption) rfl ?_)
                     | (refine lds_step rfl (by assumption) rfl ?_)
                     | (refine fL_mk ?_)
                     | (refine fH_mk ?_)
                     | (refine fN_mk ?_)
                     | (refine fLB_mk ?_)
                     | (refine And.intro (by repeat (first | assumption | refine GLB_app ?_)) ?_)
                     | (refine ld_step rfl ((rd_x0 _ _ _ _ _).trans rfl) rfl ?_)
                     | (refine ld_step rfl ((rd_x1 _ _ _ _ _ _).trans rfl) rfl ?_)
                     | (refine ld_step rfl ((rd_x2 _ _ _ _ _ _ _).trans rfl) rfl ?_)
                     | (refine lds_step rfl ((rd_x0 _ _ _ _ _).trans rfl) rfl ?_)
                     | (refine lds_step rfl ((rd_x1 _ _ _ _ _ _).trans rfl) rfl ?_)
                     | (refine lds_step rfl ((rd_x2 _ _ _ _ _ _ _).trans rfl) rfl ?_)
                     | (refine mem_step (st_eq rfl rfl rfl rfl (wr_last _ _ _ _ rfl)) ?_)
                     | (refine drec_yes (by omega) ?_)
                     | (refine drec_no (by omega) ?_)
                     | (intro _)
                     | fail)
            conv => whnf
            exact leafH hq rfl (by rw [take_set_ge (by omega), take_set_ge (Nat.le_refl _), List.append_assoc, List.take_append_of_le_length (by omega)]; exact t2)
          · refine rC_seqH ?_
            repeat' (conv => whnf
                     first
                     | (refine Stop.mk ?_)
                     | (refine fI_is (if_neg h5) ?_)
                     | (refine fO_is (decide_eq_false h5) ?_)
                     | (refine fI_gen ?_; intro z hz)
                     | (refine fO_gen ?_; intro z hz)
                     | (refine ⟨hp.2.1, g2, _, _, r2, ?_⟩)
                     | (refine dec_true (by assumption) ?_)
                     | (refine dec_false (by assumption) ?_)
                     | (refine dec_split (fun h => ?_) (fun h => ?_))
                     | (apply silE)
                     | (exact And.intro rfl (And.intro rfl (And.intro rfl rfl)))
                     | (refine And.intro (by first | omega | ((simp only [decide_eq_true_eq, decide_eq_false_iff_not, Bool.and_eq_true, beq_iff_eq, Bool.not_eq_true', Bool.not_eq_false'] at *); omega) | (subst_vars; simp only [Int.ofNat_eq_natCast, tq_not, fq_not, tq_and, fq_and, tq_or, fq_or, tq_beq, fq_beq, tq_bne, fq_bne, tq_dec, fq_dec, one1, V.tup.injEq, V.agg.injEq, List.cons.injEq, V.int.injEq, V.bool.injEq, true_and, and_true, decide_eq_true_eq, decide_eq_false_iff_not, Bool.and_eq_true, Bool.and_eq_false_iff, Bool.or_eq_true, Bool.or_eq_false_iff, Bool.not_eq_true', Bool.not_eq_false', beq_iff_eq, wrap_u32, wrap_i64, wrap_u8, beq_eq_false_iff_ne, ne_eq, bne_iff_ne, bne_eq_false_iff_eq, eq_self, and_self, splice, V.cells, List.take_succ_cons, List.take_zero, List.take_nil, List.drop_zero, List.drop_succ_cons, List.drop_nil, List.cons_append, List.nil_append, List.append_nil, List.length_cons, List.length_nil, Nat.zero_add, Nat.reduceAdd, if_true, if_false, Bool.false_eq_true, beq_self_eq_true, decide_eq_decide, Bool.true_eq_false, or_false, false_or, or_true, true_or, and_false, false_and, not_true_eq_false, not_false_eq_true, Bool.and_true, Bool.true_and, Bool.not_true, Bool.not_false] at *; omega)) ?_)
                     | (refine Exists.intro _ (Exists.intro _ (And.intro rfl ?_)))
                     | (refine Exists.intro _ (And.intro rfl ?_))
                     | (refine Exists.intro _ (Exists.intro _ (Exists.intro _ (Exists.intro _ (And.intro rfl ?_)))))
                     | (refine ld_step rfl (by assumption) rfl ?_)
                     | (refine lds_step rfl (by assumption) rfl ?_)
                     | (refine fL_mk ?_)
                     | (refine fH_mk ?_)
                     | (refine fN_mk ?_)
                     | (refine fLB_mk ?_)
                     | (refine And.intro (by repeat (first | assumption | refine GLB_app ?_)) ?_)
                     | (refine ld_step rfl ((rd_x0 _ _ _ _ _).trans rfl) rfl ?_)
                     | (refine ld_step rfl ((rd_x1 _ _ _ _ _ _).trans rfl) rfl ?_)
                     | (refine ld_step rfl ((rd_x2 _ _ _ _ _ _ _).trans rfl) rfl ?_)
                     | (refine lds_step rfl ((rd_x0 _ _ _ _ _).trans rfl) rfl ?_)
                     | (refine lds_step rfl ((rd_x1 _ _ _ _ _ _).trans rfl) rfl ?_)
                     | (refine lds_step rfl ((rd_x2 _ _ _ _ _ _ _).trans rfl) rfl ?_)
                     | (refine mem_step (st_eq rfl rfl rfl rfl (wr_last _ _ _ _ rfl)) ?_)
                     | (refine drec_yes (by omega) ?_)
                     | (refine drec_no (by omega) ?_)
                     | (intro _)
                     | fail)
            any_goals refine Halt.mk ?_
            any_goals show rC _ _ r3_6 _ _ _ _ _ _
            refine rC_seqH ?_
            repeat' (conv => whnf
                     first
                     | (refine Stop.mk ?_)
                     | (refine fI_gen ?_; intro z hz)
                     | (refine fO_gen ?_; intro z hz)
                     | (refine ⟨_, _, r2, ?_⟩)
                     | (refine dec_true (by assumption) ?_)
                     | (refine dec_false (by assumption) ?_)
                     | (refine dec_split (fun h => ?_) (fun h => ?_))
                     | (apply silE)
                     | (exact And.intro rfl (And.intro rfl (And.intro rfl rfl)))
                     | (refine And.intro (by first | omega | ((simp only [decide_eq_true_eq, decide_eq_false_iff_not, Bool.and_eq_true, beq_iff_eq, Bool.not_eq_true', Bool.not_eq_false'] at *); omega) | (subst_vars; simp only [Int.ofNat_eq_natCast, tq_not, fq_not, tq_and, fq_and, tq_or, fq_or, tq_beq, fq_beq, tq_bne, fq_bne, tq_dec, fq_dec, one1, V.tup.injEq, V.agg.injEq, List.cons.injEq, V.int.injEq, V.bool.injEq, true_and, and_true, decide_eq_true_eq, decide_eq_false_iff_not, Bool.and_eq_true, Bool.and_eq_false_iff, Bool.or_eq_true, Bool.or_eq_false_iff, Bool.not_eq_true', Bool.not_eq_false', beq_iff_eq, wrap_u32, wrap_i64, wrap_u8, beq_eq_false_iff_ne, ne_eq, bne_iff_ne, bne_eq_false_iff_eq, eq_self, and_self, splice, V.cells, List.take_succ_cons, List.take_zero, List.take_nil, List.drop_zero, List.drop_succ_cons, List.drop_nil, List.cons_append, List.nil_append, List.append_nil, List.length_cons, List.length_nil, Nat.zero_add, Nat.reduceAdd, if_true, if_false, Bool.false_eq_true, beq_self_eq_true, decide_eq_decide, Bool.true_eq_false, or_false, false_or, or_true, true_or, and_false, false_and, not_true_eq_false, not_false_eq_true, Bool.and_true, Bool.true_and, Bool.not_true, Bool.not_false] at *; omega)) ?_)
                     | (refine Exists.intro _ (Exists.intro _ (And.intro rfl ?_)))
                     | (refine Exists.intro _ (And.intro rfl ?_))
                     | (refine Exists.intro _ (Exists.intro _ (Exists.intro _ (Exists.intro _ (And.intro rfl ?_)))))
                     | (refine ld_step rfl (by assumption) rfl ?_)
                     | (refine lds_step rfl (by assumption) rfl ?_)
                     | (refine fL_mk ?_)
                     | (refine fH_mk ?_)
                     | (refine fN_mk ?_)
                     | (refine fLB_mk ?_)
                     | (refine And.intro (by repeat (first | assumption | refine GLB_app ?_)) ?_)
                     | (refine ld_step rfl ((rd_x0 _ _ _ _ _).trans rfl) rfl ?_)
                     | (refine ld_step rfl ((rd_x1 _ _ _ _ _ _).trans rfl) rfl ?_)
                     | (refine ld_step rfl ((rd_x2 _ _ _ _ _ _ _).trans rfl) rfl ?_)
                     | (refine lds_step rfl ((rd_x0 _ _ _ _ _).trans rfl) rfl ?_)
                     | (refine lds_step rfl ((rd_x1 _ _ _ _ _ _).trans rfl) rfl ?_)
                     | (refine lds_step rfl ((rd_x2 _ _ _ _ _ _ _).trans rfl) rfl ?_)
                     | (refine mem_step (st_eq rfl rfl rfl rfl (wr_last _ _ _ _ rfl)) ?_)
                     | (refine drec_yes (by omega) ?_)
                     | (refine drec_no (by omega) ?_)
                     | (intro _)
                     | fail)
            any_goals refine Halt.mk ?_
            any_goals show rC _ _ r3_7 _ _ _ _ _ _
            have he : (4 * (w.length : Int) == n) = true := by rw [hw]; exact beq_iff_eq.2 hn4.2.2
            repeat' (conv => whnf
                     first
                     | (refine Stop.mk ?_)
                     | (with_reducible refine fI_is (a := 4 * (w.length : Int)) rfl ?_)
                     | (refine fO_is he ?_)
                     | (refine fI_gen ?_; intro z hz)
                     | (refine fO_gen ?_; intro z hz)
                     | (refine ⟨_, _, c3, ?_⟩)
                     | (refine dec_true (by assumption) ?_)
                     | (refine dec_false (by assumption) ?_)
                     | (refine dec_split (fun h => ?_) (fun h => ?_))
                     | (apply silE)
                     | (exact And.intro rfl (And.intro rfl (And.intro rfl rfl)))
                     | (refine And.intro (by first | omega | ((simp only [decide_eq_true_eq, decide_eq_false_iff_not, Bool.and_eq_true, beq_iff_eq, Bool.not_eq_true', Bool.not_eq_false'] at *); omega) | (subst_vars; simp only [Int.ofNat_eq_natCast, tq_not, fq_not, tq_and, fq_and, tq_or, fq_or, tq_beq, fq_beq, tq_bne, fq_bne, tq_dec, fq_dec, one1, V.tup.injEq, V.agg.injEq, List.cons.injEq, V.int.injEq, V.bool.injEq, true_and, and_true, decide_eq_true_eq, decide_eq_false_iff_not, Bool.and_eq_true, Bool.and_eq_false_iff, Bool.or_eq_true, Bool.or_eq_false_iff, Bool.not_eq_true', Bool.not_eq_false', beq_iff_eq, wrap_u32, wrap_i64, wrap_u8, beq_eq_false_iff_ne, ne_eq, bne_iff_ne, bne_eq_false_iff_eq, eq_self, and_self, splice, V.cells, List.take_succ_cons, List.take_zero, List.take_nil, List.drop_zero, List.drop_succ_cons, List.drop_nil, List.cons_append, List.nil_append, List.append_nil, List.length_cons, List.length_nil, Nat.zero_add, Nat.reduceAdd, if_true, if_false, Bool.false_eq_true, beq_self_eq_true, decide_eq_decide, Bool.true_eq_false, or_false, false_or, or_true, true_or, and_false, false_and, not_true_eq_false, not_false_eq_true, Bool.and_true, Bool.true_and, Bool.not_true, Bool.not_false] at *; omega)) ?_)
                     | (refine Exists.intro _ (Exists.intro _ (And.intro rfl ?_)))
                     | (refine Exists.intro _ (And.intro rfl ?_))
                     | (refine Exists.intro _ (Exists.intro _ (Exists.intro _ (Exists.intro _ (And.intro rfl ?_)))))
                     | (refine ld_step rfl (by assumption) rfl ?_)
                     | (refine lds_step rfl (by assumption) rfl ?_)
                     | (refine fL_mk ?_)
                     | (refine fH_mk ?_)
                     | (refine fN_mk ?_)
                     | (refine fLB_mk ?_)
                     | (refine And.intro (by repeat (first | assumption | refine GLB_app ?_)) ?_)
                     | (refine ld_step rfl ((rd_x0 _ _ _ _ _).trans rfl) rfl ?_)
                     | (refine ld_step rfl ((rd_x1 _ _ _ _ _ _).trans rfl) rfl ?_)
                     | (refine ld_step rfl ((rd_x2 _ _ _ _ _ _ _).trans rfl) rfl ?_)
                     | (refine lds_step rfl ((rd_x0 _ _ _ _ _).trans rfl) rfl ?_)
                     | (refine lds_step rfl ((rd_x1 _ _ _ _ _ _).trans rfl) rfl ?_)
                     | (refine lds_step rfl ((rd_x2 _ _ _ _ _ _ _).trans rfl) rfl ?_)
                     | (refine mem_step (st_eq rfl rfl rfl rfl (wr_last _ _ _ _ rfl)) ?_)
                     | (refine drec_yes (by omega) ?_)
                     | (refine drec_no (by omega) ?_)
                     | (intro _)
                     | fail)
            conv => whnf
            exact leafH hq rfl (by rw [List.append_assoc, List.take_append_of_le_length (by omega)]; exact t2)
      · have hgt : decide ((l.length : Int) > 100) = true := decide_eq_true (by omega)
        repeat' (conv => whnf
                 first
                 | (refine Stop.mk ?_)
                 | (with_reducible refine fI_is (a := (l.length : Int)) rfl ?_)
                 | (with_reducible refine fO_is hgt ?_)
                 | (refine fI_gen ?_; intro z hz)
                 | (refine fO_gen ?_; intro z hz)
                 | (refine dec_true (by assumption) ?_)
                 | (refine dec_false (by assumption) ?_)
                 | (refine dec_split (fun h => ?_) (fun h => ?_))
                 | (apply silE)
                 | (exact And.intro rfl (And.intro rfl (And.intro rfl rfl)))
                 | (refine And.intro (by first | omega | ((simp only [decide_eq_true_eq, decide_eq_false_iff_not, Bool.and_eq_true, beq_iff_eq, Bool.not_eq_true', Bool.not_eq_false'] at *); omega) | (subst_vars; simp only [Int.ofNat_eq_natCast, tq_not, fq_not, tq_and, fq_and, tq_or, fq_or, tq_beq, fq_beq, tq_bne, fq_bne, tq_dec, fq_dec, one1, V.tup.injEq, V.agg.injEq, List.cons.injEq, V.int.injEq, V.bool.injEq, true_and, and_true, decide_eq_true_eq, decide_eq_false_iff_not, Bool.and_eq_true, Bool.and_eq_false_iff, Bool.or_eq_true, Bool.or_eq_false_iff, Bool.not_eq_true', Bool.not_eq_false', beq_iff_eq, wrap_u32, wrap_i64, wrap_u8, beq_eq_false_iff_ne, ne_eq, bne_iff_ne, bne_eq_false_iff_eq, eq_self, and_self, splice, V.cells, List.take_succ_cons, List.take_zero, List.take_nil, List.drop_zero, List.drop_succ_cons, List.drop_nil, List.cons_append, List.nil_append, List.append_nil, List.length_cons, List.length_nil, Nat.zero_add, Nat.reduceAdd, if_true, if_false, Bool.false_eq_true, beq_self_eq_true, decide_eq_decide, Bool.true_eq_false, or_false, false_or, or_true, true_or, and_false, false_and, not_true_eq_false, not_false_eq_true, Bool.and_true, Bool.true_and, Bool.not_true, Bool.not_false] at *; omega)) ?_)
                 | (refine Exists.intro _ (Exists.intro _ (And.intro rfl ?_)))
                 | (refine Exists.intro _ (And.intro rfl ?_))
                 | (refine Exists.intro _ (Exists.intro _ (Exists.intro _ (Exists.intro _ (And.intro rfl ?_)))))
                 | (refine ld_step rfl (by assumption) rfl ?_)
                 | (refine lds_step rfl (by assumption) rfl ?_)
                 | (refine fL_mk ?_)
                 | (refine fH_mk ?_)
                 | (refine fN_mk ?_)
                 | (refine fLB_mk ?_)
                 | (refine And.intro (by repeat (first | assumption | refine GLB_app ?_)) ?_)
                 | (refine ld_step rfl ((rd_x0 _ _ _ _ _).trans rfl) rfl ?_)
                 | (refine ld_step rfl ((rd_x1 _ _ _ _ _ _).trans rfl) rfl ?_)
                 | (refine ld_step rfl ((rd_x2 _ _ _ _ _ _ _).trans rfl) rfl ?_)
                 | (refine lds_step rfl ((rd_x0 _ _ _ _ _).trans rfl) rfl ?_)
                 | (refine lds_step rfl ((rd_x1 _ _ _ _ _ _).trans rfl) rfl ?_)
                 | (refine lds_step rfl ((rd_x2 _ _ _ _ _ _ _).trans rfl) rfl ?_)
                 | (refine mem_step (st_eq rfl rfl rfl rfl (wr_last _ _ _ _ rfl)) ?_)
                 | (refine drec_yes (by omega) ?_)
                 | (refine drec_no (by omega) ?_)
                 | (intro _)
                 | fail)
        conv => whnf
        exact leafH hq rfl t1
    · refine rC_seqH ?_
      repeat' (conv => whnf
               first
               | (refine Stop.mk ?_)
               | (refine fI_gen ?_; intro z hz)
               | (refine fO_gen ?_; intro z hz)
               | (refine dec_true (by assumption) ?_)
               | (refine dec_false (by assumption) ?_)
               | (refine dec_split (fun h => ?_) (fun h => ?_))
               | (apply silE)
               | (exact And.intro rfl (And.intro rfl (And.intro rfl rfl)))
               | (refine And.intro (by first | omega | ((simp only [decide_eq_true_eq, decide_eq_false_iff_not, Bool.and_eq_true, beq_iff_eq, Bool.not_eq_true', Bool.not_eq_false'] at *); omega) | (subst_vars; simp only [Int.ofNat_eq_natCast, tq_not, fq_not, tq_and, fq_and, tq_or, fq_or, tq_beq, fq_beq, tq_bne, fq_bne, tq_dec, fq_dec, one1, V.tup.injEq, V.agg.injEq, List.cons.injEq, V.int.injEq, V.bool.injEq, true_and, and_true, decide_eq_true_eq, decide_eq_false_iff_not, Bool.and_eq_true, Bool.and_eq_false_iff, Bool.or_eq_true, Bool.or_eq_false_iff, Bool.not_eq_true', Bool.not_eq_false', beq_iff_eq, wrap_u32, wrap_i64, wrap_u8, beq_eq_false_iff_ne, ne_eq, bne_iff_ne, bne_eq_false_iff_eq, eq_self, and_self, splice, V.cells, List.take_succ_cons, List.take_zero, List.take_nil, List.drop_zero, List.drop_succ_cons, List.drop_nil, List.cons_append, List.nil_append, List.append_nil, List.length_cons, List.length_nil, Nat.zero_add, Nat.reduceAdd, if_true, if_false, Bool.false_eq_true, beq_self_eq_true, decide_eq_decide, Bool.true_eq_false, or_false, false_or, or_true, true_or, and_false, false_and, not_true_eq_false, not_false_eq_true, Bool.and_true, Bool.true_and, Bool.not_true, Bool.not_false] at *; omega)) ?_)
               | (refine Exists.intro _ (Exists.intro _ (And.intro rfl ?_)))
               | (refine Exists.intro _ (And.intro rfl ?_))
               | (refine Exists.intro _ (Exists.intro _ (Exists.intro _ (Exists.intro _ (And.intro rfl ?_)))))
               | (refine ld_step rfl (by assumption) rfl ?_)
               | (refine lds_step rfl (by assumption) rfl ?_)
               | (refine fL_mk ?_)
               | (refine fH_mk ?_)
               | (refine fN_mk ?_)
               | (refine fLB_mk ?_)
               | (refine And.intro (by repeat (first | assumption | refine GLB_app ?_)) ?_)
               | (refine ld_step rfl ((rd_x0 _ _ _ _ _).trans rfl) rfl ?_)
               | (refine ld_step rfl ((rd_x1 _ _ _ _ _ _).trans rfl) rfl ?_)
               | (refine ld_step rfl ((rd_x2 _ _ _ _ _ _ _).trans rfl) rfl ?_)
               | (refine lds_step rfl ((rd_x0 _ _ _ _ _).trans rfl) rfl ?_)
               | (refine lds_step rfl ((rd_x1 _ _ _ _ _ _).trans rfl) rfl ?_)
               | (refine lds_step rfl ((rd_x2 _ _ _ _ _ _ _).trans rfl) rfl ?_)
               | (refine mem_step (st_eq rfl rfl rfl rfl (wr_last _ _ _ _ rfl)) ?_)
               | (refine drec_yes (by omega) ?_)
               | (refine drec_no (by omega) ?_)
               | (intro _)
               | fail)
      any_goals refine Halt.mk ?_
      any_goals show rC _ _ r3_1 _ _ _ _ _ _
      refine rC_seqH ?_
      repeat' (conv => whnf
               first
               | (refine Stop.mk ?_)
               | (refine fI_gen ?_; intro z hz)
               | (refine fO_gen ?_; intro z hz)
               | (refine ⟨hg, ?_⟩)
               | (refine dec_true (by assumption) ?_)
               | (refine dec_false (by assumption) ?_)
               | (refine dec_split (fun h => ?_) (fun h => ?_))
               | (apply silE)
               | (exact And.intro rfl (And.intro rfl (And.intro rfl rfl)))
               | (refine And.intro (by first | omega | ((simp only [decide_eq_true_eq, decide_eq_false_iff_not, Bool.and_eq_true, beq_iff_eq, Bool.not_eq_true', Bool.not_eq_false'] at *); omega) | (subst_vars; simp only [Int.ofNat_eq_natCast, tq_not, fq_not, tq_and, fq_and, tq_or, fq_or, tq_beq, fq_beq, tq_bne, fq_bne, tq_dec, fq_dec, one1, V.tup.injEq, V.agg.injEq, List.cons.injEq, V.int.injEq, V.bool.injEq, true_and, and_true, decide_eq_true_eq, decide_eq_false_iff_not, Bool.and_eq_true, Bool.and_eq_false_iff, Bool.or_eq_true, Bool.or_eq_false_iff, Bool.not_eq_true', Bool.not_eq_false', beq_iff_eq, wrap_u32, wrap_i64, wrap_u8, beq_eq_false_iff_ne, ne_eq, bne_iff_ne, bne_eq_false_iff_eq, eq_self, and_self, splice, V.cells, List.take_succ_cons, List.take_zero, List.take_nil, List.drop_zero, List.drop_succ_cons, List.drop_nil, List.cons_append, List.nil_append, List.append_nil, List.length_cons, List.length_nil, Nat.zero_add, Nat.reduceAdd, if_true, if_false, Bool.false_eq_true, beq_self_eq_true, decide_eq_decide, Bool.true_eq_false, or_false, false_or, or_true, true_or, and_false, false_and, not_true_eq_false, not_false_eq_true, Bool.and_true, Bool.true_and, Bool.not_true, Bool.not_false] at *; omega)) ?_)
               | (refine Exists.intro _ (Exists.intro _ (And.intro rfl ?_)))
               | (refine Exists.intro _ (And.intro rfl ?_))
               | (refine Exists.intro _ (Exists.intro _ (Exists.intro _ (Exists.intro _ (And.intro rfl ?_)))))
               | (refine ld_step rfl (by assumption) rfl ?_)
               | (refine lds_step rfl (by assumption) rfl ?_)
               | (refine fL_mk ?_)
               | (refine fH_mk ?_)
               | (refine fN_mk ?_)
               | (refine fLB_mk ?_)
               | (refine And.intro (by repeat (first | assumption | refine GLB_app ?_)) ?_)
               | (refine ld_step rfl ((rd_x0 _ _ _ _ _).trans rfl) rfl ?_)
               | (refine ld_step rfl ((rd_x1 _ _ _ _ _ _).trans rfl) rfl ?_)
               | (refine ld_step rfl ((rd_x2 _ _ _ _ _ _ _).trans rfl) rfl ?_)
               | (refine lds_step rfl ((rd_x0 _ _ _ _ _).trans rfl) rfl ?_)
               | (refine lds_step rfl ((rd_x1 _ _ _ _ _ _).trans rfl) rfl ?_)
               | (refine lds_step rfl ((rd_x2 _ _ _ _ _ _ _).trans rfl) rfl ?_)
               | (refine mem_step (st_eq rfl rfl rfl rfl (wr_last _ _ _ _ rfl)) ?_)
               | (refine drec_yes (by omega) ?_)
               | (refine drec_no (by omega) ?_)
               | (intro _)
               | fail)
      any_goals refine Halt.mk ?_
      any_goals show rC _ _ r3_2 _ _ _ _ _ _
      repeat' (conv => whnf
               first
               | (refine Stop.mk ?_)
               | (refine fI_gen ?_; intro z hz)
               | (refine fO_gen ?_; intro z hz)
               | (refine ⟨hp.1, fun h => absurd h h0, fun _ => ?_⟩)
               | (refine dec_true (by assumption) ?_)
               | (refine dec_false (by assumption) ?_)
               | (refine dec_split (fun h => ?_) (fun h => ?_))
               | (apply silE)
               | (exact And.intro rfl (And.intro rfl (And.intro rfl rfl)))
               | (refine And.intro (by first | omega | ((simp only [decide_eq_true_eq, decide_eq_false_iff_not, Bool.and_eq_true, beq_iff_eq, Bool.not_eq_true', Bool.not_eq_false'] at *); omega) | (subst_vars; simp only [Int.ofNat_eq_natCast, tq_not, fq_not, tq_and, fq_and, tq_or, fq_or, tq_beq, fq_beq, tq_bne, fq_bne, tq_dec, fq_dec, one1, V.tup.injEq, V.agg.injEq, List.cons.injEq, V.int.injEq, V.bool.injEq, true_and, and_true, decide_eq_true_eq, decide_eq_false_iff_not, Bool.and_eq_true, Bool.and_eq_false_iff, Bool.or_eq_true, Bool.or_eq_false_iff, Bool.not_eq_true', Bool.not_eq_false', beq_iff_eq, wrap_u32, wrap_i64, wrap_u8, beq_eq_false_iff_ne, ne_eq, bne_iff_ne, bne_eq_false_iff_eq, eq_self, and_self, splice, V.cells, List.take_succ_cons, List.take_zero, List.take_nil, List.drop_zero, List.drop_succ_cons, List.drop_nil, List.cons_append, List.nil_append, List.append_nil, List.length_cons, List.length_nil, Nat.zero_add, Nat.reduceAdd, if_true, if_false, Bool.false_eq_true, beq_self_eq_true, decide_eq_decide, Bool.true_eq_false, or_false, false_or, or_true, true_or, and_false, false_and, not_true_eq_false, not_false_eq_true, Bool.and_true, Bool.true_and, Bool.not_true, Bool.not_false] at *; omega)) ?_)
               | (refine Exists.intro _ (Exists.intro _ (And.intro rfl ?_)))
               | (refine Exists.intro _ (And.intro rfl ?_))
               | (refine Exists.intro _ (Exists.intro _ (Exists.intro _ (Exists.intro _ (And.intro rfl ?_)))))
               | (refine ld_step rfl (by assumption) rfl ?_)
               | (refine lds_step rfl (by assumption) rfl ?_)
               | (refine fL_mk ?_)
               | (refine fH_mk ?_)
               | (refine fN_mk ?_)
               | (refine fLB_mk ?_)
               | (refine And.intro (by repeat (first | assumption | refine GLB_app ?_)) ?_)
               | (refine ld_step rfl ((rd_x0 _ _ _ _ _).trans rfl) rfl ?_)
               | (refine ld_step rfl ((rd_x1 _ _ _ _ _ _).trans rfl) rfl ?_)
               | (refine ld_step rfl ((rd_x2 _ _ _ _ _ _ _).trans rfl) rfl ?_)
               | (refine lds_step rfl ((rd_x0 _ _ _ _ _).trans rfl) rfl ?_)
               | (refine lds_step rfl ((rd_x1 _ _ _ _ _ _).trans rfl) rfl ?_)
               | (refine lds_step rfl ((rd_x2 _ _ _ _ _ _ _).trans rfl) rfl ?_)
               | (refine mem_step (st_eq rfl rfl rfl rfl (wr_last _ _ _ _ rfl)) ?_)
               | (refine drec_yes (by omega) ?_)
               | (refine drec_no (by omega) ?_)
               | (intro _)
               | fail)
      conv => whnf
      exact leafE hq rfl
  · exact hs.elim
theorem encD_typ (c : List Value) (h : CellsW [some .i64, some .i64, some .i64, some .u32] c) : ∃ d, okD d ∧ ∀ j, c = (encD d).map (conc j) := by
  obtain ⟨a, c, rfl, ha, h⟩ := cellsW_int h
  obtain ⟨b, c, rfl, hb, h⟩ := cellsW_int h
  obtain ⟨d, c, rfl, hd, h⟩ := cellsW_int h
  obtain ⟨e, c, rfl, he, h⟩ := cellsW_int h
  obtain rfl := cellsW_nil h
  exact ⟨(a, b, d, e), ⟨wf_i64 ha, wf_i64 hb, wf_i64 hd, wf_u32 he⟩, fun _ => rfl⟩
theorem encD_lt (d : D4) (m : Nat) : V.ltL m (encD d) = true := rfl
end Go.Ev
