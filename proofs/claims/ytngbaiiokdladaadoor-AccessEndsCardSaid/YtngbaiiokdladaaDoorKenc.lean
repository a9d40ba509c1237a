/- dev: records of accesses -/
import Derived.Test.YtngbaiiokdladaaDoorKof2
set_option linter.all false
namespace Go.Ev
open Go Go.Proofs
set_option maxRecDepth 4000
set_option maxHeartbeats 4000000
/-- a record's flags -/
def flV (wr : Bool) (n : Int) : Int := (if wr then 1 else 0) + (if n = 2 then 2 else if n = 4 then 4 else 0)
def s27 : Sp := fun vs H Q => match vs with
  | [.agg [.int .i64 w, .bool wr, .int .u32 a, .int .i64 n, .int .u32 d]] => Q (.int .u8 (flV wr n)) H false false
  | _ => False
theorem k27 : Snd Tryd.prog 1 27 s27 := by
  refine snd_of_ev (by kernel_rfl) (C := tab []) (sndC_nil) x27 n27 c27 30 ?_
  intro vs H Q hs
  unfold s27 at hs
  split at hs
  · rename_i w wr a n d
    have hq := hs; clear hs
    repeat' (conv => whnf
             first | (refine Stop.mk ?_) | (refine fI_gen ?_; intro z hz) | (refine fO_gen ?_; intro z hz) | (refine dec_true (by assumption) ?_) | (refine dec_false (by assumption) ?_) | (refine dec_split (fun h => ?_) (fun h => ?_)) | (apply silE) | (refine Both.mk ?_ ?_) | (refine And.intro rfl ?_) | (exact And.intro rfl (And.intro rfl (And.intro rfl rfl))) | (refine And.intro (by first | omega | ((simp only [decide_eq_true_eq, decide_eq_false_iff_not, Bool.and_eq_true, beq_iff_eq, Bool.not_eq_true', Bool.not_eq_false'] at *); omega) | (subst_vars; simp only [Int.ofNat_eq_natCast, tq_not, fq_not, tq_and, fq_and, tq_or, fq_or, tq_beq, fq_beq, tq_bne, fq_bne, tq_dec, fq_dec, one1, V.tup.injEq, V.agg.injEq, List.cons.injEq, V.int.injEq, V.bool.injEq, true_and, and_true, decide_eq_true_eq, decide_eq_false_iff_not, Bool.and_eq_true, Bool.and_eq_false_iff, Bool.or_eq_true, Bool.or_eq_false_iff, Bool.not_eq_true', Bool.not_eq_false', beq_iff_eq, wrap_u32, wrap_i64, wrap_u8, beq_eq_false_iff_ne, ne_eq, bne_iff_ne, bne_eq_false_iff_eq, eq_self, and_self, splice, V.cells, List.take_succ_cons, List.take_zero, List.take_nil, List.drop_zero, List.drop_succ_cons, List.drop_nil, List.cons_append, List.nil_append, List.append_nil, List.length_cons, List.length_nil, Nat.zero_add, Nat.reduceAdd, if_true, if_false, Bool.false_eq_true, beq_self_eq_true, decide_eq_decide, Bool.true_eq_false, or_false, false_or, or_true, true_or, and_false, false_and, not_true_eq_false, not_false_eq_true, Bool.and_true, Bool.true_and, Bool.not_true, Bool.not_false] at *; omega)) ?_) | (refine Exists.intro _ (Exists.intro _ (And.intro rfl ?_))) | (refine Exists.intro _ (And.intro rfl ?_)) | (refine Exists.intro _ (Exists.intro _ (Exists.intro _ (Exists.intro _ (And.intro rfl ?_))))) | (refine ld_step rfl (by assumption) rfl ?_) | (refine lds_step rfl (by assumption) rfl ?_) | (refine fL_mk ?_) | (refine fH_mk ?_) | (refine fN_mk ?_) | (refine fLB_mk ?_) | (refine And.intro (by repeat (first | assumption | refine GLB_app ?_)) ?_) | (refine ld_step rfl ((rd_x0 _ _ _ _ _).trans rfl) rfl ?_) | (refine ld_step rfl ((rd_x1 _ _ _ _ _ _).trans rfl) rfl ?_) | (refine ld_step rfl ((rd_x2 _ _ _ _ _ _ _).trans rfl) rfl ?_) | (refine lds_step rfl ((rd_x0 _ _ _ _ _).trans rfl) rfl ?_) | (refine lds_step rfl ((rd_x1 _ _ _ _ _ _).trans rfl) rfl ?_) | (refine lds_step rfl ((rd_x2 _ _ _ _ _ _ _).trans rfl) rfl ?_) | (refine mem_step (st_eq rfl rfl rfl rfl (wr_last _ _ _ _ rfl)) ?_) | (refine drec_yes (by omega) ?_) | (refine drec_no (by omega) ?_) | (intro _) | fail)
    all_goals (conv => whnf)
    all_goals
      refine leafE hq ?_
      clear hq
      subst_vars
      simp only [one1, flV, beq_iff_eq, beq_eq_false_iff_ne] at *
      simp [*]
  · exact hs.elim
/-- 'append' of zeros to nothing -/
theorem appz_nil {tm : List SV} {L : List LB} {H : List B} {e g : Bool} {ty : TypeId} {bytes : Nat} {zs : List V} {x y : Opd} {K : KV} {k : IntKind} {l : Int} (hx : x.val tm = some (.sl none 0 0)) (hy : y.val tm = some (.int k l)) (hl : 0 < l ∧ l ≤ 4096) (hb : bytes ≤ 64)
    (hK : ∀ c, l.toNat ≤ c + 1 → K (.v (.sl (some (H.length, 0)) l.toNat (c + 1))) L (H ++ [.rw ty (reps l.toNat zs ++ reps (c + 1 - l.toNat) zs)]) e true) : AtApp (evApp tm L H e g ty 0 bytes zs x y K) := by
  refine AtApp.mk ?_
  show evAppz tm L H e ty bytes zs x y K
  unfold evAppz
  rw [hx, hy]
  refine ⟨hl.1, by omega, ?_⟩
  have hbb : (0 + l.toNat) * bytes ≤ 4096 * 64 := Nat.mul_le_mul (by omega) hb
  refine ⟨by omega, by omega, fun c h1 h2 => ?_⟩
  obtain ⟨c, rfl⟩ : ∃ c', c = c' + 1 := ⟨c - 1, by omega⟩
  have := hK c (by omega)
  simpa only [Nat.zero_add, List.nil_append] using this
def s58 : Sp := fun vs H Q => match vs with
  | [.sl none 0 0, .int .i64 n] => (1 ≤ n ∧ n ≤ 4096) ∧ ∀ (cap : Nat) (zs : List V), n.toNat ≤ cap → zs.length = cap → Q (.sl (some (H.length, 0)) 0 cap) (H ++ [.rw 5 zs]) false true
  | _ => False
theorem m58 : Mono s58 := by
  intro vs H Q Q' hQ h
  unfold s58 at h ⊢
  split at h
  all_goals first
    | exact h.elim
    | (repeat' (first | exact hQ _ _ _ _ h | refine And.imp_right (fun h => ?_) h | refine Exists.imp (fun _ h => ?_) h | (intro z; replace h := h z)))
theorem k58 : Snd Tryd.prog 1 58 s58 := by
  refine snd_of_ev (by kernel_rfl) (C := tab []) (sndC_nil) x58 n58 c58 30 ?_
  intro vs H Q hs
  unfold s58 at hs
  split at hs
  · rename_i n
    obtain ⟨hn, hq⟩ := hs
    repeat' (conv => whnf
             first | (refine Stop.mk ?_) | (refine fI_i64 (by first | omega | (simp only [Int.ofNat_eq_natCast] at *; omega)) ?_; intro z hz) | (refine fI_u32 (by first | omega | (simp only [Int.ofNat_eq_natCast] at *; omega)) ?_; intro z hz) | (refine fI_u8 (by first | omega | (simp only [Int.ofNat_eq_natCast] at *; omega)) ?_; intro z hz) | (refine fI_u64 (by first | omega | (simp only [Int.ofNat_eq_natCast] at *; omega)) ?_; intro z hz) | (refine fI_tdiv (by first | omega | (simp only [Int.ofNat_eq_natCast] at *; omega)) ?_; intro z hz) | (refine fI_tmod (by first | omega | (simp only [Int.ofNat_eq_natCast] at *; omega)) ?_; intro z hz) | (refine fI_gen ?_; intro z hz) | (refine fO_gen ?_; intro z hz) | (refine appz_nil rfl rfl (by simp only [Int.ofNat_eq_natCast] at *; omega) (by decide) ?_; intro c hc) | (refine dec_true (by assumption) ?_) | (refine dec_false (by assumption) ?_) | ((with_reducible refine dec_trueH ?tst ?_); (case tst => (first | rfl | ((try clear hC); (try clear kn); (try clear kx); (try clear kr); (try clear kn1); (try clear kx1); (try clear kr1); (try clear kn2); (try clear kx2); (try clear kr2); (try clear kn3); (try clear kx3); (try clear kr3); subst_vars; simp only [Int.ofNat_eq_natCast, tq_not, fq_not, tq_and, fq_and, tq_or, fq_or, tq_beq, fq_beq, tq_bne, fq_bne, tq_dec, fq_dec, one1, V.tup.injEq, V.agg.injEq, List.cons.injEq, V.int.injEq, V.bool.injEq, true_and, and_true, decide_eq_true_eq, decide_eq_false_iff_not, Bool.and_eq_true, Bool.and_eq_false_iff, Bool.or_eq_true, Bool.or_eq_false_iff, Bool.not_eq_true', Bool.not_eq_false', beq_iff_eq, wrap_u32, wrap_i64, wrap_u8, beq_eq_false_iff_ne, ne_eq, bne_iff_ne, bne_eq_false_iff_eq, eq_self, and_self, splice, V.cells, List.take_succ_cons, List.take_zero, List.take_nil, List.drop_zero, List.drop_succ_cons, List.drop_nil, List.cons_append, List.nil_append, List.append_nil, List.length_cons, List.length_nil, Nat.zero_add, Nat.reduceAdd, if_true, if_false, Bool.false_eq_true, beq_self_eq_true, decide_eq_decide, Bool.true_eq_false, or_false, false_or, or_true, true_or, and_false, false_and, not_true_eq_false, not_false_eq_true, Bool.and_true, Bool.true_and, Bool.not_true, Bool.not_false] at *; first | done | assumption | omega))); intro h) | ((with_reducible refine dec_falseH ?tst ?_); (case tst => (first | rfl | ((try clear hC); (try clear kn); (try clear kx); (try clear kr); (try clear kn1); (try clear kx1); (try clear kr1); (try clear kn2); (try clear kx2); (try clear kr2); (try clear kn3); (try clear kx3); (try clear kr3); subst_vars; simp only [Int.ofNat_eq_natCast, tq_not, fq_not, tq_and, fq_and, tq_or, fq_or, tq_beq, fq_beq, tq_bne, fq_bne, tq_dec, fq_dec, one1, V.tup.injEq, V.agg.injEq, List.cons.injEq, V.int.injEq, V.bool.injEq, true_and, and_true, decide_eq_true_eq, decide_eq_false_iff_not, Bool.and_eq_true, Bool.and_eq_false_iff, Bool.or_eq_true, Bool.or_eq_false_iff, Bool.not_eq_true', Bool.not_eq_false', beq_iff_eq, wrap_u32, wrap_i64, wrap_u8, beq_eq_false_iff_ne, ne_eq, bne_iff_ne, bne_eq_false_iff_eq, eq_self, and_self, splice, V.cells, List.take_succ_cons, List.take_zero, List.take_nil, List.drop_zero, List.drop_succ_cons, List.drop_nil, List.cons_append, List.nil_append, List.append_nil, List.length_cons, List.length_nil, Nat.zero_add, Nat.reduceAdd, if_true, if_false, Bool.false_eq_true, beq_self_eq_true, decide_eq_decide, Bool.true_eq_false, or_false, false_or, or_true, true_or, and_false, false_and, not_true_eq_false, not_false_eq_true, Bool.and_true, Bool.true_and, Bool.not_true, Bool.not_false] at *; first | done | assumption | omega))); intro h) | (refine dec_split (fun h => ?_) (fun h => ?_)) | (apply silE) | (refine Both.mk ?_ ?_) | (refine And.intro rfl ?_) | (exact And.intro rfl (And.intro rfl (And.intro rfl rfl))) | (refine And.intro (by first | omega | ((simp only [decide_eq_true_eq, decide_eq_false_iff_not, Bool.and_eq_true, beq_iff_eq, Bool.not_eq_true', Bool.not_eq_false'] at *); omega) | (subst_vars; simp only [Int.ofNat_eq_natCast, tq_not, fq_not, tq_and, fq_and, tq_or, fq_or, tq_beq, fq_beq, tq_bne, fq_bne, tq_dec, fq_dec, one1, V.tup.injEq, V.agg.injEq, List.cons.injEq, V.int.injEq, V.bool.injEq, true_and, and_true, decide_eq_true_eq, decide_eq_false_iff_not, Bool.and_eq_true, Bool.and_eq_false_iff, Bool.or_eq_true, Bool.or_eq_false_iff, Bool.not_eq_true', Bool.not_eq_false', beq_iff_eq, wrap_u32, wrap_i64, wrap_u8, beq_eq_false_iff_ne, ne_eq, bne_iff_ne, bne_eq_false_iff_eq, eq_self, and_self, splice, V.cells, List.take_succ_cons, List.take_zero, List.take_nil, List.drop_zero, List.drop_succ_cons, List.drop_nil, List.cons_append, List.nil_append, List.append_nil, List.length_cons, List.length_nil, Nat.zero_add, Nat.reduceAdd, if_true, if_false, Bool.false_eq_true, beq_self_eq_true, decide_eq_decide, Bool.true_eq_false, or_false, false_or, or_true, true_or, and_false, false_and, not_true_eq_false, not_false_eq_true, Bool.and_true, Bool.true_and, Bool.not_true, Bool.not_false] at *; omega)) ?_) | (refine Exists.intro _ (Exists.intro _ (And.intro rfl ?_))) | (refine Exists.intro _ (And.intro rfl ?_)) | (refine Exists.intro _ (Exists.intro _ (Exists.intro _ (Exists.intro _ (And.intro rfl ?_))))) | (refine ld_step rfl (by assumption) rfl ?_) | (refine lds_step rfl (by assumption) rfl ?_) | (refine fL_mk ?_) | (refine fH_mk ?_) | (refine fN_mk ?_) | (refine fLB_mk ?_) | (refine And.intro (by repeat (first | assumption | refine GLB_app ?_)) ?_) | (refine ld_step rfl ((rd_x0 _ _ _ _ _).trans rfl) rfl ?_) | (refine ld_step rfl ((rd_x1 _ _ _ _ _ _).trans rfl) rfl ?_) | (refine ld_step rfl ((rd_x2 _ _ _ _ _ _ _).trans rfl) rfl ?_) | (refine lds_step rfl ((rd_x0 _ _ _ _ _).trans rfl) rfl ?_) | (refine lds_step rfl ((rd_x1 _ _ _ _ _ _).trans rfl) rfl ?_) | (refine lds_step rfl ((rd_x2 _ _ _ _ _ _ _).trans rfl) rfl ?_) | (refine mem_step (st_eq rfl rfl rfl rfl (wr_last _ _ _ _ rfl)) ?_) | (refine drec_yes (by omega) ?_) | (refine drec_no (by omega) ?_) | (intro _) | fail)
    all_goals (conv => whnf)
    all_goals
      refine drec_no (by simp [one1, V.lt]) ?_
      subst_vars
      exact hq (c + 1) _ (by simp only [Int.ofNat_eq_natCast] at *; omega) (by simp [reps_len]; simp only [Int.ofNat_eq_natCast] at *; omega)
  · exact hs.elim
theorem encB_one (l : List Int) : (l.flatMap encB).all V.one = true := by
  induction l with
  | nil => rfl
  | cons a l ih => rw [List.flatMap_cons, List.all_append, ih]; rfl
theorem encB_lt (l : List Int) : V.ltL 0 (l.flatMap encB) = true := by
  rw [ltL_iff]
  intro v hv
  obtain ⟨x, _, hx⟩ := List.mem_flatMap.1 hv
  simp only [encB, List.mem_cons, List.not_mem_nil, or_false] at hx
  subst hx; rfl
theorem own_empty {H : List B} {cap : Nat} {zs : List V} (h : zs.length = cap) : Own H.length (H ++ [.rw 5 zs]) 5 1 (.sl (some (H.length, 0)) 0 cap) ([] : List V) :=
  ⟨0, cap, rfl, rfl, Or.inr ⟨H.length, zs, rfl, Nat.le_refl _, Nat.zero_le _, by simpa using h, List.getElem?_concat_length⟩⟩
def s44 : Sp := fun vs H Q => match vs with
  | [.sl (some (b, o)) 3 cp] => ∃ (p1 p2 p3 : Nat × Nat) (c1 c2 c3 : Nat) (l1 l2 l3 : List Int), rd H b o 3 = some [.sl (some p1) l1.length c1, .sl (some p2) l2.length c2, .sl (some p3) l3.length c3] ∧ (RdB H (some p1) l1 ∧ RdB H (some p2) l2 ∧ RdB H (some p3) l3) ∧ (1 ≤ l1.length ∧ 1 ≤ l2.length ∧ 1 ≤ l3.length ∧ l1.length + l2.length + l3.length ≤ 4096) ∧ OwnB H (l1 ++ l2 ++ l3) Q
  | _ => False
theorem k44 : Snd Tryd.prog 1 44 s44 := by
  refine snd_of_ev (by kernel_rfl) (C := tab [(58, s58)]) (sndC_cons k58 (sndC_nil)) x44 n44 c44 30 ?_
  have hC : MonoC (tab [(58, s58)]) := monoC_cons m58 (monoC_nil)
  intro vs H Q hs
  unfold s44 at hs
  split at hs
  · rename_i b o cp
    obtain ⟨⟨b1, o1⟩, ⟨b2, o2⟩, ⟨b3, o3⟩, c1, c2, c3, l1, l2, l3, hr, ⟨d1, d2, d3⟩, hn, hq⟩ := hs
    have r0 := rd_sub hr 0 1 (by omega)
    have r1 := rd_sub hr 1 1 (by omega)
    have r2 := rd_sub hr 2 1 (by omega)
    simp only [List.drop_zero, List.drop_succ_cons, List.take_succ_cons, List.take_zero] at r0 r1 r2
    clear hr
    repeat' (conv => whnf
             first | (refine Stop.mk ?_) | (refine fI_i64 (by first | omega | (simp only [Int.ofNat_eq_natCast] at *; omega)) ?_; intro z hz) | (refine fI_u32 (by first | omega | (simp only [Int.ofNat_eq_natCast] at *; omega)) ?_; intro z hz) | (refine fI_u8 (by first | omega | (simp only [Int.ofNat_eq_natCast] at *; omega)) ?_; intro z hz) | (refine fI_u64 (by first | omega | (simp only [Int.ofNat_eq_natCast] at *; omega)) ?_; intro z hz) | (refine fI_tdiv (by first | omega | (simp only [Int.ofNat_eq_natCast] at *; omega)) ?_; intro z hz) | (refine fI_tmod (by first | omega | (simp only [Int.ofNat_eq_natCast] at *; omega)) ?_; intro z hz) | (refine fI_gen ?_; intro z hz) | (refine fO_gen ?_; intro z hz) | (refine pure_step (ixs_eq rfl rfl (by decide) (by decide)) ?_) | (refine ld_step rfl r0 rfl ?_) | (refine ld_step rfl r1 rfl ?_) | (refine ld_step rfl r2 rfl ?_) | (refine ld_step rfl (rd_app r0 _) rfl ?_) | (refine ld_step rfl (rd_app r1 _) rfl ?_) | (refine ld_step rfl (rd_app r2 _) rfl ?_) | (refine And.intro (by omega) ?_; intro cap zs hcap hzs; have w0 := own_empty (H := H) hzs) | (refine app_own1 rfl rfl rfl w2 (news_eq (rd_app d3 _) (encB_one _)) rfl (flat_len encB_len _) (encB_one _) (by omega) (by omega) (by simp only [List.length_append, flat_len encB_len, List.length_nil]; omega) (by simp only [List.length_append, flat_len encB_len, List.length_nil]; omega) (encB_lt _) ?_; intro w X3 g3 w3 hg3 hX3; clear w2) | (refine app_own1 rfl rfl rfl w1 (news_eq (rd_app d2 _) (encB_one _)) rfl (flat_len encB_len _) (encB_one _) (by omega) (by omega) (by simp only [List.length_append, flat_len encB_len, List.length_nil]; omega) (by simp only [List.length_append, flat_len encB_len, List.length_nil]; omega) (encB_lt _) ?_; intro w X2 g2 w2 hg2 hX2; clear w1) | (refine app_own1 rfl rfl rfl w0 (news_eq (rd_app d1 _) (encB_one _)) rfl (flat_len encB_len _) (encB_one _) (by omega) (by omega) (by simp only [List.length_append, flat_len encB_len, List.length_nil]; omega) (by simp only [List.length_append, flat_len encB_len, List.length_nil]; omega) (encB_lt _) ?_; intro w X1 g1 w1 hg1 hX1; clear w0) | (refine dec_true (by assumption) ?_) | (refine dec_false (by assumption) ?_) | ((with_reducible refine dec_trueH ?tst ?_); (case tst => (first | rfl | ((try clear hC); (try clear kn); (try clear kx); (try clear kr); (try clear kn1); (try clear kx1); (try clear kr1); (try clear kn2); (try clear kx2); (try clear kr2); (try clear kn3); (try clear kx3); (try clear kr3); subst_vars; simp only [Int.ofNat_eq_natCast, tq_not, fq_not, tq_and, fq_and, tq_or, fq_or, tq_beq, fq_beq, tq_bne, fq_bne, tq_dec, fq_dec, one1, V.tup.injEq, V.agg.injEq, List.cons.injEq, V.int.injEq, V.bool.injEq, true_and, and_true, decide_eq_true_eq, decide_eq_false_iff_not, Bool.and_eq_true, Bool.and_eq_false_iff, Bool.or_eq_true, Bool.or_eq_false_iff, Bool.not_eq_true', Bool.not_eq_false', beq_iff_eq, wrap_u32, wrap_i64, wrap_u8, beq_eq_false_iff_ne, ne_eq, bne_iff_ne, bne_eq_false_iff_eq, eq_self, and_self, splice, V.cells, List.take_succ_cons, List.take_zero, List.take_nil, List.drop_zero, List.drop_succ_cons, List.drop_nil, List.cons_append, List.nil_append, List.append_nil, List.length_cons, List.length_nil, Nat.zero_add, Nat.reduceAdd, if_true, if_false, Bool.false_eq_true, beq_self_eq_true, decide_eq_decide, Bool.true_eq_false, or_false, false_or, or_true, true_or, and_false, false_and, not_true_eq_false, not_false_eq_true, Bool.and_true, Bool.true_and, Bool.not_true, Bool.not_false] at *; first | done | assumption | omega))); intro h) | ((with_reducible refine dec_falseH ?tst ?_); (case tst => (first | rfl | ((try clear hC); (try clear kn); (try clear kx); (try clear kr); (try clear kn1); (try clear kx1); (try clear kr1); (try clear kn2); (try clear kx2); (try clear kr2); (try clear kn3); (try clear kx3); (try clear kr3); subst_vars; simp only [Int.ofNat_eq_natCast, tq_not, fq_not, tq_and, fq_and, tq_or, fq_or, tq_beq, fq_beq, tq_bne, fq_bne, tq_dec, fq_dec, one1, V.tup.injEq, V.agg.injEq, List.cons.injEq, V.int.injEq, V.bool.injEq, true_and, and_true, decide_eq_true_eq, decide_eq_false_iff_not, Bool.and_eq_true, Bool.and_eq_false_iff, Bool.or_eq_true, Bool.or_eq_false_iff, Bool.not_eq_true', Bool.not_eq_false', beq_iff_eq, wrap_u32, wrap_i64, wrap_u8, beq_eq_false_iff_ne, ne_eq, bne_iff_ne, bne_eq_false_iff_eq, eq_self, and_self, splice, V.cells, List.take_succ_cons, List.take_zero, List.take_nil, List.drop_zero, List.drop_succ_cons, List.drop_nil, List.cons_append, List.nil_append, List.append_nil, List.length_cons, List.length_nil, Nat.zero_add, Nat.reduceAdd, if_true, if_false, Bool.false_eq_true, beq_self_eq_true, decide_eq_decide, Bool.true_eq_false, or_false, false_or, or_true, true_or, and_false, false_and, not_true_eq_false, not_false_eq_true, Bool.and_true, Bool.true_and, Bool.not_true, Bool.not_false] at *; first | done | assumption | omega))); intro h) | (refine dec_split (fun h => ?_) (fun h => ?_)) | (apply silE) | (refine Both.mk ?_ ?_) | (refine And.intro rfl ?_) | (exact And.intro rfl (And.intro rfl (And.intro rfl rfl))) | (refine And.intro (by first | omega | ((simp only [decide_eq_true_eq, decide_eq_false_iff_not, Bool.and_eq_true, beq_iff_eq, Bool.not_eq_true', Bool.not_eq_false'] at *); omega) | (subst_vars; simp only [Int.ofNat_eq_natCast, tq_not, fq_not, tq_and, fq_and, tq_or, fq_or, tq_beq, fq_beq, tq_bne, fq_bne, tq_dec, fq_dec, one1, V.tup.injEq, V.agg.injEq, List.cons.injEq, V.int.injEq, V.bool.injEq, true_and, and_true, decide_eq_true_eq, decide_eq_false_iff_not, Bool.and_eq_true, Bool.and_eq_false_iff, Bool.or_eq_true, Bool.or_eq_false_iff, Bool.not_eq_true', Bool.not_eq_false', beq_iff_eq, wrap_u32, wrap_i64, wrap_u8, beq_eq_false_iff_ne, ne_eq, bne_iff_ne, bne_eq_false_iff_eq, eq_self, and_self, splice, V.cells, List.take_succ_cons, List.take_zero, List.take_nil, List.drop_zero, List.drop_succ_cons, List.drop_nil, List.cons_append, List.nil_append, List.append_nil, List.length_cons, List.length_nil, Nat.zero_add, Nat.reduceAdd, if_true, if_false, Bool.false_eq_true, beq_self_eq_true, decide_eq_decide, Bool.true_eq_false, or_false, false_or, or_true, true_or, and_false, false_and, not_true_eq_false, not_false_eq_true, Bool.and_true, Bool.true_and, Bool.not_true, Bool.not_false] at *; omega)) ?_) | (refine Exists.intro _ (Exists.intro _ (And.intro rfl ?_))) | (refine Exists.intro _ (And.intro rfl ?_)) | (refine Exists.intro _ (Exists.intro _ (Exists.intro _ (Exists.intro _ (And.intro rfl ?_))))) | (refine ld_step rfl (by assumption) rfl ?_) | (refine lds_step rfl (by assumption) rfl ?_) | (refine fL_mk ?_) | (refine fH_mk ?_) | (refine fN_mk ?_) | (refine fLB_mk ?_) | (refine And.intro (by repeat (first | assumption | refine GLB_app ?_)) ?_) | (refine ld_step rfl ((rd_x0 _ _ _ _ _).trans rfl) rfl ?_) | (refine ld_step rfl ((rd_x1 _ _ _ _ _ _).trans rfl) rfl ?_) | (refine ld_step rfl ((rd_x2 _ _ _ _ _ _ _).trans rfl) rfl ?_) | (refine lds_step rfl ((rd_x0 _ _ _ _ _).trans rfl) rfl ?_) | (refine lds_step rfl ((rd_x1 _ _ _ _ _ _).trans rfl) rfl ?_) | (refine lds_step rfl ((rd_x2 _ _ _ _ _ _ _).trans rfl) rfl ?_) | (refine mem_step (st_eq rfl rfl rfl rfl (wr_last _ _ _ _ rfl)) ?_) | (refine drec_yes (by omega) ?_) | (refine drec_no (by omega) ?_) | (intro _) | fail)
    all_goals (conv => whnf)
    all_goals
      obtain rfl : g3 = true := hg3 (hg2 (hg1 rfl))
      have w4 : Own H.length (H ++ X3) 5 1 w ((l1 ++ l2 ++ l3).flatMap encB) := by rw [List.flatMap_append, List.flatMap_append]; exact w3
      obtain ⟨bb, cc, ws, rfl, q1, q2, q3, q4⟩ := own_out w4 (by intro hh; have := congrArg List.length hh; simp only [List.length_append, List.length_nil] at this; omega)
      conv => whnf
      refine drec_no (by simp [one1, V.lt, V.ltL]; omega) ?_
      exact hq bb cc X3 ws q1 q2 q3 q4
  · exact hs.elim
def s26 : Sp := s44
theorem k26 : Snd Tryd.prog 1 26 s26 := by
  refine snd_of_ev (by kernel_rfl) (C := tab [(44, s44)]) (sndC_cons k44 (sndC_nil)) x26 n26 c26 30 ?_
  intro vs H Q hs
  unfold s26 s44 at hs
  split at hs
  · obtain ⟨p1, p2, p3, c1, c2, c3, l1, l2, l3, hr, hd, hn, hq⟩ := hs
    repeat' (conv => whnf
             first | (refine Stop.mk ?_) | (refine fI_gen ?_; intro z hz) | (refine fO_gen ?_; intro z hz) | (refine ⟨p1, p2, p3, c1, c2, c3, l1, l2, l3, hr, hd, hn, ?_⟩; intro bb cc X ws q1 q2 q3 q4) | (refine dec_true (by assumption) ?_) | (refine dec_false (by assumption) ?_) | (refine dec_split (fun h => ?_) (fun h => ?_)) | (apply silE) | (refine Both.mk ?_ ?_) | (refine And.intro rfl ?_) | (exact And.intro rfl (And.intro rfl (And.intro rfl rfl))) | (refine And.intro (by first | omega | ((simp only [decide_eq_true_eq, decide_eq_false_iff_not, Bool.and_eq_true, beq_iff_eq, Bool.not_eq_true', Bool.not_eq_false'] at *); omega) | (subst_vars; simp only [Int.ofNat_eq_natCast, tq_not, fq_not, tq_and, fq_and, tq_or, fq_or, tq_beq, fq_beq, tq_bne, fq_bne, tq_dec, fq_dec, one1, V.tup.injEq, V.agg.injEq, List.cons.injEq, V.int.injEq, V.bool.injEq, true_and, and_true, decide_eq_true_eq, decide_eq_false_iff_not, Bool.and_eq_true, Bool.and_eq_false_iff, Bool.or_eq_true, Bool.or_eq_false_iff, Bool.not_eq_true', Bool.not_eq_false', beq_iff_eq, wrap_u32, wrap_i64, wrap_u8, beq_eq_false_iff_ne, ne_eq, bne_iff_ne, bne_eq_false_iff_eq, eq_self, and_self, splice, V.cells, List.take_succ_cons, List.take_zero, List.take_nil, List.drop_zero, List.drop_succ_cons, List.drop_nil, List.cons_append, List.nil_append, List.append_nil, List.length_cons, List.length_nil, Nat.zero_add, Nat.reduceAdd, if_true, if_false, Bool.false_eq_true, beq_self_eq_true, decide_eq_decide, Bool.true_eq_false, or_false, false_or, or_true, true_or, and_false, false_and, not_true_eq_false, not_false_eq_true, Bool.and_true, Bool.true_and, Bool.not_true, Bool.not_false] at *; omega)) ?_) | (refine Exists.intro _ (Exists.intro _ (And.intro rfl ?_))) | (refine Exists.intro _ (And.intro rfl ?_)) | (refine Exists.intro _ (Exists.intro _ (Exists.intro _ (Exists.intro _ (And.intro rfl ?_))))) | (refine ld_step rfl (by assumption) rfl ?_) | (refine lds_step rfl (by assumption) rfl ?_) | (refine fL_mk ?_) | (refine fH_mk ?_) | (refine fN_mk ?_) | (refine fLB_mk ?_) | (refine And.intro (by repeat (first | assumption | refine GLB_app ?_)) ?_) | (refine ld_step rfl ((rd_x0 _ _ _ _ _).trans rfl) rfl ?_) | (refine ld_step rfl ((rd_x1 _ _ _ _ _ _).trans rfl) rfl ?_) | (refine ld_step rfl ((rd_x2 _ _ _ _ _ _ _).trans rfl) rfl ?_) | (refine lds_step rfl ((rd_x0 _ _ _ _ _).trans rfl) rfl ?_) | (refine lds_step rfl ((rd_x1 _ _ _ _ _ _).trans rfl) rfl ?_) | (refine lds_step rfl ((rd_x2 _ _ _ _ _ _ _).trans rfl) rfl ?_) | (refine mem_step (st_eq rfl rfl rfl rfl (wr_last _ _ _ _ rfl)) ?_) | (refine drec_yes (by omega) ?_) | (refine drec_no (by omega) ?_) | (intro _) | fail)
    all_goals
      conv => whnf
      refine drec_no (by simp [one1, V.lt, V.ltL]; omega) ?_
      exact hq bb cc X ws q1 q2 q3 q4
  · exact hs.elim
theorem OwnB.at {Hx H' : List B} {l : List Int} {Q : Post} (h : OwnB Hx l Q) (hx : ∃ Y, H' = Hx ++ Y) {bb cc : Nat} {X : List B} {ws : List V} (q1 : H'.length ≤ bb) (q2 : l.length ≤ cc) (q3 : (H' ++ X)[bb]? = some (.rw 5 (l.flatMap encB ++ ws))) (q4 : ws.length = cc - l.length) : Q (.sl (some (bb, 0)) l.length cc) (H' ++ X) false true := by
  obtain ⟨Y, rfl⟩ := hx
  rw [List.length_append] at q1
  rw [List.append_assoc] at q3 ⊢
  exact h bb cc (Y ++ X) ws (by omega) q2 q3 q4
theorem OwnB.fin {Hx X : List B} {l : List Int} {w : V} {Q : Post} (h : OwnB Hx l Q) (hl : l ≠ []) (hw : Own Hx.length (Hx ++ X) 5 1 w (l.flatMap encB)) : V.lt Hx.length w = false ∧ Q w (Hx ++ X) false true := by
  obtain ⟨bb, cc, ws, rfl, q1, q2, q3, q4⟩ := own_out hw hl
  exact ⟨by simp only [V.lt]; exact decide_eq_false (by omega), h bb cc X ws q1 q2 q3 q4⟩
/-- an access' record -/
def recV (w : Int) (wr : Bool) (a n d : Int) : List Int := [w % 256, flV wr n, 0, 0] ++ bytesV 4 a ++ bytesV 4 d
theorem recV_len (w : Int) (wr : Bool) (a n d : Int) : (recV w wr a n d).length = 12 := by simp [recV, bytesV_len]
def EncS : Sp := fun vs H Q => match vs with
  | [.agg [.int .i64 w, .bool wr, .int .u32 a, .int .i64 n, .int .u32 d]] => ((0 ≤ a ∧ a < 4294967296) ∧ (0 ≤ d ∧ d < 4294967296) ∧ (-9223372036854775808 ≤ n ∧ n < 9223372036854775808)) ∧ GLB H ∧ (¬ accP w wr a n d → Q (.tup [.sl none 0 0, .int .i64 2]) H false false) ∧ (accP w wr a n d → OwnB H (recV w wr a n d) fun v H e g => Q (.tup [v, .int .i64 0]) H e g)
  | _ => False
theorem EncM : Mono EncS := by
  intro vs H Q Q' hQ h
  unfold EncS at h ⊢
  split at h
  · exact ⟨h.1, h.2.1, fun hh => hQ _ _ _ _ (h.2.2.1 hh), fun hh => (h.2.2.2 hh).mono fun v H e g h => hQ _ _ _ _ h⟩
  · exact h.elim
def s12 : Sp := EncS
theorem k12 : Snd Tryd.prog 1 12 s12 := by
  refine snd_of_ev (by kernel_rfl) (C := tab [(11, s11), (26, s26), (27, s27), (28, s28)]) (sndC_cons k11 (sndC_cons k26 (sndC_cons k27 (sndC_cons k28 (sndC_nil))))) x12 n12 c12 30 ?_
  intro vs H Q hs
  unfold s12 EncS at hs
  split at hs
  · rename_i w wr a n d
    obtain ⟨hp, hg, hq1, hq2⟩ := hs
    by_cases ha : accP w wr a n d
    · replace hq2 := hq2 ha
      clear hq1
      have hf : 0 ≤ flV wr n ∧ flV wr n < 256 := by unfold flV; repeat' (split) <;> omega
      have h4 : okS 4 := by decide
      repeat' (conv => whnf
               first | (refine Stop.mk ?_) | (refine fO_is (decide_eq_true ha) ?_) | (refine fI_is (wrap_u8 _) ?_) | (with_reducible refine fI_is (a := flV wr n) rfl ?_) | (refine fI_gen ?_; intro z hz) | (refine fO_gen ?_; intro z hz) | (refine And.intro ⟨hp.1, hp.2.1⟩ (And.intro (by repeat (first | assumption | refine GLB_app ?_)) ?_)) | (refine And.intro ⟨hp.1, h4⟩ (And.intro (by repeat (first | assumption | refine GLB_app ?_)) ?_); intro b1 k1 X1 ws1 i1 j1 e1 f1; have g1 := rd_block e1 (flat_len encB_len _)) | (refine And.intro ⟨hp.2.1, h4⟩ (And.intro (by repeat (first | assumption | refine GLB_app ?_)) ?_); intro b2 k2 X2 ws2 i2 j2 e2 f2; have g2 := rd_block e2 (flat_len encB_len _)) | (refine Exists.intro (_, 0) (Exists.intro (b1, 0) (Exists.intro (b2, 0) (Exists.intro _ (Exists.intro _ (Exists.intro _ (Exists.intro [w % 256, flV wr n, 0, 0] (Exists.intro (bytesV 4 a) (Exists.intro (bytesV 4 d) (And.intro ((rd_x0 _ _ _ _ _).trans rfl) (And.intro (And.intro (by (show rd _ _ 0 4 = _); repeat (first | exact (rd_x0 _ _ _ _ _).trans rfl | refine rd_app ?_ _)) (And.intro (by (show rd _ _ _ _ = _); repeat (first | exact g1 | refine rd_app ?_ _)) (by (show rd _ _ _ _ = _); repeat (first | exact g2 | refine rd_app ?_ _)))) (And.intro (And.intro (by simp) (And.intro (by simp [bytesV_len]) (And.intro (by simp [bytesV_len]) (by simp [bytesV_len])))) ?_))))))))))); intro bb cc X ws q1 q2 q3 q4) | (refine dec_true (by assumption) ?_) | (refine dec_false (by assumption) ?_) | (refine dec_split (fun h => ?_) (fun h => ?_)) | (apply silE) | (refine Both.mk ?_ ?_) | (refine And.intro rfl ?_) | (exact And.intro rfl (And.intro rfl (And.intro rfl rfl))) | (refine And.intro (by first | omega | ((simp only [decide_eq_true_eq, decide_eq_false_iff_not, Bool.and_eq_true, beq_iff_eq, Bool.not_eq_true', Bool.not_eq_false'] at *); omega) | (subst_vars; simp only [Int.ofNat_eq_natCast, tq_not, fq_not, tq_and, fq_and, tq_or, fq_or, tq_beq, fq_beq, tq_bne, fq_bne, tq_dec, fq_dec, one1, V.tup.injEq, V.agg.injEq, List.cons.injEq, V.int.injEq, V.bool.injEq, true_and, and_true, decide_eq_true_eq, decide_eq_false_iff_not, Bool.and_eq_true, Bool.and_eq_false_iff, Bool.or_eq_true, Bool.or_eq_false_iff, Bool.not_eq_true', Bool.not_eq_false', beq_iff_eq, wrap_u32, wrap_i64, wrap_u8, beq_eq_false_iff_ne, ne_eq, bne_iff_ne, bne_eq_false_iff_eq, eq_self, and_self, splice, V.cells, List.take_succ_cons, List.take_zero, List.take_nil, List.drop_zero, List.drop_succ_cons, List.drop_nil, List.cons_append, List.nil_append, List.append_nil, List.length_cons, List.length_nil, Nat.zero_add, Nat.reduceAdd, if_true, if_false, Bool.false_eq_true, beq_self_eq_true, decide_eq_decide, Bool.true_eq_false, or_false, false_or, or_true, true_or, and_false, false_and, not_true_eq_false, not_false_eq_true, Bool.and_true, Bool.true_and, Bool.not_true, Bool.not_false] at *; omega)) ?_) | (refine Exists.intro _ (Exists.intro _ (And.intro rfl ?_))) | (refine Exists.intro _ (And.intro rfl ?_)) | (refine Exists.intro _ (Exists.intro _ (Exists.intro _ (Exists.intro _ (And.intro rfl ?_))))) | (refine ld_step rfl (by assumption) rfl ?_) | (refine lds_step rfl (by assumption) rfl ?_) | (refine fL_mk ?_) | (refine fH_mk ?_) | (refine fN_mk ?_) | (refine fLB_mk ?_) | (refine And.intro (by repeat (first | assumption | refine GLB_app ?_)) ?_) | (refine ld_step rfl ((rd_x0 _ _ _ _ _).trans rfl) rfl ?_) | (refine ld_step rfl ((rd_x1 _ _ _ _ _ _).trans rfl) rfl ?_) | (refine ld_step rfl ((rd_x2 _ _ _ _ _ _ _).trans rfl) rfl ?_) | (refine lds_step rfl ((rd_x0 _ _ _ _ _).trans rfl) rfl ?_) | (refine lds_step rfl ((rd_x1 _ _ _ _ _ _).trans rfl) rfl ?_) | (refine lds_step rfl ((rd_x2 _ _ _ _ _ _ _).trans rfl) rfl ?_) | (refine mem_step (st_eq rfl rfl rfl rfl (wr_last _ _ _ _ rfl)) ?_) | (refine drec_yes (by omega) ?_) | (refine drec_no (by omega) ?_) | (intro _) | fail)
      all_goals (conv => whnf)
      all_goals
        refine drec_no (by simp only [List.length_append] at q1; simp [one1, V.lt, V.ltL]; omega) ?_
        refine OwnB.at hq2 ?_ q1 q2 q3 q4
        simp only [List.append_assoc]
        exact ⟨_, rfl⟩
    · replace hq1 := hq1 ha
      clear hq2
      repeat' (conv => whnf
               first | (refine Stop.mk ?_) | (refine fO_is (decide_eq_false ha) ?_) | (refine fI_gen ?_; intro z hz) | (refine fO_gen ?_; intro z hz) | (refine And.intro ⟨hp.1, hp.2.1⟩ (And.intro (by repeat (first | assumption | refine GLB_app ?_)) ?_)) | (refine dec_true (by assumption) ?_) | (refine dec_false (by assumption) ?_) | (refine dec_split (fun h => ?_) (fun h => ?_)) | (apply silE) | (refine Both.mk ?_ ?_) | (refine And.intro rfl ?_) | (exact And.intro rfl (And.intro rfl (And.intro rfl rfl))) | (refine And.intro (by first | omega | ((simp only [decide_eq_true_eq, decide_eq_false_iff_not, Bool.and_eq_true, beq_iff_eq, Bool.not_eq_true', Bool.not_eq_false'] at *); omega) | (subst_vars; simp only [Int.ofNat_eq_natCast, tq_not, fq_not, tq_and, fq_and, tq_or, fq_or, tq_beq, fq_beq, tq_bne, fq_bne, tq_dec, fq_dec, one1, V.tup.injEq, V.agg.injEq, List.cons.injEq, V.int.injEq, V.bool.injEq, true_and, and_true, decide_eq_true_eq, decide_eq_false_iff_not, Bool.and_eq_true, Bool.and_eq_false_iff, Bool.or_eq_true, Bool.or_eq_false_iff, Bool.not_eq_true', Bool.not_eq_false', beq_iff_eq, wrap_u32, wrap_i64, wrap_u8, beq_eq_false_iff_ne, ne_eq, bne_iff_ne, bne_eq_false_iff_eq, eq_self, and_self, splice, V.cells, List.take_succ_cons, List.take_zero, List.take_nil, List.drop_zero, List.drop_succ_cons, List.drop_nil, List.cons_append, List.nil_append, List.append_nil, List.length_cons, List.length_nil, Nat.zero_add, Nat.reduceAdd, if_true, if_false, Bool.false_eq_true, beq_self_eq_true, decide_eq_decide, Bool.true_eq_false, or_false, false_or, or_true, true_or, and_false, false_and, not_true_eq_false, not_false_eq_true, Bool.and_true, Bool.true_and, Bool.not_true, Bool.not_false] at *; omega)) ?_) | (refine Exists.intro _ (Exists.intro _ (And.intro rfl ?_))) | (refine Exists.intro _ (And.intro rfl ?_)) | (refine Exists.intro _ (Exists.intro _ (Exists.intro _ (Exists.intro _ (And.intro rfl ?_))))) | (refine ld_step rfl (by assumption) rfl ?_) | (refine lds_step rfl (by assumption) rfl ?_) | (refine fL_mk ?_) | (refine fH_mk ?_) | (refine fN_mk ?_) | (refine fLB_mk ?_) | (refine And.intro (by repeat (first | assumption | refine GLB_app ?_)) ?_) | (refine ld_step rfl ((rd_x0 _ _ _ _ _).trans rfl) rfl ?_) | (refine ld_step rfl ((rd_x1 _ _ _ _ _ _).trans rfl) rfl ?_) | (refine ld_step rfl ((rd_x2 _ _ _ _ _ _ _).trans rfl) rfl ?_) | (refine lds_step rfl ((rd_x0 _ _ _ _ _).trans rfl) rfl ?_) | (refine lds_step rfl ((rd_x1 _ _ _ _ _ _).trans rfl) rfl ?_) | (refine lds_step rfl ((rd_x2 _ _ _ _ _ _ _).trans rfl) rfl ?_) | (refine mem_step (st_eq rfl rfl rfl rfl (wr_last _ _ _ _ rfl)) ?_) | (refine drec_yes (by omega) ?_) | (refine drec_no (by omega) ?_) | (intro _) | fail)
      all_goals (conv => whnf)
      all_goals exact leafE hq1 rfl
  · exact hs.elim
theorem own_lit {H : List B} {cs : List V} {k : Nat} (hk : cs.length = k) (h1 : cs.all V.one = true) : Own H.length (H ++ [.rw 5 cs]) 5 1 (.sl (some (H.length, 0)) k k) cs :=
  ⟨k, k, by simpa using hk, h1, Or.inr ⟨H.length, [], rfl, Nat.le_refl _, Nat.le_refl _, by simp, by rw [List.append_nil]; exact List.getElem?_concat_length⟩⟩
def s15 : Sp := EncS
theorem m15 : Mono s15 := EncM
theorem k15 : Snd Tryd.prog 1 15 s15 := by
  refine snd_of_ev (by kernel_rfl) (C := tab [(30, s30), (32, s32)]) (sndC_cons k30 (sndC_cons k32 (sndC_nil))) x15 n15 c15 30 ?_
  intro vs H Q hs
  unfold s15 EncS at hs
  split at hs
  · rename_i w wr a n d
    obtain ⟨hp, hg, hq1, hq2⟩ := hs
    by_cases ha : accP w wr a n d
    · replace hq2 := hq2 ha
      clear hq1
      have h4 : okS 4 := by decide
      obtain ⟨fl, hfl⟩ : ∃ fl, fl = flV wr n := ⟨_, rfl⟩
      have hq3 : OwnB H ([w % 256, fl, 0, 0] ++ bytesV 4 a ++ bytesV 4 d) fun v H e g => Q (.tup [v, .int .i64 0]) H e g := by rw [hfl]; exact hq2
      clear hq2
      have hok := ha.2.2.1
      have hwl : ([w % 256, fl, 0, 0] : List Int).flatMap encB = [.int .u8 (w % 256), .int .u8 fl, .int .u8 0, .int .u8 0] := rfl
      rcases hok with rfl | rfl | rfl <;> cases wr
      obtain rfl : fl = 0 := hfl.trans (by decide)
      rotate_left
      obtain rfl : fl = 1 := hfl.trans (by decide)
      rotate_left
      obtain rfl : fl = 2 := hfl.trans (by decide)
      rotate_left
      obtain rfl : fl = 3 := hfl.trans (by decide)
      rotate_left
      obtain rfl : fl = 4 := hfl.trans (by decide)
      rotate_left
      obtain rfl : fl = 5 := hfl.trans (by decide)
      rotate_left
      all_goals
        clear hfl
        repeat' (conv => whnf
                 first | (refine Stop.mk ?_) | (refine fO_is (decide_eq_true ha) ?_) | (refine fI_is (wrap_u8 _) ?_) | (refine fI_gen ?_; intro z hz) | (refine fO_gen ?_; intro z hz) | (refine And.intro ⟨hp.1, hp.2.1⟩ ?_) | (refine And.intro ⟨hp.1, h4⟩ ?_; intro b1 k1 X1 ws1 i1 j1 e1 f1; have g1 := rd_block e1 (flat_len encB_len _)) | (refine And.intro ⟨hp.2.1, h4⟩ ?_; intro b2 k2 X2 ws2 i2 j2 e2 f2; have g2 := rd_block e2 (flat_len encB_len _)) | (refine app_own1 (List.append_assoc _ _ _) rfl rfl (w1.app _) (news_eq g2 (encB_one _)) rfl rfl (encB_one _) (by decide) (by decide) (by show (8 + 4) * 1 ≤ 140737488355328; decide) (by show 8 + 4 < 9223372036854775807; decide) (encB_lt _) ?_; intro w2' X4 g4 w2 hg4 hX4; clear w1) | (refine app_own1 (List.append_assoc _ _ _) rfl rfl ((own_lit rfl rfl).app _) (news_eq g1 (encB_one _)) rfl rfl (encB_one _) (by decide) (by decide) (by show (4 + 4) * 1 ≤ 140737488355328; decide) (by show 4 + 4 < 9223372036854775807; decide) (encB_lt _) ?_; intro w1' X3 g3 w1 hg3 hX3) | (refine dec_true (by assumption) ?_) | (refine dec_false (by assumption) ?_) | (refine dec_split (fun h => ?_) (fun h => ?_)) | (apply silE) | (refine Both.mk ?_ ?_) | (refine And.intro rfl ?_) | (exact And.intro rfl (And.intro rfl (And.intro rfl rfl))) | (refine And.intro (by first | omega | ((simp only [decide_eq_true_eq, decide_eq_false_iff_not, Bool.and_eq_true, beq_iff_eq, Bool.not_eq_true', Bool.not_eq_false'] at *); omega) | (subst_vars; simp only [Int.ofNat_eq_natCast, tq_not, fq_not, tq_and, fq_and, tq_or, fq_or, tq_beq, fq_beq, tq_bne, fq_bne, tq_dec, fq_dec, one1, V.tup.injEq, V.agg.injEq, List.cons.injEq, V.int.injEq, V.bool.injEq, true_and, and_true, decide_eq_true_eq, decide_eq_false_iff_not, Bool.and_eq_true, Bool.and_eq_false_iff, Bool.or_eq_true, Bool.or_eq_false_iff, Bool.not_eq_true', Bool.not_eq_false', beq_iff_eq, wrap_u32, wrap_i64, wrap_u8, beq_eq_false_iff_ne, ne_eq, bne_iff_ne, bne_eq_false_iff_eq, eq_self, and_self, splice, V.cells, List.take_succ_cons, List.take_zero, List.take_nil, List.drop_zero, List.drop_succ_cons, List.drop_nil, List.cons_append, List.nil_append, List.append_nil, List.length_cons, List.length_nil, Nat.zero_add, Nat.reduceAdd, if_true, if_false, Bool.false_eq_true, beq_self_eq_true, decide_eq_decide, Bool.true_eq_false, or_false, false_or, or_true, true_or, and_false, false_and, not_true_eq_false, not_false_eq_true, Bool.and_true, Bool.true_and, Bool.not_true, Bool.not_false] at *; omega)) ?_) | (refine Exists.intro _ (Exists.intro _ (And.intro rfl ?_))) | (refine Exists.intro _ (And.intro rfl ?_)) | (refine Exists.intro _ (Exists.intro _ (Exists.intro _ (Exists.intro _ (And.intro rfl ?_))))) | (refine ld_step rfl (by assumption) rfl ?_) | (refine lds_step rfl (by assumption) rfl ?_) | (refine fL_mk ?_) | (refine fH_mk ?_) | (refine fN_mk ?_) | (refine fLB_mk ?_) | (refine And.intro (by repeat (first | assumption | refine GLB_app ?_)) ?_) | (refine ld_step rfl ((rd_x0 _ _ _ _ _).trans rfl) rfl ?_) | (refine ld_step rfl ((rd_x1 _ _ _ _ _ _).trans rfl) rfl ?_) | (refine ld_step rfl ((rd_x2 _ _ _ _ _ _ _).trans rfl) rfl ?_) | (refine lds_step rfl ((rd_x0 _ _ _ _ _).trans rfl) rfl ?_) | (refine lds_step rfl ((rd_x1 _ _ _ _ _ _).trans rfl) rfl ?_) | (refine lds_step rfl ((rd_x2 _ _ _ _ _ _ _).trans rfl) rfl ?_) | (refine mem_step (st_eq rfl rfl rfl rfl (wr_last _ _ _ _ rfl)) ?_) | (refine drec_yes (by omega) ?_) | (refine drec_no (by omega) ?_) | (intro _) | fail)
      all_goals (conv => whnf)
      all_goals
        obtain rfl : g4 = true := hg4 (by simp)
        obtain ⟨o1, o2⟩ := OwnB.fin hq3 (by simp) w2
        conv => whnf
        refine drec_no (by simp [one1, V.lt, V.ltL, o1]) ?_
        exact o2
    · replace hq1 := hq1 ha
      clear hq2
      repeat' (conv => whnf
               first | (refine Stop.mk ?_) | (refine fO_is (decide_eq_false ha) ?_) | (refine fI_gen ?_; intro z hz) | (refine fO_gen ?_; intro z hz) | (refine And.intro ⟨hp.1, hp.2.1⟩ ?_) | (refine dec_true (by assumption) ?_) | (refine dec_false (by assumption) ?_) | (refine dec_split (fun h => ?_) (fun h => ?_)) | (apply silE) | (refine Both.mk ?_ ?_) | (refine And.intro rfl ?_) | (exact And.intro rfl (And.intro rfl (And.intro rfl rfl))) | (refine And.intro (by first | omega | ((simp only [decide_eq_true_eq, decide_eq_false_iff_not, Bool.and_eq_true, beq_iff_eq, Bool.not_eq_true', Bool.not_eq_false'] at *); omega) | (subst_vars; simp only [Int.ofNat_eq_natCast, tq_not, fq_not, tq_and, fq_and, tq_or, fq_or, tq_beq, fq_beq, tq_bne, fq_bne, tq_dec, fq_dec, one1, V.tup.injEq, V.agg.injEq, List.cons.injEq, V.int.injEq, V.bool.injEq, true_and, and_true, decide_eq_true_eq, decide_eq_false_iff_not, Bool.and_eq_true, Bool.and_eq_false_iff, Bool.or_eq_true, Bool.or_eq_false_iff, Bool.not_eq_true', Bool.not_eq_false', beq_iff_eq, wrap_u32, wrap_i64, wrap_u8, beq_eq_false_iff_ne, ne_eq, bne_iff_ne, bne_eq_false_iff_eq, eq_self, and_self, splice, V.cells, List.take_succ_cons, List.take_zero, List.take_nil, List.drop_zero, List.drop_succ_cons, List.drop_nil, List.cons_append, List.nil_append, List.append_nil, List.length_cons, List.length_nil, Nat.zero_add, Nat.reduceAdd, if_true, if_false, Bool.false_eq_true, beq_self_eq_true, decide_eq_decide, Bool.true_eq_false, or_false, false_or, or_true, true_or, and_false, false_and, not_true_eq_false, not_false_eq_true, Bool.and_true, Bool.true_and, Bool.not_true, Bool.not_false] at *; omega)) ?_) | (refine Exists.intro _ (Exists.intro _ (And.intro rfl ?_))) | (refine Exists.intro _ (And.intro rfl ?_)) | (refine Exists.intro _ (Exists.intro _ (Exists.intro _ (Exists.intro _ (And.intro rfl ?_))))) | (refine ld_step rfl (by assumption) rfl ?_) | (refine lds_step rfl (by assumption) rfl ?_) | (refine fL_mk ?_) | (refine fH_mk ?_) | (refine fN_mk ?_) | (refine fLB_mk ?_) | (refine And.intro (by repeat (first | assumption | refine GLB_app ?_)) ?_) | (refine ld_step rfl ((rd_x0 _ _ _ _ _).trans rfl) rfl ?_) | (refine ld_step rfl ((rd_x1 _ _ _ _ _ _).trans rfl) rfl ?_) | (refine ld_step rfl ((rd_x2 _ _ _ _ _ _ _).trans rfl) rfl ?_) | (refine lds_step rfl ((rd_x0 _ _ _ _ _).trans rfl) rfl ?_) | (refine lds_step rfl ((rd_x1 _ _ _ _ _ _).trans rfl) rfl ?_) | (refine lds_step rfl ((rd_x2 _ _ _ _ _ _ _).trans rfl) rfl ?_) | (refine mem_step (st_eq rfl rfl rfl rfl (wr_last _ _ _ _ rfl)) ?_) | (refine drec_yes (by omega) ?_) | (refine drec_no (by omega) ?_) | (intro _) | fail)
      all_goals (conv => whnf)
      all_goals exact leafE hq1 rfl
  · exact hs.elim
end Go.Ev
