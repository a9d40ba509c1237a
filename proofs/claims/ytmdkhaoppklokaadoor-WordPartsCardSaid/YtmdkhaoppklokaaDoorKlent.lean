/- dev: rows of bytes that are lent -/
import Derived.Test.YtmdkhaoppklokaaDoorEvX
import Derived.Test.YtmdkhaoppklokaaDoorKof2
import Derived.Test.YtmdkhaoppklokaaDoorKmk
set_option linter.all false
namespace Go.Ev
open Go Go.Proofs
set_option maxRecDepth 4000
set_option maxHeartbeats 4000000
theorem encB_one (l : List Int) : (l.flatMap encB).all V.one = true := by
  induction l with
  | nil => rfl
  | cons a l ih => rw [List.flatMap_cons, List.all_append, ih]; rfl
theorem encB_lt (l : List Int) : V.ltL 0 (l.flatMap encB) = true := by
  rw [ltL_iff]
  intro v hv
  obtain ⟨x, _, hx⟩ := List.mem_flatMap.1 hv
  simp only [encB, List.mem_cons, List.not_mem_nil, or_false] at hx
  subst hx; rfl
theorem own_empty {H : List B} {cap : Nat} {zs : List V} (h : zs.length = cap) : Own H.length (H ++ [.rw 5 zs]) 5 1 (.sl (some (H.length, 0)) 0 cap) ([] : List V) :=
  ⟨0, cap, rfl, rfl, Or.inr ⟨H.length, zs, rfl, Nat.le_refl _, Nat.zero_le _, by simpa using h, List.getElem?_concat_length⟩⟩
def marksU (i : Nat) : List Int := (List.range i).map fun j : Nat => mbV 1 (j : Int)
theorem marksU_succ (i : Nat) : marksU (i + 1) = marksU i ++ [mbV 1 (i : Int)] := by simp [marksU, List.range_succ]
theorem marksU_len (i : Nat) : (marksU i).length = i := by simp [marksU]
theorem mksl_eq2 {tm : List SV} {L : List LB} {H : List B} {e g : Bool} {ty : TypeId} {zs : List V} {by_ : Nat} {l c : Opd} {k k' : IntKind} {n m : Int} (hl : l.val tm = some (.int k n)) (hc : c.val tm = some (.int k' m)) (h : 0 ≤ n ∧ n ≤ m ∧ m.toNat * zs.length ≤ 16777216 ∧ (by_ : Int) * m ≤ 281474976710656 ∧ m ≤ 9223372036854775807) :
    memOp tm L H e g (.mksl ty zs by_ l c) = some (.v (.sl (some (H.length, 0)) n.toNat m.toNat), L, H ++ [.rw ty (reps m.toNat zs)], e, true) := by
  simp only [memOp, hl, hc]
  rw [if_pos ⟨h.1, h.2.1, h.2.2.1, h.2.2.2.1, h.2.2.2.2⟩]
theorem wr_nil {H : List B} {b : Nat} {ty : TypeId} {cs : List V} {o : Nat} (hb : H[b]? = some (.rw ty cs)) (hc : o ≤ cs.length) : wr H b o [] = some H := by
  unfold wr; rw [hb]
  simp only [List.length_nil, Nat.add_zero]
  rw [if_pos hc]
  congr 1
  apply List.ext_getElem?
  intro j
  rw [List.getElem?_set]
  split
  · rename_i e; subst e
    rw [if_pos (List.getElem?_eq_some_iff.1 hb).1, hb]
    simp [splice]
  · rfl
/-- 'append' of nothing to what is there -/
theorem app_none {tm : List SV} {L : List LB} {H : List B} {e g : Bool} {ty ty' : TypeId} {bytes : Nat} {zs : List V} {x y : Opd} {K : KV} {w : V} {b n cap : Nat} {cs : List V}
    (hx : x.val tm = some (.sl (some (b, 0)) n cap)) (hy : y.val tm = some w) (hn : news H 1 w = some (0, [])) (hb : H[b]? = some (.rw ty' cs)) (hc : n ≤ cs.length) (hcap : n ≤ cap) (hK : K (.v (.sl (some (b, 0)) n cap)) L H e g) : AtApp (evApp tm L H e g ty 1 bytes zs x y K) := by
  refine AtApp.mk ?_
  rw [evApp_pos (by decide)]
  unfold evApp0
  rw [hx, hy]
  simp only [hn]
  rw [if_pos (by omega)]
  simp only [wr_nil hb (show 0 + n * 1 ≤ cs.length by omega)]
  simpa [V.ltL] using hK
def LentQ (Hx : List B) (l : List Int) (Q : Post) : Prop :=
  ∀ (b cap : Nat) (X : List B) (ws : List V), Hx.length ≤ b → l.length + 12 ≤ cap → (Hx ++ X)[b]? = some (.rw 5 ((l ++ marksU 12).flatMap encB ++ ws)) → ws.length = cap - (l.length + 12) → Q (.sl (some (b, 0)) l.length cap) (Hx ++ X) false true
def s13 : Sp := fun vs H Q => match vs with
  | [.sl p n c] => ∃ l : List Int, n = l.length ∧ l.length ≤ 4000 ∧ RdB H p l ∧ LentQ H l Q
  | _ => False
theorem k13 : Snd Tryd.prog 2 13 s13 := by
  refine snd_of_ev (by kernel_rfl) (C := tab [(33, s33)]) (sndC_cons k33 (sndC_nil)) x13 n13 c13 50 ?_
  have hC : MonoC (tab [(33, s33)]) := monoC_cons m33 (monoC_nil)
  intro vs Hx Q hs
  unfold s13 at hs
  split at hs
  · rename_i p n c
    obtain ⟨l, rfl, hl, hr, hq⟩ := hs
    suffices hh : ∀ k, 20 < k → evFun (tab [(33, s33)]) k e13 [.sl p l.length c] Hx Q from hh _ (by omega)
    intro k hk
    refine evFun_in (tm := SV.v (.sl p l.length c) :: undefV :: undefV :: undefV :: undefV :: undefV :: undefV :: undefV :: undefV :: undefV :: undefV :: undefV :: undefV :: undefV :: undefV :: undefV :: undefV :: undefV :: undefV :: undefV :: undefV :: undefV :: undefV :: undefV :: undefV :: []) rfl ?_
    show rC _ _ r13_0 _ _ _ _ _ _
    have hw : IntKind.i64.wrap ((l.length : Int) + 12) = (l.length : Int) + 12 := wrap_i64_id (by omega) (by omega)
    have hmk : (0 : Int) ≤ 0 ∧ (0 : Int) ≤ (l.length : Int) + 12 ∧ ((l.length : Int) + 12).toNat * [V.int .u8 0].length ≤ 16777216 ∧ ((1 : Nat) : Int) * ((l.length : Int) + 12) ≤ 281474976710656 ∧ (l.length : Int) + 12 ≤ 9223372036854775807 := by
      refine ⟨by omega, by omega, ?_, by omega, by omega⟩
      simp only [List.length_cons, List.length_nil]; omega
    refine rC_seqH ?_
    repeat' (conv => whnf
             first | (refine Stop.mk ?_) | (refine fI_gen ?_; intro z hz) | (refine fO_gen ?_; intro z hz) | (refine dec_true (by assumption) ?_) | (refine dec_false (by assumption) ?_) | (refine dec_split (fun h => ?_) (fun h => ?_)) | (apply silE) | (exact And.intro rfl (And.intro rfl (And.intro rfl rfl))) | (refine And.intro (by first | omega | ((simp only [decide_eq_true_eq, decide_eq_false_iff_not, Bool.and_eq_true, beq_iff_eq, Bool.not_eq_true', Bool.not_eq_false'] at *); omega) | (subst_vars; simp only [Int.ofNat_eq_natCast, tq_not, fq_not, tq_and, fq_and, tq_or, fq_or, tq_beq, fq_beq, tq_bne, fq_bne, tq_dec, fq_dec, one1, V.tup.injEq, V.agg.injEq, List.cons.injEq, V.int.injEq, V.bool.injEq, true_and, and_true, decide_eq_true_eq, decide_eq_false_iff_not, Bool.and_eq_true, Bool.and_eq_false_iff, Bool.or_eq_true, Bool.or_eq_false_iff, Bool.not_eq_true', Bool.not_eq_false', beq_iff_eq, wrap_u32, wrap_i64, wrap_u8, beq_eq_false_iff_ne, ne_eq, bne_iff_ne, bne_eq_false_iff_eq, eq_self, and_self, splice, V.cells, List.take_succ_cons, List.take_zero, List.take_nil, List.drop_zero, List.drop_succ_cons, List.drop_nil, List.cons_append, List.nil_append, List.append_nil, List.length_cons, List.length_nil, Nat.zero_add, Nat.reduceAdd, if_true, if_false, Bool.false_eq_true, beq_self_eq_true, decide_eq_decide, Bool.true_eq_false, or_false, false_or, or_true, true_or, and_false, false_and, not_true_eq_false, not_false_eq_true, Bool.and_true, Bool.true_and, Bool.not_true, Bool.not_false] at *; omega)) ?_) | (refine Exists.intro _ (Exists.intro _ (And.intro rfl ?_))) | (refine Exists.intro _ (And.intro rfl ?_)) | (refine Exists.intro _ (Exists.intro _ (Exists.intro _ (Exists.intro _ (And.intro rfl ?_))))) | (refine ld_step rfl (by assumption) rfl ?_) | (refine lds_step rfl (by assumption) rfl ?_) | (refine fL_mk ?_) | (refine fH_mk ?_) | (refine fN_mk ?_) | (refine fLB_mk ?_) | (refine And.intro (by repeat (first | assumption | refine GLB_app ?_)) ?_) | (refine ld_step rfl ((rd_x0 _ _ _ _ _).trans rfl) rfl ?_) | (refine ld_step rfl ((rd_x1 _ _ _ _ _ _).trans rfl) rfl ?_) | (refine ld_step rfl ((rd_x2 _ _ _ _ _ _ _).trans rfl) rfl ?_) | (refine lds_step rfl ((rd_x0 _ _ _ _ _).trans rfl) rfl ?_) | (refine lds_step rfl ((rd_x1 _ _ _ _ _ _).trans rfl) rfl ?_) | (refine lds_step rfl ((rd_x2 _ _ _ _ _ _ _).trans rfl) rfl ?_) | (refine mem_step (st_eq rfl rfl rfl rfl (wr_last _ _ _ _ rfl)) ?_) | (refine drec_yes (by omega) ?_) | (refine drec_no (by omega) ?_) | (intro _) | fail)
    any_goals refine Halt.mk ?_
    any_goals show rC _ _ r13_1 _ _ _ _ _ _
    refine rC_seqH ?_
    repeat' (conv => whnf
             first | (refine Stop.mk ?_) | (with_reducible refine fI_is (a := (l.length : Int)) rfl ?_) | (refine fI_is hw ?_) | (refine fI_gen ?_; intro z hz) | (refine fO_gen ?_; intro z hz) | (refine mem_step (mksl_eq2 rfl rfl hmk) ?_) | (refine dec_true (by assumption) ?_) | (refine dec_false (by assumption) ?_) | (refine dec_split (fun h => ?_) (fun h => ?_)) | (apply silE) | (exact And.intro rfl (And.intro rfl (And.intro rfl rfl))) | (refine And.intro (by first | omega | ((simp only [decide_eq_true_eq, decide_eq_false_iff_not, Bool.and_eq_true, beq_iff_eq, Bool.not_eq_true', Bool.not_eq_false'] at *); omega) | (subst_vars; simp only [Int.ofNat_eq_natCast, tq_not, fq_not, tq_and, fq_and, tq_or, fq_or, tq_beq, fq_beq, tq_bne, fq_bne, tq_dec, fq_dec, one1, V.tup.injEq, V.agg.injEq, List.cons.injEq, V.int.injEq, V.bool.injEq, true_and, and_true, decide_eq_true_eq, decide_eq_false_iff_not, Bool.and_eq_true, Bool.and_eq_false_iff, Bool.or_eq_true, Bool.or_eq_false_iff, Bool.not_eq_true', Bool.not_eq_false', beq_iff_eq, wrap_u32, wrap_i64, wrap_u8, beq_eq_false_iff_ne, ne_eq, bne_iff_ne, bne_eq_false_iff_eq, eq_self, and_self, splice, V.cells, List.take_succ_cons, List.take_zero, List.take_nil, List.drop_zero, List.drop_succ_cons, List.drop_nil, List.cons_append, List.nil_append, List.append_nil, List.length_cons, List.length_nil, Nat.zero_add, Nat.reduceAdd, if_true, if_false, Bool.false_eq_true, beq_self_eq_true, decide_eq_decide, Bool.true_eq_false, or_false, false_or, or_true, true_or, and_false, false_and, not_true_eq_false, not_false_eq_true, Bool.and_true, Bool.true_and, Bool.not_true, Bool.not_false] at *; omega)) ?_) | (refine Exists.intro _ (Exists.intro _ (And.intro rfl ?_))) | (refine Exists.intro _ (And.intro rfl ?_)) | (refine Exists.intro _ (Exists.intro _ (Exists.intro _ (Exists.intro _ (And.intro rfl ?_))))) | (refine ld_step rfl (by assumption) rfl ?_) | (refine lds_step rfl (by assumption) rfl ?_) | (refine fL_mk ?_) | (refine fH_mk ?_) | (refine fN_mk ?_) | (refine fLB_mk ?_) | (refine And.intro (by repeat (first | assumption | refine GLB_app ?_)) ?_) | (refine ld_step rfl ((rd_x0 _ _ _ _ _).trans rfl) rfl ?_) | (refine ld_step rfl ((rd_x1 _ _ _ _ _ _).trans rfl) rfl ?_) | (refine ld_step rfl ((rd_x2 _ _ _ _ _ _ _).trans rfl) rfl ?_) | (refine lds_step rfl ((rd_x0 _ _ _ _ _).trans rfl) rfl ?_) | (refine lds_step rfl ((rd_x1 _ _ _ _ _ _).trans rfl) rfl ?_) | (refine lds_step rfl ((rd_x2 _ _ _ _ _ _ _).trans rfl) rfl ?_) | (refine mem_step (st_eq rfl rfl rfl rfl (wr_last _ _ _ _ rfl)) ?_) | (refine drec_yes (by omega) ?_) | (refine drec_no (by omega) ?_) | (intro _) | fail)
    any_goals refine Halt.mk ?_
    any_goals show rC _ _ r13_2 _ _ _ _ _ _
    have w0 := own_empty (H := Hx) (zs := reps ((l.length : Int) + 12).toNat [V.int .u8 0]) (cap := l.length + 12) (by rw [reps_len]; simp only [List.length_cons, List.length_nil]; omega)
    refine rC_seqH ?_
    by_cases hl0 : l = []
    · have hn : ∀ X, news (Hx ++ X) 1 (.sl p l.length c) = some (0, []) := by
        intro X
        subst hl0
        cases p with
        | none => rfl
        | some q => exact news_eq (rd_app hr X) rfl
      have hown : Own Hx.length (Hx ++ [B.rw 5 (reps ((l.length : Int) + 12).toNat [V.int .u8 0])]) 5 1 (.sl (some (Hx.length, 0)) 0 (l.length + 12)) (l.flatMap encB) := by
        have e1 : l.flatMap encB = [] := by rw [hl0]; rfl
        rw [e1]; exact w0
      repeat' (conv => whnf
               first | (refine Stop.mk ?_) | (refine fI_gen ?_; intro z hz) | (refine fO_gen ?_; intro z hz) | (refine app_none rfl rfl (hn _) List.getElem?_concat_length (Nat.zero_le _) (Nat.zero_le _) ?_) | (refine dec_true (by assumption) ?_) | (refine dec_false (by assumption) ?_) | (refine dec_split (fun h => ?_) (fun h => ?_)) | (apply silE) | (exact And.intro rfl (And.intro rfl (And.intro rfl rfl))) | (refine And.intro (by first | omega | ((simp only [decide_eq_true_eq, decide_eq_false_iff_not, Bool.and_eq_true, beq_iff_eq, Bool.not_eq_true', Bool.not_eq_false'] at *); omega) | (subst_vars; simp only [Int.ofNat_eq_natCast, tq_not, fq_not, tq_and, fq_and, tq_or, fq_or, tq_beq, fq_beq, tq_bne, fq_bne, tq_dec, fq_dec, one1, V.tup.injEq, V.agg.injEq, List.cons.injEq, V.int.injEq, V.bool.injEq, true_and, and_true, decide_eq_true_eq, decide_eq_false_iff_not, Bool.and_eq_true, Bool.and_eq_false_iff, Bool.or_eq_true, Bool.or_eq_false_iff, Bool.not_eq_true', Bool.not_eq_false', beq_iff_eq, wrap_u32, wrap_i64, wrap_u8, beq_eq_false_iff_ne, ne_eq, bne_iff_ne, bne_eq_false_iff_eq, eq_self, and_self, splice, V.cells, List.take_succ_cons, List.take_zero, List.take_nil, List.drop_zero, List.drop_succ_cons, List.drop_nil, List.cons_append, List.nil_append, List.append_nil, List.length_cons, List.length_nil, Nat.zero_add, Nat.reduceAdd, if_true, if_false, Bool.false_eq_true, beq_self_eq_true, decide_eq_decide, Bool.true_eq_false, or_false, false_or, or_true, true_or, and_false, false_and, not_true_eq_false, not_false_eq_true, Bool.and_true, Bool.true_and, Bool.not_true, Bool.not_false] at *; omega)) ?_) | (refine Exists.intro _ (Exists.intro _ (And.intro rfl ?_))) | (refine Exists.intro _ (And.intro rfl ?_)) | (refine Exists.intro _ (Exists.intro _ (Exists.intro _ (Exists.intro _ (And.intro rfl ?_))))) | (refine ld_step rfl (by assumption) rfl ?_) | (refine lds_step rfl (by assumption) rfl ?_) | (refine fL_mk ?_) | (refine fH_mk ?_) | (refine fN_mk ?_) | (refine fLB_mk ?_) | (refine And.intro (by repeat (first | assumption | refine GLB_app ?_)) ?_) | (refine ld_step rfl ((rd_x0 _ _ _ _ _).trans rfl) rfl ?_) | (refine ld_step rfl ((rd_x1 _ _ _ _ _ _).trans rfl) rfl ?_) | (refine ld_step rfl ((rd_x2 _ _ _ _ _ _ _).trans rfl) rfl ?_) | (refine lds_step rfl ((rd_x0 _ _ _ _ _).trans rfl) rfl ?_) | (refine lds_step rfl ((rd_x1 _ _ _ _ _ _).trans rfl) rfl ?_) | (refine lds_step rfl ((rd_x2 _ _ _ _ _ _ _).trans rfl) rfl ?_) | (refine mem_step (st_eq rfl rfl rfl rfl (wr_last _ _ _ _ rfl)) ?_) | (refine drec_yes (by omega) ?_) | (refine drec_no (by omega) ?_) | (intro _) | fail)
      all_goals
        conv => whnf
        refine Halt.mk ?_
        show rC _ _ r13_3 _ _ _ _ _ _
        clear w0 hw hmk
        repeat' (conv => whnf
                 first | (refine Stop.mk ?_) | (refine fI_mk ?_) | (refine fO_mk ?_) | (refine fN_mk ?_) | fail)
        conv => whnf
        refine rLoop_ctr (c := rC (tab [(33, s33)]) k l13_0) 12 4 (false :: false :: false :: true :: false :: false :: false :: false :: false :: false :: false :: false :: true :: true :: true :: true :: true :: true :: true :: true :: true :: false :: false :: false :: false :: []) (fun i tm L H e g => (∃ X w, svAt tm 3 = .v w ∧ H = Hx ++ X ∧ Own Hx.length H 5 1 w ((l ++ marksU i).flatMap encB)) ∧ L = [] ∧ e = false ∧ g = true) (by omega) rfl ⟨⟨_, _, rfl, rfl, by rw [show marksU 0 = [] from rfl, List.append_nil]; exact hown⟩, rfl, rfl, rfl⟩ ?_
        intro i0 hi0
        conv => whnf
        intro j
        conv => whnf
        intro j
        conv => whnf
        intro j
        conv => whnf
        intro j
        conv => whnf
        intro j
        conv => whnf
        intro j
        conv => whnf
        intro j
        conv => whnf
        intro j
        conv => whnf
        intro j
        conv => whnf
        intro j
        conv => whnf
        refine Halt.mk ?_
        rintro L H' e g ⟨⟨X, w, h3, rfl, hown2⟩, rfl, rfl, rfl⟩ K kn kx kr
        conv at h3 => lhs; whnf
        subst h3
        repeat' (conv => whnf
                 first | (refine Stop.mk ?_) | (refine fI_mk ?_) | (refine fO_mk ?_) | (refine fN_mk ?_) | fail)
        conv => whnf
        refine dec_split (fun h => ?_) (fun h => ?_)
        · have hlt : i0 < 12 := by have := of_decide_eq_true h; omega
          clear kx kr
          have hll : (l ++ marksU i0).length = l.length + i0 := by rw [List.length_append, marksU_len]
          repeat' (conv => whnf
                   first | (refine Stop.mk ?_) | (with_reducible refine fI_is (a := mbV 1 (i0 : Int)) rfl ?_) | (refine fI_i64 (by first | omega | (simp only [Int.ofNat_eq_natCast] at *; omega)) ?_; intro z hz) | (refine fI_u32 (by first | omega | (simp only [Int.ofNat_eq_natCast] at *; omega)) ?_; intro z hz) | (refine fI_u8 (by first | omega | (simp only [Int.ofNat_eq_natCast] at *; omega)) ?_; intro z hz) | (refine fI_u64 (by first | omega | (simp only [Int.ofNat_eq_natCast] at *; omega)) ?_; intro z hz) | (refine fI_tdiv (by first | omega | (simp only [Int.ofNat_eq_natCast] at *; omega)) ?_; intro z hz) | (refine fI_tmod (by first | omega | (simp only [Int.ofNat_eq_natCast] at *; omega)) ?_; intro z hz) | (refine fI_gen ?_; intro z hz) | (refine fO_gen ?_; intro z hz) | (refine app_own1 (List.append_assoc _ _ _) rfl rfl (hown2.app _) (news_eq (rd_last _ _ _ _ rfl) rfl) rfl rfl rfl (by omega) (by omega) (by rw [flat_len encB_len, hll]; show ((l.length + i0) * 1 + 1) * 1 ≤ _; omega) (by rw [flat_len encB_len, hll]; show (l.length + i0) * 1 + 1 < _; omega) rfl ?_; intro w' X' g' hown' hg1 hX) | (refine dec_true (by assumption) ?_) | (refine dec_false (by assumption) ?_) | (refine dec_split (fun h => ?_) (fun h => ?_)) | (apply silE) | (exact And.intro rfl (And.intro rfl (And.intro rfl rfl))) | (refine And.intro (by first | omega | ((simp only [decide_eq_true_eq, decide_eq_false_iff_not, Bool.and_eq_true, beq_iff_eq, Bool.not_eq_true', Bool.not_eq_false'] at *); omega) | (subst_vars; simp only [Int.ofNat_eq_natCast, tq_not, fq_not, tq_and, fq_and, tq_or, fq_or, tq_beq, fq_beq, tq_bne, fq_bne, tq_dec, fq_dec, one1, V.tup.injEq, V.agg.injEq, List.cons.injEq, V.int.injEq, V.bool.injEq, true_and, and_true, decide_eq_true_eq, decide_eq_false_iff_not, Bool.and_eq_true, Bool.and_eq_false_iff, Bool.or_eq_true, Bool.or_eq_false_iff, Bool.not_eq_true', Bool.not_eq_false', beq_iff_eq, wrap_u32, wrap_i64, wrap_u8, beq_eq_false_iff_ne, ne_eq, bne_iff_ne, bne_eq_false_iff_eq, eq_self, and_self, splice, V.cells, List.take_succ_cons, List.take_zero, List.take_nil, List.drop_zero, List.drop_succ_cons, List.drop_nil, List.cons_append, List.nil_append, List.append_nil, List.length_cons, List.length_nil, Nat.zero_add, Nat.reduceAdd, if_true, if_false, Bool.false_eq_true, beq_self_eq_true, decide_eq_decide, Bool.true_eq_false, or_false, false_or, or_true, true_or, and_false, false_and, not_true_eq_false, not_false_eq_true, Bool.and_true, Bool.true_and, Bool.not_true, Bool.not_false] at *; omega)) ?_) | (refine Exists.intro _ (Exists.intro _ (And.intro rfl ?_))) | (refine Exists.intro _ (And.intro rfl ?_)) | (refine Exists.intro _ (Exists.intro _ (Exists.intro _ (Exists.intro _ (And.intro rfl ?_))))) | (refine ld_step rfl (by assumption) rfl ?_) | (refine lds_step rfl (by assumption) rfl ?_) | (refine fL_mk ?_) | (refine fH_mk ?_) | (refine fN_mk ?_) | (refine fLB_mk ?_) | (refine And.intro (by repeat (first | assumption | refine GLB_app ?_)) ?_) | (refine ld_step rfl ((rd_x0 _ _ _ _ _).trans rfl) rfl ?_) | (refine ld_step rfl ((rd_x1 _ _ _ _ _ _).trans rfl) rfl ?_) | (refine ld_step rfl ((rd_x2 _ _ _ _ _ _ _).trans rfl) rfl ?_) | (refine lds_step rfl ((rd_x0 _ _ _ _ _).trans rfl) rfl ?_) | (refine lds_step rfl ((rd_x1 _ _ _ _ _ _).trans rfl) rfl ?_) | (refine lds_step rfl ((rd_x2 _ _ _ _ _ _ _).trans rfl) rfl ?_) | (refine mem_step (st_eq rfl rfl rfl rfl (wr_last _ _ _ _ rfl)) ?_) | (refine drec_yes (by omega) ?_) | (refine drec_no (by omega) ?_) | (intro _) | fail)
          conv => whnf
          subst hz
          obtain rfl : g' = true := hg1 rfl
          refine kn hlt _ _ _ _ _ rfl ⟨⟨X', w', rfl, rfl, ?_⟩, rfl, rfl, rfl⟩
          rw [marksU_succ, ← List.append_assoc, List.flatMap_append]
          exact hown'
        · clear kn kr
          have hie : i0 = 12 := by have := of_decide_eq_false h; omega
          subst hie
          obtain ⟨bb, cc, ws, rfl, q1, q2, q3, q4⟩ := own_out hown2 (by intro hh; have := congrArg List.length hh; rw [List.length_append, marksU_len] at this; simp at this)
          rw [List.length_append, marksU_len] at q2 q4
          repeat' (conv => whnf
                   first | (refine Stop.mk ?_) | (with_reducible refine fI_is (a := (l.length : Int)) rfl ?_) | (refine fI_gen ?_; intro z hz) | (refine fO_gen ?_; intro z hz) | (refine kx _ _ _ _ _ _ ?_) | (refine pure_step (slcH_eq rfl rfl (by omega) (by omega)) ?_) | (refine dec_true (by assumption) ?_) | (refine dec_false (by assumption) ?_) | (refine dec_split (fun h => ?_) (fun h => ?_)) | (apply silE) | (exact And.intro rfl (And.intro rfl (And.intro rfl rfl))) | (refine And.intro (by first | omega | ((simp only [decide_eq_true_eq, decide_eq_false_iff_not, Bool.and_eq_true, beq_iff_eq, Bool.not_eq_true', Bool.not_eq_false'] at *); omega) | (subst_vars; simp only [Int.ofNat_eq_natCast, tq_not, fq_not, tq_and, fq_and, tq_or, fq_or, tq_beq, fq_beq, tq_bne, fq_bne, tq_dec, fq_dec, one1, V.tup.injEq, V.agg.injEq, List.cons.injEq, V.int.injEq, V.bool.injEq, true_and, and_true, decide_eq_true_eq, decide_eq_false_iff_not, Bool.and_eq_true, Bool.and_eq_false_iff, Bool.or_eq_true, Bool.or_eq_false_iff, Bool.not_eq_true', Bool.not_eq_false', beq_iff_eq, wrap_u32, wrap_i64, wrap_u8, beq_eq_false_iff_ne, ne_eq, bne_iff_ne, bne_eq_false_iff_eq, eq_self, and_self, splice, V.cells, List.take_succ_cons, List.take_zero, List.take_nil, List.drop_zero, List.drop_succ_cons, List.drop_nil, List.cons_append, List.nil_append, List.append_nil, List.length_cons, List.length_nil, Nat.zero_add, Nat.reduceAdd, if_true, if_false, Bool.false_eq_true, beq_self_eq_true, decide_eq_decide, Bool.true_eq_false, or_false, false_or, or_true, true_or, and_false, false_and, not_true_eq_false, not_false_eq_true, Bool.and_true, Bool.true_and, Bool.not_true, Bool.not_false] at *; omega)) ?_) | (refine Exists.intro _ (Exists.intro _ (And.intro rfl ?_))) | (refine Exists.intro _ (And.intro rfl ?_)) | (refine Exists.intro _ (Exists.intro _ (Exists.intro _ (Exists.intro _ (And.intro rfl ?_))))) | (refine ld_step rfl (by assumption) rfl ?_) | (refine lds_step rfl (by assumption) rfl ?_) | (refine fL_mk ?_) | (refine fH_mk ?_) | (refine fN_mk ?_) | (refine fLB_mk ?_) | (refine And.intro (by repeat (first | assumption | refine GLB_app ?_)) ?_) | (refine ld_step rfl ((rd_x0 _ _ _ _ _).trans rfl) rfl ?_) | (refine ld_step rfl ((rd_x1 _ _ _ _ _ _).trans rfl) rfl ?_) | (refine ld_step rfl ((rd_x2 _ _ _ _ _ _ _).trans rfl) rfl ?_) | (refine lds_step rfl ((rd_x0 _ _ _ _ _).trans rfl) rfl ?_) | (refine lds_step rfl ((rd_x1 _ _ _ _ _ _).trans rfl) rfl ?_) | (refine lds_step rfl ((rd_x2 _ _ _ _ _ _ _).trans rfl) rfl ?_) | (refine mem_step (st_eq rfl rfl rfl rfl (wr_last _ _ _ _ rfl)) ?_) | (refine drec_yes (by omega) ?_) | (refine drec_no (by omega) ?_) | (intro _) | fail)
          conv => whnf
          refine drec_no (by simp [one1, V.lt, V.ltL]; omega) ?_
          exact hq bb cc X ws q1 q2 q3 q4
    · have hp : 0 < l.length := List.length_pos_iff.2 hl0
      obtain ⟨b, o, rfl⟩ := hr.some hp
      repeat' (conv => whnf
               first | (refine Stop.mk ?_) | (refine fI_gen ?_; intro z hz) | (refine fO_gen ?_; intro z hz) | (refine app_own1 rfl rfl rfl w0 (news_eq (rd_app hr _) (encB_one _)) rfl (flat_len encB_len _) (encB_one _) (by omega) hp (by simp only [flat_len encB_len, List.length_nil]; omega) (by simp only [flat_len encB_len, List.length_nil]; omega) (encB_lt _) ?_; intro w1 X1 g1 hown hg1 hX) | (refine dec_true (by assumption) ?_) | (refine dec_false (by assumption) ?_) | (refine dec_split (fun h => ?_) (fun h => ?_)) | (apply silE) | (exact And.intro rfl (And.intro rfl (And.intro rfl rfl))) | (refine And.intro (by first | omega | ((simp only [decide_eq_true_eq, decide_eq_false_iff_not, Bool.and_eq_true, beq_iff_eq, Bool.not_eq_true', Bool.not_eq_false'] at *); omega) | (subst_vars; simp only [Int.ofNat_eq_natCast, tq_not, fq_not, tq_and, fq_and, tq_or, fq_or, tq_beq, fq_beq, tq_bne, fq_bne, tq_dec, fq_dec, one1, V.tup.injEq, V.agg.injEq, List.cons.injEq, V.int.injEq, V.bool.injEq, true_and, and_true, decide_eq_true_eq, decide_eq_false_iff_not, Bool.and_eq_true, Bool.and_eq_false_iff, Bool.or_eq_true, Bool.or_eq_false_iff, Bool.not_eq_true', Bool.not_eq_false', beq_iff_eq, wrap_u32, wrap_i64, wrap_u8, beq_eq_false_iff_ne, ne_eq, bne_iff_ne, bne_eq_false_iff_eq, eq_self, and_self, splice, V.cells, List.take_succ_cons, List.take_zero, List.take_nil, List.drop_zero, List.drop_succ_cons, List.drop_nil, List.cons_append, List.nil_append, List.append_nil, List.length_cons, List.length_nil, Nat.zero_add, Nat.reduceAdd, if_true, if_false, Bool.false_eq_true, beq_self_eq_true, decide_eq_decide, Bool.true_eq_false, or_false, false_or, or_true, true_or, and_false, false_and, not_true_eq_false, not_false_eq_true, Bool.and_true, Bool.true_and, Bool.not_true, Bool.not_false] at *; omega)) ?_) | (refine Exists.intro _ (Exists.intro _ (And.intro rfl ?_))) | (refine Exists.intro _ (And.intro rfl ?_)) | (refine Exists.intro _ (Exists.intro _ (Exists.intro _ (Exists.intro _ (And.intro rfl ?_))))) | (refine ld_step rfl (by assumption) rfl ?_) | (refine lds_step rfl (by assumption) rfl ?_) | (refine fL_mk ?_) | (refine fH_mk ?_) | (refine fN_mk ?_) | (refine fLB_mk ?_) | (refine And.intro (by repeat (first | assumption | refine GLB_app ?_)) ?_) | (refine ld_step rfl ((rd_x0 _ _ _ _ _).trans rfl) rfl ?_) | (refine ld_step rfl ((rd_x1 _ _ _ _ _ _).trans rfl) rfl ?_) | (refine ld_step rfl ((rd_x2 _ _ _ _ _ _ _).trans rfl) rfl ?_) | (refine lds_step rfl ((rd_x0 _ _ _ _ _).trans rfl) rfl ?_) | (refine lds_step rfl ((rd_x1 _ _ _ _ _ _).trans rfl) rfl ?_) | (refine lds_step rfl ((rd_x2 _ _ _ _ _ _ _).trans rfl) rfl ?_) | (refine mem_step (st_eq rfl rfl rfl rfl (wr_last _ _ _ _ rfl)) ?_) | (refine drec_yes (by omega) ?_) | (refine drec_no (by omega) ?_) | (intro _) | fail)
      all_goals
        obtain rfl : g1 = true := hg1 rfl
        rw [List.nil_append] at hown
        conv => whnf
        refine Halt.mk ?_
        show rC _ _ r13_3 _ _ _ _ _ _
        clear w0 hw hmk
        repeat' (conv => whnf
                 first | (refine Stop.mk ?_) | (refine fI_mk ?_) | (refine fO_mk ?_) | (refine fN_mk ?_) | fail)
        conv => whnf
        refine rLoop_ctr (c := rC (tab [(33, s33)]) k l13_0) 12 4 (false :: false :: false :: true :: false :: false :: false :: false :: false :: false :: false :: false :: true :: true :: true :: true :: true :: true :: true :: true :: true :: false :: false :: false :: false :: []) (fun i tm L H e g => (∃ X w, svAt tm 3 = .v w ∧ H = Hx ++ X ∧ Own Hx.length H 5 1 w ((l ++ marksU i).flatMap encB)) ∧ L = [] ∧ e = false ∧ g = true) (by omega) rfl ⟨⟨_, _, rfl, rfl, by rw [show marksU 0 = [] from rfl, List.append_nil]; exact hown⟩, rfl, rfl, rfl⟩ ?_
        intro i0 hi0
        conv => whnf
        intro j
        conv => whnf
        intro j
        conv => whnf
        intro j
        conv => whnf
        intro j
        conv => whnf
        intro j
        conv => whnf
        intro j
        conv => whnf
        intro j
        conv => whnf
        intro j
        conv => whnf
        intro j
        conv => whnf
        intro j
        conv => whnf
        refine Halt.mk ?_
        rintro L H' e g ⟨⟨X, w, h3, rfl, hown2⟩, rfl, rfl, rfl⟩ K kn kx kr
        conv at h3 => lhs; whnf
        subst h3
        repeat' (conv => whnf
                 first | (refine Stop.mk ?_) | (refine fI_mk ?_) | (refine fO_mk ?_) | (refine fN_mk ?_) | fail)
        conv => whnf
        refine dec_split (fun h => ?_) (fun h => ?_)
        · have hlt : i0 < 12 := by have := of_decide_eq_true h; omega
          clear kx kr
          have hll : (l ++ marksU i0).length = l.length + i0 := by rw [List.length_append, marksU_len]
          repeat' (conv => whnf
                   first | (refine Stop.mk ?_) | (with_reducible refine fI_is (a := mbV 1 (i0 : Int)) rfl ?_) | (refine fI_i64 (by first | omega | (simp only [Int.ofNat_eq_natCast] at *; omega)) ?_; intro z hz) | (refine fI_u32 (by first | omega | (simp only [Int.ofNat_eq_natCast] at *; omega)) ?_; intro z hz) | (refine fI_u8 (by first | omega | (simp only [Int.ofNat_eq_natCast] at *; omega)) ?_; intro z hz) | (refine fI_u64 (by first | omega | (simp only [Int.ofNat_eq_natCast] at *; omega)) ?_; intro z hz) | (refine fI_tdiv (by first | omega | (simp only [Int.ofNat_eq_natCast] at *; omega)) ?_; intro z hz) | (refine fI_tmod (by first | omega | (simp only [Int.ofNat_eq_natCast] at *; omega)) ?_; intro z hz) | (refine fI_gen ?_; intro z hz) | (refine fO_gen ?_; intro z hz) | (refine app_own1 (List.append_assoc _ _ _) rfl rfl (hown2.app _) (news_eq (rd_last _ _ _ _ rfl) rfl) rfl rfl rfl (by omega) (by omega) (by rw [flat_len encB_len, hll]; show ((l.length + i0) * 1 + 1) * 1 ≤ _; omega) (by rw [flat_len encB_len, hll]; show (l.length + i0) * 1 + 1 < _; omega) rfl ?_; intro w' X' g' hown' hg1 hX) | (refine dec_true (by assumption) ?_) | (refine dec_false (by assumption) ?_) | (refine dec_split (fun h => ?_) (fun h => ?_)) | (apply silE) | (exact And.intro rfl (And.intro rfl (And.intro rfl rfl))) | (refine And.intro (by first | omega | ((simp only [decide_eq_true_eq, decide_eq_false_iff_not, Bool.and_eq_true, beq_iff_eq, Bool.not_eq_true', Bool.not_eq_false'] at *); omega) | (subst_vars; simp only [Int.ofNat_eq_natCast, tq_not, fq_not, tq_and, fq_and, tq_or, fq_or, tq_beq, fq_beq, tq_bne, fq_bne, tq_dec, fq_dec, one1, V.tup.injEq, V.agg.injEq, List.cons.injEq, V.int.injEq, V.bool.injEq, true_and, and_true, decide_eq_true_eq, decide_eq_false_iff_not, Bool.and_eq_true, Bool.and_eq_false_iff, Bool.or_eq_true, Bool.or_eq_false_iff, Bool.not_eq_true', Bool.not_eq_false', beq_iff_eq, wrap_u32, wrap_i64, wrap_u8, beq_eq_false_iff_ne, ne_eq, bne_iff_ne, bne_eq_false_iff_eq, eq_self, and_self, splice, V.cells, List.take_succ_cons, List.take_zero, List.take_nil, List.drop_zero, List.drop_succ_cons, List.drop_nil, List.cons_append, List.nil_append, List.append_nil, List.length_cons, List.length_nil, Nat.zero_add, Nat.reduceAdd, if_true, if_false, Bool.false_eq_true, beq_self_eq_true, decide_eq_decide, Bool.true_eq_false, or_false, false_or, or_true, true_or, and_false, false_and, not_true_eq_false, not_false_eq_true, Bool.and_true, Bool.true_and, Bool.not_true, Bool.not_false] at *; omega)) ?_) | (refine Exists.intro _ (Exists.intro _ (And.intro rfl ?_))) | (refine Exists.intro _ (And.intro rfl ?_)) | (refine Exists.intro _ (Exists.intro _ (Exists.intro _ (Exists.intro _ (And.intro rfl ?_))))) | (refine ld_step rfl (by assumption) rfl ?_) | (refine lds_step rfl (by assumption) rfl ?_) | (refine fL_mk ?_) | (refine fH_mk ?_) | (refine fN_mk ?_) | (refine fLB_mk ?_) | (refine And.intro (by repeat (first | assumption | refine GLB_app ?_)) ?_) | (refine ld_step rfl ((rd_x0 _ _ _ _ _).trans rfl) rfl ?_) | (refine ld_step rfl ((rd_x1 _ _ _ _ _ _).trans rfl) rfl ?_) | (refine ld_step rfl ((rd_x2 _ _ _ _ _ _ _).trans rfl) rfl ?_) | (refine lds_step rfl ((rd_x0 _ _ _ _ _).trans rfl) rfl ?_) | (refine lds_step rfl ((rd_x1 _ _ _ _ _ _).trans rfl) rfl ?_) | (refine lds_step rfl ((rd_x2 _ _ _ _ _ _ _).trans rfl) rfl ?_) | (refine mem_step (st_eq rfl rfl rfl rfl (wr_last _ _ _ _ rfl)) ?_) | (refine drec_yes (by omega) ?_) | (refine drec_no (by omega) ?_) | (intro _) | fail)
          conv => whnf
          subst hz
          obtain rfl : g' = true := hg1 rfl
          refine kn hlt _ _ _ _ _ rfl ⟨⟨X', w', rfl, rfl, ?_⟩, rfl, rfl, rfl⟩
          rw [marksU_succ, ← List.append_assoc, List.flatMap_append]
          exact hown'
        · clear kn kr
          have hie : i0 = 12 := by have := of_decide_eq_false h; omega
          subst hie
          obtain ⟨bb, cc, ws, rfl, q1, q2, q3, q4⟩ := own_out hown2 (by intro hh; have := congrArg List.length hh; rw [List.length_append, marksU_len] at this; simp at this)
          rw [List.length_append, marksU_len] at q2 q4
          repeat' (conv => whnf
                   first | (refine Stop.mk ?_) | (with_reducible refine fI_is (a := (l.length : Int)) rfl ?_) | (refine fI_gen ?_; intro z hz) | (refine fO_gen ?_; intro z hz) | (refine kx _ _ _ _ _ _ ?_) | (refine pure_step (slcH_eq rfl rfl (by omega) (by omega)) ?_) | (refine dec_true (by assumption) ?_) | (refine dec_false (by assumption) ?_) | (refine dec_split (fun h => ?_) (fun h => ?_)) | (apply silE) | (exact And.intro rfl (And.intro rfl (And.intro rfl rfl))) | (refine And.intro (by first | omega | ((simp only [decide_eq_true_eq, decide_eq_false_iff_not, Bool.and_eq_true, beq_iff_eq, Bool.not_eq_true', Bool.not_eq_false'] at *); omega) | (subst_vars; simp only [Int.ofNat_eq_natCast, tq_not, fq_not, tq_and, fq_and, tq_or, fq_or, tq_beq, fq_beq, tq_bne, fq_bne, tq_dec, fq_dec, one1, V.tup.injEq, V.agg.injEq, List.cons.injEq, V.int.injEq, V.bool.injEq, true_and, and_true, decide_eq_true_eq, decide_eq_false_iff_not, Bool.and_eq_true, Bool.and_eq_false_iff, Bool.or_eq_true, Bool.or_eq_false_iff, Bool.not_eq_true', Bool.not_eq_false', beq_iff_eq, wrap_u32, wrap_i64, wrap_u8, beq_eq_false_iff_ne, ne_eq, bne_iff_ne, bne_eq_false_iff_eq, eq_self, and_self, splice, V.cells, List.take_succ_cons, List.take_zero, List.take_nil, List.drop_zero, List.drop_succ_cons, List.drop_nil, List.cons_append, List.nil_append, List.append_nil, List.length_cons, List.length_nil, Nat.zero_add, Nat.reduceAdd, if_true, if_false, Bool.false_eq_true, beq_self_eq_true, decide_eq_decide, Bool.true_eq_false, or_false, false_or, or_true, true_or, and_false, false_and, not_true_eq_false, not_false_eq_true, Bool.and_true, Bool.true_and, Bool.not_true, Bool.not_false] at *; omega)) ?_) | (refine Exists.intro _ (Exists.intro _ (And.intro rfl ?_))) | (refine Exists.intro _ (And.intro rfl ?_)) | (refine Exists.intro _ (Exists.intro _ (Exists.intro _ (Exists.intro _ (And.intro rfl ?_))))) | (refine ld_step rfl (by assumption) rfl ?_) | (refine lds_step rfl (by assumption) rfl ?_) | (refine fL_mk ?_) | (refine fH_mk ?_) | (refine fN_mk ?_) | (refine fLB_mk ?_) | (refine And.intro (by repeat (first | assumption | refine GLB_app ?_)) ?_) | (refine ld_step rfl ((rd_x0 _ _ _ _ _).trans rfl) rfl ?_) | (refine ld_step rfl ((rd_x1 _ _ _ _ _ _).trans rfl) rfl ?_) | (refine ld_step rfl ((rd_x2 _ _ _ _ _ _ _).trans rfl) rfl ?_) | (refine lds_step rfl ((rd_x0 _ _ _ _ _).trans rfl) rfl ?_) | (refine lds_step rfl ((rd_x1 _ _ _ _ _ _).trans rfl) rfl ?_) | (refine lds_step rfl ((rd_x2 _ _ _ _ _ _ _).trans rfl) rfl ?_) | (refine mem_step (st_eq rfl rfl rfl rfl (wr_last _ _ _ _ rfl)) ?_) | (refine drec_yes (by omega) ?_) | (refine drec_no (by omega) ?_) | (intro _) | fail)
          conv => whnf
          refine drec_no (by simp [one1, V.lt, V.ltL]; omega) ?_
          exact hq bb cc X ws q1 q2 q3 q4
  · exact hs.elim
end Go.Ev
