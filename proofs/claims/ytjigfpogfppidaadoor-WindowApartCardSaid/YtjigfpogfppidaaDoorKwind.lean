/- dev: windows: Decode, At -/
import Derived.Test.YtjigfpogfppidaaDoorKwinf
set_option linter.all false
namespace Go.Ev
open Go Go.Proofs
set_option maxRecDepth 4000
set_option maxHeartbeats 4000000
theorem fstI_get {α : Type} {P : α → Bool} {l : List α} (h : 0 ≤ fstI P l) : ∃ j, ∃ hj : j < l.length, fstI P l = (j : Int) ∧ P l[j] = true := by
  unfold fstI at h ⊢
  split at h
  · rename_i i hi
    rw [List.findIdx?_eq_some_iff_getElem] at hi
    obtain ⟨h1, h2, _⟩ := hi
    exact ⟨i, h1, by simp, h2⟩
  · exact absurd h (by decide)
/-- where a device begins -/
def bAt (ds : List D5) (i : Int) : Int := (ds.map D5.b).getD i.toNat 0
theorem bAt_get {ds : List D5} {j : Nat} (h : j < ds.length) : bAt ds (j : Int) = ds[j].b := by
  unfold bAt
  rw [List.getD_eq_getElem?_getD, List.getElem?_eq_getElem (by simpa using h)]
  simp
theorem rd_base {H : List B} {b o : Nat} {ds : List D5} (h : RdD H (some (b, o)) ds) {j : Nat} (hj : j < ds.length) : ∀ p, p = o + j * 5 + 1 → rd H b p 1 = some [.int .u32 ds[j].b] := fun p hp => by
  subst hp
  have := rd_sub (rd_el encD_len h j hj _ rfl) 1 1 (by decide)
  exact this
theorem in_le {a e bj : Int} {d : D5} (h : inP (a, e) (dR d) = true) (hb : bj = d.b) : bj ≤ a := by
  have := of_decide_eq_true h
  simp only [dR] at this
  omega
theorem dec_cases {P : Int × Int → Bool} {ds : List D5} {x : Bool} {i : Int} (hx : x = true ↔ rightL ds ∧ 0 ≤ fstI P (ds.map dR)) (hi : i = (if x then fstI P (ds.map dR) else 0)) :
    (x = false ∧ i = 0 ∧ ¬ (rightL ds ∧ 0 ≤ fstI P (ds.map dR))) ∨ (x = true ∧ ∃ j, ∃ hj : j < ds.length, i = (j : Int) ∧ P (dR ds[j]) = true ∧ fstI P (ds.map dR) = (j : Int) ∧ rightL ds) := by
  cases x with
  | false => exact Or.inl ⟨rfl, hi, fun h => absurd (hx.2 h) Bool.false_ne_true⟩
  | true =>
    obtain ⟨h1, h2⟩ := hx.1 rfl
    obtain ⟨j, hj, h3, h4⟩ := fstI_get h2
    rw [List.length_map] at hj
    rw [List.getElem_map] at h4
    exact Or.inr ⟨rfl, j, hj, hi.trans h3, h4, h3, h1⟩
def DecQ (H : List B) (w : Int) (wr : Bool) (a n d : Int) (ds : List D5) (Q : Post) : Prop := ∀ (i off : Int) (x : Bool), (x = true ↔ accP w wr a n d ∧ rightL ds ∧ 0 ≤ fstI (inP (a, a + n - 1)) (ds.map dR)) → i = (if x then fstI (inP (a, a + n - 1)) (ds.map dR) else 0) → off = (if x then a - bAt ds i else 0) → Q (.tup [.int .i64 i, .int .i64 off, .bool x]) H false false
def s14 : Sp := fun vs H Q => match vs with
  | [.sl p m c, .agg [.int .i64 w, .bool wr, .int .u32 a, .int .i64 n, .int .u32 d]] => ((0 ≤ a ∧ a < 4294967296) ∧ (0 ≤ d ∧ d < 4294967296) ∧ (-9223372036854775808 ≤ n ∧ n < 9223372036854775808)) ∧ GLB H ∧ ∃ ds : List D5, m = ds.length ∧ ds.length ≤ 4096 ∧ (∀ d, d ∈ ds → okD d) ∧ RdD H p ds ∧ DecQ H w wr a n d ds Q
  | _ => False
theorem k14 : Snd Tryd.prog 1 14 s14 := by
  refine snd_of_ev (by kernel_rfl) (C := tab [(15, s15), (31, s31d)]) (sndC_cons k15 (sndC_cons k31d (sndC_nil))) x14 n14 c14 30 ?_
  intro vs H Q hs
  unfold s14 at hs
  split at hs
  · rename_i p m c w wr a n d
    obtain ⟨hp, hg, ds, rfl, hl, hok, hr, hq⟩ := hs
    by_cases h1 : accP w wr a n d
    · have hfit := alP_fit h1.2.1 hp.1.1 hp.1.2
      obtain ⟨e, he⟩ : ∃ e, e = a + n - 1 := ⟨_, rfl⟩
      have hi1 : (if accP w wr a n d then a + n - 1 else 0) = e := by rw [if_pos h1, he]
      unfold DecQ at hq
      rw [← he] at hq
      repeat' (conv => whnf
               first
               | (refine Stop.mk ?_)
               | (refine fO_is (decide_eq_true h1) ?_)
               | (refine fI_is hi1 ?_)
               | (refine fI_is (if_pos h1) ?_)
               | (refine fI_i64 (by first | omega | (simp only [Int.ofNat_eq_natCast] at *; omega)) ?_; intro z hz)
               | (refine fI_u32 (by first | omega | (simp only [Int.ofNat_eq_natCast] at *; omega)) ?_; intro z hz)
               | (refine fI_u8 (by first | omega | (simp only [Int.ofNat_eq_natCast] at *; omega)) ?_; intro z hz)
               | (refine fI_u64 (by first | omega | (simp only [Int.ofNat_eq_natCast] at *; omega)) ?_; intro z hz)
               | (refine fI_tdiv (by first | omega | (simp only [Int.ofNat_eq_natCast] at *; omega)) ?_; intro z hz)
               | (refine fI_tmod (by first | omega | (simp only [Int.ofNat_eq_natCast] at *; omega)) ?_; intro z hz)
               | (refine fI_gen ?_; intro z hz)
               | (refine fO_gen ?_; intro z hz)
               | (refine And.intro hp (And.intro hg ?_))
               | (refine Exists.intro ds (Exists.intro (a, e) (And.intro rfl (And.intro hl (And.intro hok (And.intro (hr.app _) (And.intro ((rd_x0 _ _ _ _ _).trans rfl) ?_)))))); intro i1 x1 hx hi; rcases dec_cases hx hi with ⟨rfl, rfl, hno⟩ | ⟨rfl, j, hj, rfl, hP, hF, hR⟩; all_goals (try (obtain ⟨b, o, rfl⟩ := hr.some hj; have eb := rd_base hr hj; obtain ⟨bj, hbj⟩ : ∃ bj, bj = ds[j].b := ⟨_, rfl⟩; have hbd := (hok _ (List.getElem_mem hj)).1; rw [← hbj] at eb hbd; have hle : bj ≤ a := in_le hP hbj)))
               | (refine pure_step (ixs_eq rfl rfl (by omega) (by omega)) ?_)
               | (refine ld_step rfl (rd_app (eb _ (by omega)) _) rfl ?_)
               | (refine lds_step rfl (rd_app (eb _ (by omega)) _) rfl ?_)
               | (refine dec_true (by assumption) ?_)
               | (refine dec_false (by assumption) ?_)
               | ((with_reducible refine dec_trueH ?tst ?_); (case tst => (first | rfl | ((try clear hC); (try clear kn); (try clear kx); (try clear kr); (try clear kn1); (try clear kx1); (try clear kr1); (try clear kn2); (try clear kx2); (try clear kr2); (try clear kn3); (try clear kx3); (try clear kr3); subst_vars; simp only [Int.ofNat_eq_natCast, tq_not, fq_not, tq_and, fq_and, tq_or, fq_or, tq_beq, fq_beq, tq_bne, fq_bne, tq_dec, fq_dec, one1, V.tup.injEq, V.agg.injEq, List.cons.injEq, V.int.injEq, V.bool.injEq, true_and, and_true, decide_eq_true_eq, decide_eq_false_iff_not, Bool.and_eq_true, Bool.and_eq_false_iff, Bool.or_eq_true, Bool.or_eq_false_iff, Bool.not_eq_true', Bool.not_eq_false', beq_iff_eq, wrap_u32, wrap_i64, wrap_u8, beq_eq_false_iff_ne, ne_eq, bne_iff_ne, bne_eq_false_iff_eq, eq_self, and_self, splice, V.cells, List.take_succ_cons, List.take_zero, List.take_nil, List.drop_zero, List.drop_succ_cons, List.drop_nil, List.cons_append, List.nil_append, List.append_nil, List.length_cons, List.length_nil, Nat.zero_add, Nat.reduceAdd, if_true, if_false, Bool.false_eq_true, beq_self_eq_true, decide_eq_decide, Bool.true_eq_false, or_false, false_or, or_true, true_or, and_false, false_and, not_true_eq_false, not_false_eq_true, Bool.and_true, Bool.true_and, Bool.not_true, Bool.not_false] at *; first | done | assumption | omega))); intro h)
               | ((with_reducible refine dec_falseH ?tst ?_); (case tst => (first | rfl | ((try clear hC); (try clear kn); (try clear kx); (try clear kr); (try clear kn1); (try clear kx1); (try clear kr1); (try clear kn2); (try clear kx2); (try clear kr2); (try clear kn3); (try clear kx3); (try clear kr3); subst_vars; simp only [Int.ofNat_eq_natCast, tq_not, fq_not, tq_and, fq_and, tq_or, fq_or, tq_beq, fq_beq, tq_bne, fq_bne, tq_dec, fq_dec, one1, V.tup.injEq, V.agg.injEq, List.cons.injEq, V.int.injEq, V.bool.injEq, true_and, and_true, decide_eq_true_eq, decide_eq_false_iff_not, Bool.and_eq_true, Bool.and_eq_false_iff, Bool.or_eq_true, Bool.or_eq_false_iff, Bool.not_eq_true', Bool.not_eq_false', beq_iff_eq, wrap_u32, wrap_i64, wrap_u8, beq_eq_false_iff_ne, ne_eq, bne_iff_ne, bne_eq_false_iff_eq, eq_self, and_self, splice, V.cells, List.take_succ_cons, List.take_zero, List.take_nil, List.drop_zero, List.drop_succ_cons, List.drop_nil, List.cons_append, List.nil_append, List.append_nil, List.length_cons, List.length_nil, Nat.zero_add, Nat.reduceAdd, if_true, if_false, Bool.false_eq_true, beq_self_eq_true, decide_eq_decide, Bool.true_eq_false, or_false, false_or, or_true, true_or, and_false, false_and, not_true_eq_false, not_false_eq_true, Bool.and_true, Bool.true_and, Bool.not_true, Bool.not_false] at *; first | done | assumption | omega))); intro h)
               | (refine dec_split (fun h => ?_) (fun h => ?_))
               | (apply silE)
               | (refine Both.mk ?_ ?_)
               | (refine And.intro rfl ?_)
               | (exact And.intro rfl (And.intro rfl (And.intro rfl rfl)))
               | (refine And.intro (by first | omega | ((simp only [decide_eq_true_eq, decide_eq_false_iff_not, Bool.and_eq_true, beq_iff_eq, Bool.not_eq_true', Bool.not_eq_false'] at *); omega) | (subst_vars; simp only [Int.ofNat_eq_natCast, tq_not, fq_not, tq_and, fq_and, tq_or, fq_or, tq_beq, fq_beq, tq_bne, fq_bne, tq_dec, fq_dec, one1, V.tup.injEq, V.agg.injEq, List.cons.injEq, V.int.injEq, V.bool.injEq, true_and, and_true, decide_eq_true_eq, decide_eq_false_iff_not, Bool.and_eq_true, Bool.and_eq_false_iff, Bool.or_eq_true, Bool.or_eq_false_iff, Bool.not_eq_true', Bool.not_eq_false', beq_iff_eq, wrap_u32, wrap_i64, wrap_u8, beq_eq_false_iff_ne, ne_eq, bne_iff_ne, bne_eq_false_iff_eq, eq_self, and_self, splice, V.cells, List.take_succ_cons, List.take_zero, List.take_nil, List.drop_zero, List.drop_succ_cons, List.drop_nil, List.cons_append, List.nil_append, List.append_nil, List.length_cons, List.length_nil, Nat.zero_add, Nat.reduceAdd, if_true, if_false, Bool.false_eq_true, beq_self_eq_true, decide_eq_decide, Bool.true_eq_false, or_false, false_or, or_true, true_or, and_false, false_and, not_true_eq_false, not_false_eq_true, Bool.and_true, Bool.true_and, Bool.not_true, Bool.not_false] at *; omega)) ?_)
               | (refine Exists.intro _ (Exists.intro _ (And.intro rfl ?_)))
               | (refine Exists.intro _ (And.intro rfl ?_))
               | (refine Exists.intro _ (Exists.intro _ (Exists.intro _ (Exists.intro _ (And.intro rfl ?_)))))
               | (refine ld_step rfl (by assumption) rfl ?_)
               | (refine lds_step rfl (by assumption) rfl ?_)
               | (refine fL_mk ?_)
               | (refine fH_mk ?_)
               | (refine fN_mk ?_)
               | (refine fLB_mk ?_)
               | (refine And.intro (by repeat (first | assumption | refine GLB_app ?_)) ?_)
               | (refine ld_step rfl ((rd_x0 _ _ _ _ _).trans rfl) rfl ?_)
               | (refine ld_step rfl ((rd_x1 _ _ _ _ _ _).trans rfl) rfl ?_)
               | (refine ld_step rfl ((rd_x2 _ _ _ _ _ _ _).trans rfl) rfl ?_)
               | (refine lds_step rfl ((rd_x0 _ _ _ _ _).trans rfl) rfl ?_)
               | (refine lds_step rfl ((rd_x1 _ _ _ _ _ _).trans rfl) rfl ?_)
               | (refine lds_step rfl ((rd_x2 _ _ _ _ _ _ _).trans rfl) rfl ?_)
               | (refine mem_step (st_eq rfl rfl rfl rfl (wr_last _ _ _ _ rfl)) ?_)
               | (refine drec_yes (by omega) ?_)
               | (refine drec_no (by omega) ?_)
               | (intro _)
               | fail)
      all_goals (conv => whnf)
      · exact leafH (hq 0 0 false ⟨fun h => (by cases h), fun h => absurd h.2 hno⟩ rfl rfl) (by subst_vars; rfl) (take_app1 H _)
      · refine leafH (hq (j : Int) (a - bj) true ⟨fun _ => ⟨h1, hR, by omega⟩, fun _ => rfl⟩ (by rw [hF]; rfl) (by rw [bAt_get hj, ← hbj]; rfl)) (by subst_vars; rfl) (take_app1 H _)
    · have hqv := hq 0 0 false ⟨fun h => (by cases h), fun h => absurd h.1 h1⟩ rfl rfl
      repeat' (conv => whnf
               first
               | (refine Stop.mk ?_)
               | (refine fO_is (decide_eq_false h1) ?_)
               | (refine fI_is (if_neg h1) ?_)
               | (refine fI_gen ?_; intro z hz)
               | (refine fO_gen ?_; intro z hz)
               | (refine And.intro hp (And.intro hg ?_))
               | (refine dec_true (by assumption) ?_)
               | (refine dec_false (by assumption) ?_)
               | (refine dec_split (fun h => ?_) (fun h => ?_))
               | (apply silE)
               | (refine Both.mk ?_ ?_)
               | (refine And.intro rfl ?_)
               | (exact And.intro rfl (And.intro rfl (And.intro rfl rfl)))
               | (refine And.intro (by first | omega | ((simp only [decide_eq_true_eq, decide_eq_false_iff_not, Bool.and_eq_true, beq_iff_eq, Bool.not_eq_true', Bool.not_eq_false'] at *); omega) | (subst_vars; simp only [Int.ofNat_eq_natCast, tq_not, fq_not, tq_and, fq_and, tq_or, fq_or, tq_beq, fq_beq, tq_bne, fq_bne, tq_dec, fq_dec, one1, V.tup.injEq, V.agg.injEq, List.cons.injEq, V.int.injEq, V.bool.injEq, true_and, and_true, decide_eq_true_eq, decide_eq_false_iff_not, Bool.and_eq_true, Bool.and_eq_false_iff, Bool.or_eq_true, Bool.or_eq_false_iff, Bool.not_eq_true', Bool.not_eq_false', beq_iff_eq, wrap_u32, wrap_i64, wrap_u8, beq_eq_false_iff_ne, ne_eq, bne_iff_ne, bne_eq_false_iff_eq, eq_self, and_self, splice, V.cells, List.take_succ_cons, List.take_zero, List.take_nil, List.drop_zero, List.drop_succ_cons, List.drop_nil, List.cons_append, List.nil_append, List.append_nil, List.length_cons, List.length_nil, Nat.zero_add, Nat.reduceAdd, if_true, if_false, Bool.false_eq_true, beq_self_eq_true, decide_eq_decide, Bool.true_eq_false, or_false, false_or, or_true, true_or, and_false, false_and, not_true_eq_false, not_false_eq_true, Bool.and_true, Bool.true_and, Bool.not_true, Bool.not_false] at *; omega)) ?_)
               | (refine Exists.intro _ (Exists.intro _ (And.intro rfl ?_)))
               | (refine Exists.intro _ (And.intro rfl ?_))
               | (refine Exists.intro _ (Exists.intro _ (Exists.intro _ (Exists.intro _ (And.intro rfl ?_)))))
               | (refine ld_step rfl (by assumption) rfl ?_)
               | (refine lds_step rfl (by assumption) rfl ?_)
               | (refine fL_mk ?_)
               | (refine fH_mk ?_)
               | (refine fN_mk ?_)
               | (refine fLB_mk ?_)
               | (refine And.intro (by repeat (first | assumption | refine GLB_app ?_)) ?_)
               | (refine ld_step rfl ((rd_x0 _ _ _ _ _).trans rfl) rfl ?_)
               | (refine ld_step rfl ((rd_x1 _ _ _ _ _ _).trans rfl) rfl ?_)
               | (refine ld_step rfl ((rd_x2 _ _ _ _ _ _ _).trans rfl) rfl ?_)
               | (refine lds_step rfl ((rd_x0 _ _ _ _ _).trans rfl) rfl ?_)
               | (refine lds_step rfl ((rd_x1 _ _ _ _ _ _).trans rfl) rfl ?_)
               | (refine lds_step rfl ((rd_x2 _ _ _ _ _ _ _).trans rfl) rfl ?_)
               | (refine mem_step (st_eq rfl rfl rfl rfl (wr_last _ _ _ _ rfl)) ?_)
               | (refine drec_yes (by omega) ?_)
               | (refine drec_no (by omega) ?_)
               | (intro _)
               | fail)
      all_goals (conv => whnf)
      all_goals first
        | exact leafE hqv rfl
        | exact leafH hqv rfl (take_app1 H _)
  · exact hs.elim
def s18 : Sp := fun vs H Q => match vs with
  | [.sl p m c, .int .u32 x] => ∃ ds : List D5, m = ds.length ∧ ds.length ≤ 4096 ∧ (∀ d, d ∈ ds → okD d) ∧ RdD H p ds ∧ FindQ H (hasR x) ds Q
  | _ => False
theorem m18 : Mono s18 := by
  intro vs H Q Q' hQ h
  unfold s18 at h ⊢
  split at h
  · obtain ⟨ds, h1, h2, h3, h4, h5⟩ := h
    exact ⟨ds, h1, h2, h3, h4, fun i x q1 q2 => hQ _ _ _ _ (h5 i x q1 q2)⟩
  · exact h.elim
theorem k18 : Snd Tryd.prog 1 18 s18 := by
  refine snd_of_ev (by kernel_rfl) (C := tab [(31, s31a)]) (sndC_cons k31a (sndC_nil)) x18 n18 c18 30 ?_
  intro vs H Q hs
  unfold s18 at hs
  split at hs
  · rename_i p m c x
    obtain ⟨ds, rfl, hl, hok, hr, hq⟩ := hs
    repeat' (conv => whnf
             first
             | (refine Stop.mk ?_)
             | (refine fI_gen ?_; intro z hz)
             | (refine fO_gen ?_; intro z hz)
             | (refine Exists.intro ds (Exists.intro x (And.intro rfl (And.intro hl (And.intro hok (And.intro (hr.app _) (And.intro ((rd_x0 _ _ _ _ _).trans rfl) ?_)))))); intro i1 x1 hx hi)
             | (refine dec_true (by assumption) ?_)
             | (refine dec_false (by assumption) ?_)
             | ((with_reducible refine dec_trueH ?tst ?_); (case tst => (first | rfl | ((try clear hC); (try clear kn); (try clear kx); (try clear kr); (try clear kn1); (try clear kx1); (try clear kr1); (try clear kn2); (try clear kx2); (try clear kr2); (try clear kn3); (try clear kx3); (try clear kr3); subst_vars; simp only [Int.ofNat_eq_natCast, tq_not, fq_not, tq_and, fq_and, tq_or, fq_or, tq_beq, fq_beq, tq_bne, fq_bne, tq_dec, fq_dec, one1, V.tup.injEq, V.agg.injEq, List.cons.injEq, V.int.injEq, V.bool.injEq, true_and, and_true, decide_eq_true_eq, decide_eq_false_iff_not, Bool.and_eq_true, Bool.and_eq_false_iff, Bool.or_eq_true, Bool.or_eq_false_iff, Bool.not_eq_true', Bool.not_eq_false', beq_iff_eq, wrap_u32, wrap_i64, wrap_u8, beq_eq_false_iff_ne, ne_eq, bne_iff_ne, bne_eq_false_iff_eq, eq_self, and_self, splice, V.cells, List.take_succ_cons, List.take_zero, List.take_nil, List.drop_zero, List.drop_succ_cons, List.drop_nil, List.cons_append, List.nil_append, List.append_nil, List.length_cons, List.length_nil, Nat.zero_add, Nat.reduceAdd, if_true, if_false, Bool.false_eq_true, beq_self_eq_true, decide_eq_decide, Bool.true_eq_false, or_false, false_or, or_true, true_or, and_false, false_and, not_true_eq_false, not_false_eq_true, Bool.and_true, Bool.true_and, Bool.not_true, Bool.not_false] at *; first | done | assumption | omega))); intro h)
             | ((with_reducible refine dec_falseH ?tst ?_); (case tst => (first | rfl | ((try clear hC); (try clear kn); (try clear kx); (try clear kr); (try clear kn1); (try clear kx1); (try clear kr1); (try clear kn2); (try clear kx2); (try clear kr2); (try clear kn3); (try clear kx3); (try clear kr3); subst_vars; simp only [Int.ofNat_eq_natCast, tq_not, fq_not, tq_and, fq_and, tq_or, fq_or, tq_beq, fq_beq, tq_bne, fq_bne, tq_dec, fq_dec, one1, V.tup.injEq, V.agg.injEq, List.cons.injEq, V.int.injEq, V.bool.injEq, true_and, and_true, decide_eq_true_eq, decide_eq_false_iff_not, Bool.and_eq_true, Bool.and_eq_false_iff, Bool.or_eq_true, Bool.or_eq_false_iff, Bool.not_eq_true', Bool.not_eq_false', beq_iff_eq, wrap_u32, wrap_i64, wrap_u8, beq_eq_false_iff_ne, ne_eq, bne_iff_ne, bne_eq_false_iff_eq, eq_self, and_self, splice, V.cells, List.take_succ_cons, List.take_zero, List.take_nil, List.drop_zero, List.drop_succ_cons, List.drop_nil, List.cons_append, List.nil_append, List.append_nil, List.length_cons, List.length_nil, Nat.zero_add, Nat.reduceAdd, if_true, if_false, Bool.false_eq_true, beq_self_eq_true, decide_eq_decide, Bool.true_eq_false, or_false, false_or, or_true, true_or, and_false, false_and, not_true_eq_false, not_false_eq_true, Bool.and_true, Bool.true_and, Bool.not_true, Bool.not_false] at *; first | done | assumption | omega))); intro h)
             | (refine dec_split (fun h => ?_) (fun h => ?_))
             | (apply silE)
             | (refine Both.mk ?_ ?_)
             | (refine And.intro rfl ?_)
             | (exact And.intro rfl (And.intro rfl (And.intro rfl rfl)))
             | (refine And.intro (by first | omega | ((simp only [decide_eq_true_eq, decide_eq_false_iff_not, Bool.and_eq_true, beq_iff_eq, Bool.not_eq_true', Bool.not_eq_false'] at *); omega) | (subst_vars; simp only [Int.ofNat_eq_natCast, tq_not, fq_not, tq_and, fq_and, tq_or, fq_or, tq_beq, fq_beq, tq_bne, fq_bne, tq_dec, fq_dec, one1, V.tup.injEq, V.agg.injEq, List.cons.injEq, V.int.injEq, V.bool.injEq, true_and, and_true, decide_eq_true_eq, decide_eq_false_iff_not, Bool.and_eq_true, Bool.and_eq_false_iff, Bool.or_eq_true, Bool.or_eq_false_iff, Bool.not_eq_true', Bool.not_eq_false', beq_iff_eq, wrap_u32, wrap_i64, wrap_u8, beq_eq_false_iff_ne, ne_eq, bne_iff_ne, bne_eq_false_iff_eq, eq_self, and_self, splice, V.cells, List.take_succ_cons, List.take_zero, List.take_nil, List.drop_zero, List.drop_succ_cons, List.drop_nil, List.cons_append, List.nil_append, List.append_nil, List.length_cons, List.length_nil, Nat.zero_add, Nat.reduceAdd, if_true, if_false, Bool.false_eq_true, beq_self_eq_true, decide_eq_decide, Bool.true_eq_false, or_false, false_or, or_true, true_or, and_false, false_and, not_true_eq_false, not_false_eq_true, Bool.and_true, Bool.true_and, Bool.not_true, Bool.not_false] at *; omega)) ?_)
             | (refine Exists.intro _ (Exists.intro _ (And.intro rfl ?_)))
             | (refine Exists.intro _ (And.intro rfl ?_))
             | (refine Exists.intro _ (Exists.intro _ (Exists.intro _ (Exists.intro _ (And.intro rfl ?_)))))
             | (refine ld_step rfl (by assumption) rfl ?_)
             | (refine lds_step rfl (by assumption) rfl ?_)
             | (refine fL_mk ?_)
             | (refine fH_mk ?_)
             | (refine fN_mk ?_)
             | (refine fLB_mk ?_)
             | (refine And.intro (by repeat (first | assumption | refine GLB_app ?_)) ?_)
             | (refine ld_step rfl ((rd_x0 _ _ _ _ _).trans rfl) rfl ?_)
             | (refine ld_step rfl ((rd_x1 _ _ _ _ _ _).trans rfl) rfl ?_)
             | (refine ld_step rfl ((rd_x2 _ _ _ _ _ _ _).trans rfl) rfl ?_)
             | (refine lds_step rfl ((rd_x0 _ _ _ _ _).trans rfl) rfl ?_)
             | (refine lds_step rfl ((rd_x1 _ _ _ _ _ _).trans rfl) rfl ?_)
             | (refine lds_step rfl ((rd_x2 _ _ _ _ _ _ _).trans rfl) rfl ?_)
             | (refine mem_step (st_eq rfl rfl rfl rfl (wr_last _ _ _ _ rfl)) ?_)
             | (refine drec_yes (by omega) ?_)
             | (refine drec_no (by omega) ?_)
             | (intro _)
             | fail)
    all_goals (conv => whnf)
    all_goals exact leafH (hq _ _ hx hi) (by subst_vars; rfl) (take_app1 H _)
  · exact hs.elim
/-! the document's answer -/
end Go.Ev
