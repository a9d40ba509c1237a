/- texts joined -/
import Derived.Test.YtmdkhaoppklokaaDoorEvX
import Derived.Test.YtmdkhaoppklokaaDoorKA
import Derived.Test.YtmdkhaoppklokaaDoorKF
import Derived.Test.YtmdkhaoppklokaaDoorKapt0
set_option linter.all false
namespace Go.Ev
open Go Go.Proofs
set_option maxRecDepth 4000
set_option maxHeartbeats 4000000
def mkV (a b : Int) : Int := IntKind.i64.wrap (IntKind.i64.wrap (1000003 * IntKind.i64.wrap (a + 7)) + b)
def s48 : Sp := fun vs H Q => match vs with
  | [.int .i64 a, .int .i64 b] => Q (.int .i64 (mkV a b)) H false false
  | _ => False
theorem m48 : Mono s48 := by
  intro vs H Q Q' hQ h
  unfold s48 at h ⊢
  split at h
  all_goals first
    | exact h.elim
    | (repeat' (first | exact hQ _ _ _ _ h | refine And.imp_right (fun h => ?_) h | refine Exists.imp (fun _ h => ?_) h | (intro z; replace h := h z)))
theorem k48 : Snd Tryd.prog 2 48 s48 := by
  refine snd_of_ev (by kernel_rfl) (C := tab []) (sndC_nil) x48 n48 c48 30 ?_
  intro vs H Q hs
  unfold s48 at hs
  split at hs
  · skip
    have hq := hs; clear hs
    repeat' (conv => whnf
             first | (refine Stop.mk ?_) | (refine fI_gen ?_; intro z hz) | (refine fO_gen ?_; intro z hz) | (refine dec_true (by assumption) ?_) | (refine dec_false (by assumption) ?_) | (refine dec_split (fun h => ?_) (fun h => ?_)) | (apply silE) | (exact And.intro rfl (And.intro rfl (And.intro rfl rfl))) | (refine And.intro (by first | omega | ((simp only [decide_eq_true_eq, decide_eq_false_iff_not, Bool.and_eq_true, beq_iff_eq, Bool.not_eq_true', Bool.not_eq_false'] at *); omega) | (subst_vars; simp only [Int.ofNat_eq_natCast, tq_not, fq_not, tq_and, fq_and, tq_or, fq_or, tq_beq, fq_beq, tq_bne, fq_bne, tq_dec, fq_dec, one1, V.tup.injEq, V.agg.injEq, List.cons.injEq, V.int.injEq, V.bool.injEq, true_and, and_true, decide_eq_true_eq, decide_eq_false_iff_not, Bool.and_eq_true, Bool.and_eq_false_iff, Bool.or_eq_true, Bool.or_eq_false_iff, Bool.not_eq_true', Bool.not_eq_false', beq_iff_eq, wrap_u32, wrap_i64, wrap_u8, beq_eq_false_iff_ne, ne_eq, bne_iff_ne, bne_eq_false_iff_eq, eq_self, and_self, splice, V.cells, List.take_succ_cons, List.take_zero, List.take_nil, List.drop_zero, List.drop_succ_cons, List.drop_nil, List.cons_append, List.nil_append, List.append_nil, List.length_cons, List.length_nil, Nat.zero_add, Nat.reduceAdd, if_true, if_false, Bool.false_eq_true, beq_self_eq_true, decide_eq_decide, Bool.true_eq_false, or_false, false_or, or_true, true_or, and_false, false_and, not_true_eq_false, not_false_eq_true, Bool.and_true, Bool.true_and, Bool.not_true, Bool.not_false] at *; omega)) ?_) | (refine Exists.intro _ (Exists.intro _ (And.intro rfl ?_))) | (refine Exists.intro _ (And.intro rfl ?_)) | (refine Exists.intro _ (Exists.intro _ (Exists.intro _ (Exists.intro _ (And.intro rfl ?_))))) | (refine ld_step rfl (by assumption) rfl ?_) | (refine lds_step rfl (by assumption) rfl ?_) | (refine fL_mk ?_) | (refine fH_mk ?_) | (refine fN_mk ?_) | (refine fLB_mk ?_) | (refine And.intro (by repeat (first | assumption | refine GLB_app ?_)) ?_) | (refine ld_step rfl ((rd_x0 _ _ _ _ _).trans rfl) rfl ?_) | (refine ld_step rfl ((rd_x1 _ _ _ _ _ _).trans rfl) rfl ?_) | (refine ld_step rfl ((rd_x2 _ _ _ _ _ _ _).trans rfl) rfl ?_) | (refine lds_step rfl ((rd_x0 _ _ _ _ _).trans rfl) rfl ?_) | (refine lds_step rfl ((rd_x1 _ _ _ _ _ _).trans rfl) rfl ?_) | (refine lds_step rfl ((rd_x2 _ _ _ _ _ _ _).trans rfl) rfl ?_) | (refine mem_step (st_eq rfl rfl rfl rfl (wr_last _ _ _ _ rfl)) ?_) | (refine drec_yes (by omega) ?_) | (refine drec_no (by omega) ?_) | (intro _) | fail)
    all_goals (conv => whnf)
    all_goals
      refine leafE hq ?_
      subst_vars
      rfl
  · exact hs.elim
def mbV (a b : Int) : Int := IntKind.u8.wrap ((IntKind.u64.wrap (IntKind.u64.wrap (mkV a b) * 11400714819323198485)).fdiv (2 ^ 56))
end Go.Ev

set_option linter.all false
namespace Go.Ev
open Go Go.Proofs
set_option maxRecDepth 4000
set_option maxHeartbeats 4000000
theorem fI_isA {f : Nat} {a b : Int} {K : Int → Prop} (h : a = b) (k : K b) : fI f a K := (fI_eq f a K).mpr (h ▸ k)
theorem fO_isA {f : Nat} {a b : Bool} {K : Bool → Prop} (h : a = b) (k : K b) : fO f a K := (fO_eq f a K).mpr (h ▸ k)
theorem appD {tm : List SV} {L : List LB} {H : List B} {e g : Bool} {ty : TypeId} {bytes : Nat} {zs : List V} {x y : Opd} {K : KV} {w : V} {b m c d : Nat} {cs ds : List V} (hd : ds.length = d)
    (hx : x.val tm = some (.sl (some (b, 0)) m c)) (hy : y.val tm = some w) (hb : H[b]? = some (.rw ty cs)) (hc : cs.length = c) (hm : m ≤ c) (hall : (cs.take m).all V.one = true) (hd1 : ds.all V.one = true) (hz1 : zs.all V.one = true) (hn : news H 1 w = some (d, ds)) (hlt : V.ltL 0 ds = true)
    (hsz : (m + d) * bytes ≤ 140737488355328) (hsz2 : m + d ≤ 9223372036854775807) (hz : zs.length = 1)
    (hK : ∀ (b' c' : Nat) (cs' : List V) (H' : List B) (g' : Bool), H'[b']? = some (.rw ty cs') → cs'.length = c' → True → m + d ≤ c' → cs'.take (m + d) = cs.take m ++ ds → ((b' = b ∧ c' = c) ∨ (H.length ≤ b' ∧ H'[b]? = H[b]?)) → (∀ i, i < H.length → i ≠ b → H'[i]? = H[i]?) → H.length ≤ H'.length → K (.v (.sl (some (b', 0)) (m + d) c')) L H' e g') :
    AtApp (evApp tm L H e g ty 1 bytes zs x y K) := by
  subst hd
  exact appF hx hy hb hc hm hall hd1 hz1 hn hlt hsz hsz2 hz hK
theorem appDN {tm : List SV} {L : List LB} {H : List B} {e g : Bool} {ty : TypeId} {bytes : Nat} {zs : List V} {x y : Opd} {K : KV} {w : V} {d : Nat} {ds : List V} (hd : ds.length = d)
    (hx : x.val tm = some (.sl none 0 0)) (hy : y.val tm = some w) (hn : news H 1 w = some (d, ds)) (hpos : 0 < d)
    (hsz : d * bytes ≤ 140737488355328) (hsz2 : d ≤ 9223372036854775807) (hz : zs.length = 1) (hd1 : ds.all V.one = true) (hz1 : zs.all V.one = true)
    (hK : ∀ (c' : Nat) (cs' : List V), cs'.length = c' → cs'.all V.one = true → d ≤ c' → cs'.take d = ds → K (.v (.sl (some (H.length, 0)) d c')) L (H ++ [.rw ty cs']) e true) :
    AtApp (evApp tm L H e g ty 1 bytes zs x y K) := by
  subst hd
  exact appN hx hy hn hpos hsz hsz2 hz hd1 hz1 hK
theorem mkslK {tm : List SV} {L : List LB} {H : List B} {e g : Bool} {ty : TypeId} {zs : List V} {by_ : Nat} {l c : Opd} {k k' : IntKind} (n : Nat) (hl : l.val tm = some (.int k (n : Int))) (hc : c.val tm = some (.int k' (n : Int))) (h : n * zs.length ≤ 16777216 ∧ by_ * n ≤ 281474976710656 ∧ n ≤ 9223372036854775807) :
    memOp tm L H e g (.mksl ty zs by_ l c) = some (.v (.sl (some (H.length, 0)) n n), L, H ++ [.rw ty (reps n zs)], e, true) := by
  simp only [memOp, hl, hc]
  rw [if_pos ⟨by omega, Int.le_refl _, by rw [Int.toNat_natCast]; exact h.1, by rw [← Int.natCast_mul]; omega, by omega⟩, Int.toNat_natCast]
theorem wrap_ni {n i m : Nat} (h : n ≤ m) (hi : i < 64) (hm : m ≤ 4096 := by decide) : IntKind.i64.wrap ((n : Int) + (i : Int)) = ((n + i : Nat) : Int) := by rw [wrap_i64_id (by omega) (by omega)]; omega
theorem rd_get {H : List B} {b i : Nat} {ty : TypeId} {cs : List V} {v : V} (hb : H[b]? = some (.rw ty cs)) (hi : cs[i]? = some v) : ∀ p, p = 0 + i * 1 → rd H b p 1 = some [v] := by
  intro p hp
  obtain ⟨hl, h1⟩ := List.getElem?_eq_some_iff.1 hi
  rw [hp, Nat.zero_add, Nat.mul_one, rd_blk hb (by omega), List.drop_eq_getElem_cons hl, h1]; rfl
def InD (T : TypeId) (H3 H : List B) : Prop := (∀ x, x < H3.length → H[x]? = H3[x]?) ∧ H.length = H3.length + 1 ∧ ∃ ds, H[H3.length]? = some (.rw T ds) ∧ ds.length = 64 ∧ ds.all V.one = true ∧ V.ltL 0 ds = true
theorem InD.init {T : TypeId} {H3 : List B} {cs : List V} (h1 : cs.length = 64) (h2 : cs.all V.one = true) (h3 : V.ltL 0 cs = true) : InD T H3 (H3 ++ [.rw T cs]) :=
  ⟨fun x hx => List.getElem?_append_left hx, by rw [List.length_append]; rfl, cs, List.getElem?_concat_length, h1, h2, h3⟩
theorem InD.step {T : TypeId} {H3 H : List B} {i : Nat} {v : V} (h : InD T H3 H) (hi : i < 64) (hv : V.ltL 0 [v] = true) (ho : [v].all V.one = true) : ∃ H', wr H H3.length (0 + ((i : Nat) : Int).toNat * 1) [v] = some H' ∧ InD T H3 H' := by
  obtain ⟨h1, h2, ds, h3, h4, h5, h6⟩ := h
  have hl : 0 + ((i : Nat) : Int).toNat * 1 + [v].length ≤ ds.length := by show 0 + ((i : Nat) : Int).toNat * 1 + 1 ≤ _; omega
  refine ⟨_, wr_blk h3 hl, fun x hx => ?_, by rw [List.length_set]; exact h2, _, by rw [List.getElem?_set, if_pos rfl, if_pos (by omega)], by rw [splice_lenA hl]; exact h4, one_splice h5 ho, ltL_splice h6 hv⟩
  rw [List.getElem?_set, if_neg (by omega)]
  exact h1 x hx
def svA : List SV → Nat → SV
  | [], _ => undefV
  | x :: _, 0 => x
  | _ :: l, n + 1 => svA l n
end Go.Ev
