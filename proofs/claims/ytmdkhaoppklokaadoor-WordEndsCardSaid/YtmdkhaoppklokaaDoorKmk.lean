/- texts joined -/
import Derived.Test.YtmdkhaoppklokaaDoorEvU
import Derived.Test.YtmdkhaoppklokaaDoorKA
import Derived.Test.YtmdkhaoppklokaaDoorKF
import Derived.Test.YtmdkhaoppklokaaDoorKapt0
set_option linter.all false
namespace Go.Ev
open Go Go.Proofs
set_option maxRecDepth 4000
set_option maxHeartbeats 4000000
def mkV (a b : Int) : Int := IntKind.i64.wrap (IntKind.i64.wrap (1000003 * IntKind.i64.wrap (a + 7)) + b)
def s48 : Sp := fun vs H Q => match vs with
  | [.int .i64 a, .int .i64 b] => Q (.int .i64 (mkV a b)) H false false
  | _ => False
theorem m48 : Mono s48 := by
  intro vs H Q Q' hQ h
  unfold s48 at h ⊢
  split at h
  all_goals first
    | exact h.elim
    | (repeat' (first | exact hQ _ _ _ _ h | refine And.imp_right (fun h => ?_) h | refine Exists.imp (fun _ h => ?_) h | (intro z; replace h := h z)))
theorem k48 : Snd Tryd.prog 2 48 s48 := by
  refine snd_of_ev (by kernel_rfl) (C := tab []) (sndC_nil) x48 n48 c48 30 ?_
  intro vs H Q hs
  unfold s48 at hs
  split at hs
  · skip
    have hq := hs; clear hs
    repeat' (conv => whnf
             first | (refine Stop.mk ?_) | (refine fI_gen ?_; intro z hz) | fail)
    all_goals (conv => whnf)
    all_goals
      refine leafE hq ?_
      subst_vars
      rfl
  · exact hs.elim
def mbV (a b : Int) : Int := IntKind.u8.wrap ((IntKind.u64.wrap (IntKind.u64.wrap (mkV a b) * 11400714819323198485)).fdiv (2 ^ 56))
def s33 : Sp := fun vs H Q => match vs with
  | [.int .i64 a, .int .i64 b] => Q (.int .u8 (mbV a b)) H false false
  | _ => False
theorem m33 : Mono s33 := by
  intro vs H Q Q' hQ h
  unfold s33 at h ⊢
  split at h
  all_goals first
    | exact h.elim
    | (repeat' (first | exact hQ _ _ _ _ h | refine And.imp_right (fun h => ?_) h | refine Exists.imp (fun _ h => ?_) h | (intro z; replace h := h z)))
theorem k33 : Snd Tryd.prog 2 33 s33 := by
  refine snd_of_ev (by kernel_rfl) (C := tab [(48, s48)]) (sndC_cons k48 (sndC_nil)) x33 n33 c33 30 ?_
  intro vs H Q hs
  unfold s33 at hs
  split at hs
  · skip
    have hq := hs; clear hs
    repeat' (conv => whnf
             first | (refine Stop.mk ?_) | (refine fI_gen ?_; intro z hz) | fail)
    all_goals (conv => whnf)
    all_goals
      refine leafE hq ?_
      subst_vars
      rfl
  · exact hs.elim
end Go.Ev

set_option linter.all false
namespace Go.Ev
open Go Go.Proofs
set_option maxRecDepth 4000
set_option maxHeartbeats 4000000
theorem fI_isA {f : Nat} {a b : Int} {K : Int → Prop} (h : a = b) (k : K b) : fI f a K := (fI_eq f a K).mpr (h ▸ k)
theorem fO_isA {f : Nat} {a b : Bool} {K : Bool → Prop} (h : a = b) (k : K b) : fO f a K := (fO_eq f a K).mpr (h ▸ k)
theorem appD {tm : List SV} {L : List LB} {H : List B} {e g : Bool} {ty : TypeId} {bytes : Nat} {zs : List V} {x y : Opd} {K : KV} {w : V} {b m c d : Nat} {cs ds : List V} (hd : ds.length = d)
    (hx : x.val tm = some (.sl (some (b, 0)) m c)) (hy : y.val tm = some w) (hb : H[b]? = some (.rw ty cs)) (hc : cs.length = c) (hm : m ≤ c) (hall : (cs.take m).all V.one = true) (hd1 : ds.all V.one = true) (hz1 : zs.all V.one = true) (hn : news H 1 w = some (d, ds)) (hlt : V.ltL 0 ds = true)
    (hsz : (m + d) * bytes ≤ 140737488355328) (hsz2 : m + d ≤ 9223372036854775807) (hz : zs.length = 1)
    (hK : ∀ (b' c' : Nat) (cs' : List V) (H' : List B) (g' : Bool), H'[b']? = some (.rw ty cs') → cs'.length = c' → True → m + d ≤ c' → cs'.take (m + d) = cs.take m ++ ds → ((b' = b ∧ c' = c) ∨ (H.length ≤ b' ∧ H'[b]? = H[b]?)) → (∀ i, i < H.length → i ≠ b → H'[i]? = H[i]?) → H.length ≤ H'.length → K (.v (.sl (some (b', 0)) (m + d) c')) L H' e g') :
    AtApp (evApp tm L H e g ty 1 bytes zs x y K) := by
  subst hd
  exact appF hx hy hb hc hm hall hd1 hz1 hn hlt hsz hsz2 hz hK
theorem appDN {tm : List SV} {L : List LB} {H : List B} {e g : Bool} {ty : TypeId} {bytes : Nat} {zs : List V} {x y : Opd} {K : KV} {w : V} {d : Nat} {ds : List V} (hd : ds.length = d)
    (hx : x.val tm = some (.sl none 0 0)) (hy : y.val tm = some w) (hn : news H 1 w = some (d, ds)) (hpos : 0 < d)
    (hsz : d * bytes ≤ 140737488355328) (hsz2 : d ≤ 9223372036854775807) (hz : zs.length = 1) (hd1 : ds.all V.one = true) (hz1 : zs.all V.one = true)
    (hK : ∀ (c' : Nat) (cs' : List V), cs'.length = c' → cs'.all V.one = true → d ≤ c' → cs'.take d = ds → K (.v (.sl (some (H.length, 0)) d c')) L (H ++ [.rw ty cs']) e true) :
    AtApp (evApp tm L H e g ty 1 bytes zs x y K) := by
  subst hd
  exact appN hx hy hn hpos hsz hsz2 hz hd1 hz1 hK
theorem mkslK {tm : List SV} {L : List LB} {H : List B} {e g : Bool} {ty : TypeId} {zs : List V} {by_ : Nat} {l c : Opd} {k k' : IntKind} (n : Nat) (hl : l.val tm = some (.int k (n : Int))) (hc : c.val tm = some (.int k' (n : Int))) (h : n * zs.length ≤ 16777216 ∧ by_ * n ≤ 281474976710656 ∧ n ≤ 9223372036854775807) :
    memOp tm L H e g (.mksl ty zs by_ l c) = some (.v (.sl (some (H.length, 0)) n n), L, H ++ [.rw ty (reps n zs)], e, true) := by
  simp only [memOp, hl, hc]
  rw [if_pos ⟨by omega, Int.le_refl _, by rw [Int.toNat_natCast]; exact h.1, by rw [← Int.natCast_mul]; omega, by omega⟩, Int.toNat_natCast]
theorem wrap_ni {n i m : Nat} (h : n ≤ m) (hi : i < 64) (hm : m ≤ 4096 := by decide) : IntKind.i64.wrap ((n : Int) + (i : Int)) = ((n + i : Nat) : Int) := by rw [wrap_i64_id (by omega) (by omega)]; omega
theorem rd_get {H : List B} {b i : Nat} {ty : TypeId} {cs : List V} {v : V} (hb : H[b]? = some (.rw ty cs)) (hi : cs[i]? = some v) : ∀ p, p = 0 + i * 1 → rd H b p 1 = some [v] := by
  intro p hp
  obtain ⟨hl, h1⟩ := List.getElem?_eq_some_iff.1 hi
  rw [hp, Nat.zero_add, Nat.mul_one, rd_blk hb (by omega), List.drop_eq_getElem_cons hl, h1]; rfl
def InD (T : TypeId) (H3 H : List B) : Prop := (∀ x, x < H3.length → H[x]? = H3[x]?) ∧ H.length = H3.length + 1 ∧ ∃ ds, H[H3.length]? = some (.rw T ds) ∧ ds.length = 64 ∧ ds.all V.one = true ∧ V.ltL 0 ds = true
theorem InD.init {T : TypeId} {H3 : List B} {cs : List V} (h1 : cs.length = 64) (h2 : cs.all V.one = true) (h3 : V.ltL 0 cs = true) : InD T H3 (H3 ++ [.rw T cs]) :=
  ⟨fun x hx => List.getElem?_append_left hx, by rw [List.length_append]; rfl, cs, List.getElem?_concat_length, h1, h2, h3⟩
theorem InD.step {T : TypeId} {H3 H : List B} {i : Nat} {v : V} (h : InD T H3 H) (hi : i < 64) (hv : V.ltL 0 [v] = true) (ho : [v].all V.one = true) : ∃ H', wr H H3.length (0 + ((i : Nat) : Int).toNat * 1) [v] = some H' ∧ InD T H3 H' := by
  obtain ⟨h1, h2, ds, h3, h4, h5, h6⟩ := h
  have hl : 0 + ((i : Nat) : Int).toNat * 1 + [v].length ≤ ds.length := by show 0 + ((i : Nat) : Int).toNat * 1 + 1 ≤ _; omega
  refine ⟨_, wr_blk h3 hl, fun x hx => ?_, by rw [List.length_set]; exact h2, _, by rw [List.getElem?_set, if_pos rfl, if_pos (by omega)], by rw [splice_lenA hl]; exact h4, one_splice h5 ho, ltL_splice h6 hv⟩
  rw [List.getElem?_set, if_neg (by omega)]
  exact h1 x hx
def svA : List SV → Nat → SV
  | [], _ => undefV
  | x :: _, 0 => x
  | _ :: l, n + 1 => svA l n
end Go.Ev

set_option linter.all false
namespace Go.Ev
open Go Go.Proofs
set_option maxRecDepth 40000
set_option maxHeartbeats 4000000
def msB (k m : Nat) : List V := (List.range m).map fun i : Nat => V.int .u8 (mbV (k : Int) (i : Int))
theorem msB_succ (k m : Nat) : msB k (m + 1) = msB k m ++ [V.int .u8 (mbV (k : Int) (m : Int))] := by simp [msB, List.range_succ]
theorem msB_len (k m : Nat) : (msB k m).length = m := by simp [msB]
theorem msB_take (k m n : Nat) (h : n ≤ m) : (msB k m).take n = msB k n := by
  unfold msB
  rw [← List.map_take, List.take_range, Nat.min_eq_left h]
theorem msB_one {cs : List V} {k m n : Nat} (h : cs.take m = msB k n) : (cs.take m).all V.one = true := by
  rw [h, List.all_eq_true]
  intro x hx
  obtain ⟨i, _, rfl⟩ := List.mem_map.1 hx
  rfl
theorem msB_rd {H : List B} {b : Nat} {ty : TypeId} {cs : List V} {k m : Nat} (hb : H[b]? = some (.rw ty cs)) (hm : m ≤ cs.length) (ht : cs.take m = msB k m) {i : Nat} (hi : i < m) : ∀ p, p = 0 + i * 1 → rd H b p 1 = some [V.int .u8 (mbV (k : Int) (i : Int))] := by
  intro p hp
  rw [hp, rd_blk hb (by omega)]
  have h1 : (cs.drop (0 + i * 1)).take 1 = [cs[i]'(by omega)] := by
    rw [Nat.zero_add, Nat.mul_one, List.drop_eq_getElem_cons (show i < cs.length by omega)]; rfl
  have h2 : cs[i]'(by omega) = V.int .u8 (mbV (k : Int) (i : Int)) := by
    have h3 : (cs.take m)[i]? = (msB k m)[i]? := by rw [ht]
    rw [List.getElem?_take_of_lt hi, List.getElem?_eq_getElem (show i < cs.length by omega)] at h3
    rw [List.getElem?_eq_getElem (by rw [msB_len]; exact hi)] at h3
    have h4 := Option.some.inj h3
    rw [h4]
    simp [msB]
  rw [h1, h2]
def InBB (T : TypeId) (bk ck n k i : Nat) (H3 H : List B) (v : SV) : Prop :=
  (∀ x, x < H3.length → x ≠ bk → H[x]? = H3[x]?) ∧ H3.length ≤ H.length ∧ RowA H T bk ck (fun cs => cs.take n = msB k n) ∧
  ∃ (b' c' : Nat) (cs' : List V), v = .v (.sl (some (b', 0)) (n + i) c') ∧ H[b']? = some (.rw T cs') ∧ cs'.length = c' ∧ True ∧ n + i ≤ c' ∧ cs'.take (n + i) = msB k (n + i) ∧ (b' = bk ∨ H3.length ≤ b')
theorem InBB.init {T : TypeId} {bk ck n k : Nat} {H3 : List B} (hn : n ≤ ck) (hr : RowA H3 T bk ck (fun cs => cs.take n = msB k n)) : InBB T bk ck n k 0 H3 H3 (.v (.sl (some (bk, 0)) n ck)) := by
  refine ⟨fun _ _ _ => rfl, Nat.le_refl _, hr, ?_⟩
  obtain ⟨cs, h1, h2, h3, h4⟩ := hr
  exact ⟨bk, ck, cs, rfl, h1, h2, h3, hn, h4, Or.inl rfl⟩
theorem InBB.step {T : TypeId} {bk ck n k i : Nat} {H3 H4 X H5 : List B} {b' c' b2 c2 : Nat} {cs' cs2 : List V}
    (hfr : ∀ x, x < H3.length → x ≠ bk → H4[x]? = H3[x]?) (hle : H3.length ≤ H4.length) (hrow : RowA H4 T bk ck (fun cs => cs.take n = msB k n)) (hb' : H4[b']? = some (.rw T cs')) (hc' : cs'.length = c') (hd' : b' = bk ∨ H3.length ≤ b') (ht' : cs'.take (n + i) = msB k (n + i))
    (q1 : H5[b2]? = some (.rw T cs2)) (q2 : cs2.length = c2) (q3 : True) (q4 : n + i + [V.int .u8 (mbV (k : Int) ((n + i : Nat) : Int))].length ≤ c2) (q5 : cs2.take (n + i + [V.int .u8 (mbV (k : Int) ((n + i : Nat) : Int))].length) = cs'.take (n + i) ++ [V.int .u8 (mbV (k : Int) ((n + i : Nat) : Int))])
    (q6 : (b2 = b' ∧ c2 = c') ∨ ((H4 ++ X).length ≤ b2 ∧ H5[b']? = (H4 ++ X)[b']?)) (q7 : ∀ x, x < (H4 ++ X).length → x ≠ b' → H5[x]? = (H4 ++ X)[x]?) (q8 : (H4 ++ X).length ≤ H5.length) :
    InBB T bk ck n k (i + 1) H3 H5 (.v (.sl (some (b2, 0)) (n + i + [V.int .u8 (mbV (k : Int) ((n + i : Nat) : Int))].length) c2)) := by
  have hX : ∀ x, x < H4.length → (H4 ++ X)[x]? = H4[x]? := fun x hx => List.getElem?_append_left hx
  have hlX : H4.length ≤ (H4 ++ X).length := by rw [List.length_append]; omega
  have hb4 : b' < H4.length := (List.getElem?_eq_some_iff.1 hb').1
  have ht2 : cs2.take (n + (i + 1)) = msB k (n + (i + 1)) := by rw [show n + (i + 1) = n + i + 1 from rfl, msB_succ, ← ht']; exact q5
  refine ⟨fun x hx hne => ?_, by omega, ?_, b2, c2, cs2, rfl, q1, q2, q3, q4, ht2, ?_⟩
  · rw [q7 x (by omega) (by rcases hd' with rfl | h <;> omega), hX x (by omega)]
    exact hfr x hx hne
  · by_cases hbb : bk = b'
    · subst hbb
      rcases q6 with ⟨rfl, rfl⟩ | ⟨_, h⟩
      · obtain ⟨cs, h1, h2, h3, h4⟩ := hrow
        have : cs = cs' := by have := h1.symm.trans hb'; simpa using this
        subst this
        exact ⟨cs2, q1, q2.trans (hc'.symm.trans h2), q3, (take_of_take ht2 (by omega)).trans (msB_take _ _ _ (by omega))⟩
      · exact hrow.same (h.trans (hX _ hb4))
    · exact hrow.same ((q7 bk (by have := hrow.lt; omega) hbb).trans (hX _ hrow.lt))
  · rcases q6 with ⟨rfl, _⟩ | ⟨h, _⟩
    · exact hd'
    · exact Or.inr (by omega)
end Go.Ev

set_option linter.all false
namespace Go.Ev
open Go Go.Proofs
set_option maxRecDepth 40000
set_option maxHeartbeats 4000000
def msI (k m : Nat) : List V := (List.range m).map fun i : Nat => V.int .i64 (mkV (k : Int) (i : Int))
theorem msI_succ (k m : Nat) : msI k (m + 1) = msI k m ++ [V.int .i64 (mkV (k : Int) (m : Int))] := by simp [msI, List.range_succ]
theorem msI_len (k m : Nat) : (msI k m).length = m := by simp [msI]
theorem msI_take (k m n : Nat) (h : n ≤ m) : (msI k m).take n = msI k n := by
  unfold msI
  rw [← List.map_take, List.take_range, Nat.min_eq_left h]
theorem msI_one {cs : List V} {k m n : Nat} (h : cs.take m = msI k n) : (cs.take m).all V.one = true := by
  rw [h, List.all_eq_true]
  intro x hx
  obtain ⟨i, _, rfl⟩ := List.mem_map.1 hx
  rfl
theorem msI_rd {H : List B} {b : Nat} {ty : TypeId} {cs : List V} {k m : Nat} (hb : H[b]? = some (.rw ty cs)) (hm : m ≤ cs.length) (ht : cs.take m = msI k m) {i : Nat} (hi : i < m) : ∀ p, p = 0 + i * 1 → rd H b p 1 = some [V.int .i64 (mkV (k : Int) (i : Int))] := by
  intro p hp
  rw [hp, rd_blk hb (by omega)]
  have h1 : (cs.drop (0 + i * 1)).take 1 = [cs[i]'(by omega)] := by
    rw [Nat.zero_add, Nat.mul_one, List.drop_eq_getElem_cons (show i < cs.length by omega)]; rfl
  have h2 : cs[i]'(by omega) = V.int .i64 (mkV (k : Int) (i : Int)) := by
    have h3 : (cs.take m)[i]? = (msI k m)[i]? := by rw [ht]
    rw [List.getElem?_take_of_lt hi, List.getElem?_eq_getElem (show i < cs.length by omega)] at h3
    rw [List.getElem?_eq_getElem (by rw [msI_len]; exact hi)] at h3
    have h4 := Option.some.inj h3
    rw [h4]
    simp [msI]
  rw [h1, h2]
def InBI (T : TypeId) (bk ck n k i : Nat) (H3 H : List B) (v : SV) : Prop :=
  (∀ x, x < H3.length → x ≠ bk → H[x]? = H3[x]?) ∧ H3.length ≤ H.length ∧ RowA H T bk ck (fun cs => cs.take n = msI k n) ∧
  ∃ (b' c' : Nat) (cs' : List V), v = .v (.sl (some (b', 0)) (n + i) c') ∧ H[b']? = some (.rw T cs') ∧ cs'.length = c' ∧ True ∧ n + i ≤ c' ∧ cs'.take (n + i) = msI k (n + i) ∧ (b' = bk ∨ H3.length ≤ b')
theorem InBI.init {T : TypeId} {bk ck n k : Nat} {H3 : List B} (hn : n ≤ ck) (hr : RowA H3 T bk ck (fun cs => cs.take n = msI k n)) : InBI T bk ck n k 0 H3 H3 (.v (.sl (some (bk, 0)) n ck)) := by
  refine ⟨fun _ _ _ => rfl, Nat.le_refl _, hr, ?_⟩
  obtain ⟨cs, h1, h2, h3, h4⟩ := hr
  exact ⟨bk, ck, cs, rfl, h1, h2, h3, hn, h4, Or.inl rfl⟩
theorem InBI.step {T : TypeId} {bk ck n k i : Nat} {H3 H4 X H5 : List B} {b' c' b2 c2 : Nat} {cs' cs2 : List V}
    (hfr : ∀ x, x < H3.length → x ≠ bk → H4[x]? = H3[x]?) (hle : H3.length ≤ H4.length) (hrow : RowA H4 T bk ck (fun cs => cs.take n = msI k n)) (hb' : H4[b']? = some (.rw T cs')) (hc' : cs'.length = c') (hd' : b' = bk ∨ H3.length ≤ b') (ht' : cs'.take (n + i) = msI k (n + i))
    (q1 : H5[b2]? = some (.rw T cs2)) (q2 : cs2.length = c2) (q3 : True) (q4 : n + i + [V.int .i64 (mkV (k : Int) ((n + i : Nat) : Int))].length ≤ c2) (q5 : cs2.take (n + i + [V.int .i64 (mkV (k : Int) ((n + i : Nat) : Int))].length) = cs'.take (n + i) ++ [V.int .i64 (mkV (k : Int) ((n + i : Nat) : Int))])
    (q6 : (b2 = b' ∧ c2 = c') ∨ ((H4 ++ X).length ≤ b2 ∧ H5[b']? = (H4 ++ X)[b']?)) (q7 : ∀ x, x < (H4 ++ X).length → x ≠ b' → H5[x]? = (H4 ++ X)[x]?) (q8 : (H4 ++ X).length ≤ H5.length) :
    InBI T bk ck n k (i + 1) H3 H5 (.v (.sl (some (b2, 0)) (n + i + [V.int .i64 (mkV (k : Int) ((n + i : Nat) : Int))].length) c2)) := by
  have hX : ∀ x, x < H4.length → (H4 ++ X)[x]? = H4[x]? := fun x hx => List.getElem?_append_left hx
  have hlX : H4.length ≤ (H4 ++ X).length := by rw [List.length_append]; omega
  have hb4 : b' < H4.length := (List.getElem?_eq_some_iff.1 hb').1
  have ht2 : cs2.take (n + (i + 1)) = msI k (n + (i + 1)) := by rw [show n + (i + 1) = n + i + 1 from rfl, msI_succ, ← ht']; exact q5
  refine ⟨fun x hx hne => ?_, by omega, ?_, b2, c2, cs2, rfl, q1, q2, q3, q4, ht2, ?_⟩
  · rw [q7 x (by omega) (by rcases hd' with rfl | h <;> omega), hX x (by omega)]
    exact hfr x hx hne
  · by_cases hbb : bk = b'
    · subst hbb
      rcases q6 with ⟨rfl, rfl⟩ | ⟨_, h⟩
      · obtain ⟨cs, h1, h2, h3, h4⟩ := hrow
        have : cs = cs' := by have := h1.symm.trans hb'; simpa using this
        subst this
        exact ⟨cs2, q1, q2.trans (hc'.symm.trans h2), q3, (take_of_take ht2 (by omega)).trans (msI_take _ _ _ (by omega))⟩
      · exact hrow.same (h.trans (hX _ hb4))
    · exact hrow.same ((q7 bk (by have := hrow.lt; omega) hbb).trans (hX _ hrow.lt))
  · rcases q6 with ⟨rfl, _⟩ | ⟨h, _⟩
    · exact hd'
    · exact Or.inr (by omega)
end Go.Ev
