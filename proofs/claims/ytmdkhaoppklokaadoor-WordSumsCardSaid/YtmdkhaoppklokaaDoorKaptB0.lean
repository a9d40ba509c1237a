/- texts joined -/
import Derived.Test.YtmdkhaoppklokaaDoorKmk
set_option linter.all false
namespace Go.Ev
open Go Go.Proofs
set_option maxRecDepth 40000
set_option maxHeartbeats 4000000
def msB (k m : Nat) : List V := (List.range m).map fun i : Nat => V.int .u8 (mbV (k : Int) (i : Int))
theorem msB_succ (k m : Nat) : msB k (m + 1) = msB k m ++ [V.int .u8 (mbV (k : Int) (m : Int))] := by simp [msB, List.range_succ]
theorem msB_take (k m n : Nat) (h : n ≤ m) : (msB k m).take n = msB k n := by
  unfold msB
  rw [← List.map_take, List.take_range, Nat.min_eq_left h]
def InBB (T : TypeId) (bk ck n k i : Nat) (H3 H : List B) (v : SV) : Prop :=
  (∀ x, x < H3.length → x ≠ bk → H[x]? = H3[x]?) ∧ H3.length ≤ H.length ∧ RowA H T bk ck (fun cs => cs.take n = msB k n) ∧
  ∃ (b' c' : Nat) (cs' : List V), v = .v (.sl (some (b', 0)) (n + i) c') ∧ H[b']? = some (.rw T cs') ∧ cs'.length = c' ∧ True ∧ n + i ≤ c' ∧ cs'.take (n + i) = msB k (n + i) ∧ (b' = bk ∨ H3.length ≤ b')
theorem InBB.init {T : TypeId} {bk ck n k : Nat} {H3 : List B} (hn : n ≤ ck) (hr : RowA H3 T bk ck (fun cs => cs.take n = msB k n)) : InBB T bk ck n k 0 H3 H3 (.v (.sl (some (bk, 0)) n ck)) := by
  refine ⟨fun _ _ _ => rfl, Nat.le_refl _, hr, ?_⟩
  obtain ⟨cs, h1, h2, h3, h4⟩ := hr
  exact ⟨bk, ck, cs, rfl, h1, h2, h3, hn, h4, Or.inl rfl⟩
theorem InBB.step {T : TypeId} {bk ck n k i : Nat} {H3 H4 X H5 : List B} {b' c' b2 c2 : Nat} {cs' cs2 : List V}
    (hfr : ∀ x, x < H3.length → x ≠ bk → H4[x]? = H3[x]?) (hle : H3.length ≤ H4.length) (hrow : RowA H4 T bk ck (fun cs => cs.take n = msB k n)) (hb' : H4[b']? = some (.rw T cs')) (hc' : cs'.length = c') (hd' : b' = bk ∨ H3.length ≤ b') (ht' : cs'.take (n + i) = msB k (n + i))
    (q1 : H5[b2]? = some (.rw T cs2)) (q2 : cs2.length = c2) (q3 : True) (q4 : n + i + [V.int .u8 (mbV (k : Int) ((n + i : Nat) : Int))].length ≤ c2) (q5 : cs2.take (n + i + [V.int .u8 (mbV (k : Int) ((n + i : Nat) : Int))].length) = cs'.take (n + i) ++ [V.int .u8 (mbV (k : Int) ((n + i : Nat) : Int))])
    (q6 : (b2 = b' ∧ c2 = c') ∨ ((H4 ++ X).length ≤ b2 ∧ H5[b']? = (H4 ++ X)[b']?)) (q7 : ∀ x, x < (H4 ++ X).length → x ≠ b' → H5[x]? = (H4 ++ X)[x]?) (q8 : (H4 ++ X).length ≤ H5.length) :
    InBB T bk ck n k (i + 1) H3 H5 (.v (.sl (some (b2, 0)) (n + i + [V.int .u8 (mbV (k : Int) ((n + i : Nat) : Int))].length) c2)) := by
  have hX : ∀ x, x < H4.length → (H4 ++ X)[x]? = H4[x]? := fun x hx => List.getElem?_append_left hx
  have hlX : H4.length ≤ (H4 ++ X).length := by rw [List.length_append]; omega
  have hb4 : b' < H4.length := (List.getElem?_eq_some_iff.1 hb').1
  have ht2 : cs2.take (n + (i + 1)) = msB k (n + (i + 1)) := by rw [show n + (i + 1) = n + i + 1 from rfl, msB_succ, ← ht']; exact q5
  refine ⟨fun x hx hne => ?_, by omega, ?_, b2, c2, cs2, rfl, q1, q2, q3, q4, ht2, ?_⟩
  · rw [q7 x (by omega) (by rcases hd' with rfl | h <;> omega), hX x (by omega)]
    exact hfr x hx hne
  · by_cases hbb : bk = b'
    · subst hbb
      rcases q6 with ⟨rfl, rfl⟩ | ⟨_, h⟩
      · obtain ⟨cs, h1, h2, h3, h4⟩ := hrow
        have : cs = cs' := by have := h1.symm.trans hb'; simpa using this
        subst this
        exact ⟨cs2, q1, q2.trans (hc'.symm.trans h2), q3, (take_of_take ht2 (by omega)).trans (msB_take _ _ _ (by omega))⟩
      · exact hrow.same (h.trans (hX _ hb4))
    · exact hrow.same ((q7 bk (by have := hrow.lt; omega) hbb).trans (hX _ hrow.lt))
  · rcases q6 with ⟨rfl, _⟩ | ⟨h, _⟩
    · exact hd'
    · exact Or.inr (by omega)
end Go.Ev

set_option linter.all false
namespace Go.Ev
open Go Go.Proofs
set_option maxRecDepth 40000
set_option maxHeartbeats 4000000
end Go.Ev

set_option linter.all false
namespace Go.Ev
open Go Go.Proofs
set_option maxRecDepth 40000
set_option maxHeartbeats 4000000
def msI (k m : Nat) : List V := (List.range m).map fun i : Nat => V.int .i64 (mkV (k : Int) (i : Int))
theorem msI_succ (k m : Nat) : msI k (m + 1) = msI k m ++ [V.int .i64 (mkV (k : Int) (m : Int))] := by simp [msI, List.range_succ]
theorem msI_len (k m : Nat) : (msI k m).length = m := by simp [msI]
theorem msI_take (k m n : Nat) (h : n ≤ m) : (msI k m).take n = msI k n := by
  unfold msI
  rw [← List.map_take, List.take_range, Nat.min_eq_left h]
theorem msI_one {cs : List V} {k m n : Nat} (h : cs.take m = msI k n) : (cs.take m).all V.one = true := by
  rw [h, List.all_eq_true]
  intro x hx
  obtain ⟨i, _, rfl⟩ := List.mem_map.1 hx
  rfl
theorem msI_rd {H : List B} {b : Nat} {ty : TypeId} {cs : List V} {k m : Nat} (hb : H[b]? = some (.rw ty cs)) (hm : m ≤ cs.length) (ht : cs.take m = msI k m) {i : Nat} (hi : i < m) : ∀ p, p = 0 + i * 1 → rd H b p 1 = some [V.int .i64 (mkV (k : Int) (i : Int))] := by
  intro p hp
  rw [hp, rd_blk hb (by omega)]
  have h1 : (cs.drop (0 + i * 1)).take 1 = [cs[i]'(by omega)] := by
    rw [Nat.zero_add, Nat.mul_one, List.drop_eq_getElem_cons (show i < cs.length by omega)]; rfl
  have h2 : cs[i]'(by omega) = V.int .i64 (mkV (k : Int) (i : Int)) := by
    have h3 : (cs.take m)[i]? = (msI k m)[i]? := by rw [ht]
    rw [List.getElem?_take_of_lt hi, List.getElem?_eq_getElem (show i < cs.length by omega)] at h3
    rw [List.getElem?_eq_getElem (by rw [msI_len]; exact hi)] at h3
    have h4 := Option.some.inj h3
    rw [h4]
    simp [msI]
  rw [h1, h2]
def InBI (T : TypeId) (bk ck n k i : Nat) (H3 H : List B) (v : SV) : Prop :=
  (∀ x, x < H3.length → x ≠ bk → H[x]? = H3[x]?) ∧ H3.length ≤ H.length ∧ RowA H T bk ck (fun cs => cs.take n = msI k n) ∧
  ∃ (b' c' : Nat) (cs' : List V), v = .v (.sl (some (b', 0)) (n + i) c') ∧ H[b']? = some (.rw T cs') ∧ cs'.length = c' ∧ True ∧ n + i ≤ c' ∧ cs'.take (n + i) = msI k (n + i) ∧ (b' = bk ∨ H3.length ≤ b')
theorem InBI.init {T : TypeId} {bk ck n k : Nat} {H3 : List B} (hn : n ≤ ck) (hr : RowA H3 T bk ck (fun cs => cs.take n = msI k n)) : InBI T bk ck n k 0 H3 H3 (.v (.sl (some (bk, 0)) n ck)) := by
  refine ⟨fun _ _ _ => rfl, Nat.le_refl _, hr, ?_⟩
  obtain ⟨cs, h1, h2, h3, h4⟩ := hr
  exact ⟨bk, ck, cs, rfl, h1, h2, h3, hn, h4, Or.inl rfl⟩
theorem InBI.step {T : TypeId} {bk ck n k i : Nat} {H3 H4 X H5 : List B} {b' c' b2 c2 : Nat} {cs' cs2 : List V}
    (hfr : ∀ x, x < H3.length → x ≠ bk → H4[x]? = H3[x]?) (hle : H3.length ≤ H4.length) (hrow : RowA H4 T bk ck (fun cs => cs.take n = msI k n)) (hb' : H4[b']? = some (.rw T cs')) (hc' : cs'.length = c') (hd' : b' = bk ∨ H3.length ≤ b') (ht' : cs'.take (n + i) = msI k (n + i))
    (q1 : H5[b2]? = some (.rw T cs2)) (q2 : cs2.length = c2) (q3 : True) (q4 : n + i + [V.int .i64 (mkV (k : Int) ((n + i : Nat) : Int))].length ≤ c2) (q5 : cs2.take (n + i + [V.int .i64 (mkV (k : Int) ((n + i : Nat) : Int))].length) = cs'.take (n + i) ++ [V.int .i64 (mkV (k : Int) ((n + i : Nat) : Int))])
    (q6 : (b2 = b' ∧ c2 = c') ∨ ((H4 ++ X).length ≤ b2 ∧ H5[b']? = (H4 ++ X)[b']?)) (q7 : ∀ x, x < (H4 ++ X).length → x ≠ b' → H5[x]? = (H4 ++ X)[x]?) (q8 : (H4 ++ X).length ≤ H5.length) :
    InBI T bk ck n k (i + 1) H3 H5 (.v (.sl (some (b2, 0)) (n + i + [V.int .i64 (mkV (k : Int) ((n + i : Nat) : Int))].length) c2)) := by
  have hX : ∀ x, x < H4.length → (H4 ++ X)[x]? = H4[x]? := fun x hx => List.getElem?_append_left hx
  have hlX : H4.length ≤ (H4 ++ X).length := by rw [List.length_append]; omega
  have hb4 : b' < H4.length := (List.getElem?_eq_some_iff.1 hb').1
  have ht2 : cs2.take (n + (i + 1)) = msI k (n + (i + 1)) := by rw [show n + (i + 1) = n + i + 1 from rfl, msI_succ, ← ht']; exact q5
  refine ⟨fun x hx hne => ?_, by omega, ?_, b2, c2, cs2, rfl, q1, q2, q3, q4, ht2, ?_⟩
  · rw [q7 x (by omega) (by rcases hd' with rfl | h <;> omega), hX x (by omega)]
    exact hfr x hx hne
  · by_cases hbb : bk = b'
    · subst hbb
      rcases q6 with ⟨rfl, rfl⟩ | ⟨_, h⟩
      · obtain ⟨cs, h1, h2, h3, h4⟩ := hrow
        have : cs = cs' := by have := h1.symm.trans hb'; simpa using this
        subst this
        exact ⟨cs2, q1, q2.trans (hc'.symm.trans h2), q3, (take_of_take ht2 (by omega)).trans (msI_take _ _ _ (by omega))⟩
      · exact hrow.same (h.trans (hX _ hb4))
    · exact hrow.same ((q7 bk (by have := hrow.lt; omega) hbb).trans (hX _ hrow.lt))
  · rcases q6 with ⟨rfl, _⟩ | ⟨h, _⟩
    · exact hd'
    · exact Or.inr (by omega)
end Go.Ev

set_option linter.all false
namespace Go.Ev
open Go Go.Proofs
set_option maxRecDepth 40000
set_option maxHeartbeats 4000000
def StNB (H1 : List B) (T ST : TypeId) (R : Nat → List V → Prop) (i : Nat) (H : List B) : Prop :=
  (∀ x, x < H1.length → H[x]? = H1[x]?) ∧ H1.length < H.length ∧ RowA H ST H1.length 2 (fun gcs => ∀ j, j < i → j < 2 → ∃ (b' c' : Nat) (cs' : List V), gcs[j]? = some (.sl (some (b', 0)) 64 c') ∧ H[b']? = some (.rw T cs') ∧ cs'.length = c' ∧ 64 ≤ c' ∧ R j cs' ∧ H1.length < b')
theorem StNB.step {H1 H3 H : List B} {T ST : TypeId} {k : Nat} {R : Nat → List V → Prop} (hst : StNB H1 T ST R k H3) (hk : k < 2)
    (hfr : ∀ x, x < H3.length → H[x]? = H3[x]?) (hle : H3.length ≤ H.length)
    {b' c' : Nat} {cs' : List V} (h1 : H[b']? = some (.rw T cs')) (h2 : cs'.length = c') (h3 : 64 ≤ c') (h4 : R k cs') (h5 : H3.length ≤ b') :
    ∃ H', wr H H1.length (0 + k * 1) [.sl (some (b', 0)) 64 c'] = some H' ∧ StNB H1 T ST R (k + 1) H' := by
  obtain ⟨hf, hlt, gcs, hg, hgl, hgo, hgj⟩ := hst
  have hgH : H[H1.length]? = some (.rw ST gcs) := (hfr _ hlt).trans hg
  have hl : 0 + k * 1 + [V.sl (some (b', 0)) 64 c'].length ≤ gcs.length := by show 0 + k * 1 + 1 ≤ _; omega
  have hgb : H1.length < H.length := by omega
  have hsp : splice gcs (0 + k * 1) [V.sl (some (b', 0)) 64 c'] = gcs.take k ++ [V.sl (some (b', 0)) 64 c'] ++ gcs.drop (k + 1) := by unfold splice; rw [Nat.zero_add, Nat.mul_one]; rfl
  refine ⟨_, wr_blk hgH hl, fun x hx => ?_, by rw [List.length_set]; omega, _, by rw [List.getElem?_set, if_pos rfl, if_pos hgb], by rw [splice_lenA hl]; exact hgl, trivial, fun j hj hj2 => ?_⟩
  · rw [List.getElem?_set, if_neg (by omega)]
    exact (hfr x (by omega)).trans (hf x hx)
  · by_cases hjk : j = k
    · subst hjk
      refine ⟨b', c', cs', ?_, ?_, h2, h3, h4, by omega⟩
      · rw [hsp, List.append_assoc, List.getElem?_append_right (by rw [List.length_take]; omega), List.length_take, Nat.min_eq_left (by omega), Nat.sub_self]; rfl
      · rw [List.getElem?_set, if_neg (by omega)]; exact h1
    · obtain ⟨b2, c2, cs2, q1, q2, q3, q4, q5, q6⟩ := hgj j (by omega) hj2
      have hb2 : b2 < H3.length := (List.getElem?_eq_some_iff.1 q2).1
      refine ⟨b2, c2, cs2, ?_, ?_, q3, q4, q5, q6⟩
      · rw [hsp, List.append_assoc, List.getElem?_append_left (by rw [List.length_take]; omega), List.getElem?_take_of_lt (by omega)]; exact q1
      · rw [List.getElem?_set, if_neg (by omega)]
        exact (hfr b2 hb2).trans q2
def InNB (T : TypeId) (k i : Nat) (H3 H : List B) (v : SV) : Prop :=
  (∀ x, x < H3.length → H[x]? = H3[x]?) ∧ H3.length ≤ H.length ∧
  ((i = 0 ∧ v = .v (.sl none 0 0)) ∨ ∃ (b' c' : Nat) (cs' : List V), v = .v (.sl (some (b', 0)) i c') ∧ H[b']? = some (.rw T cs') ∧ cs'.length = c' ∧ True ∧ i ≤ c' ∧ cs'.take i = msB k i ∧ H3.length ≤ b')
theorem InNB.step0 {T : TypeId} {k c' : Nat} {H3 H4 X : List B} {cs' : List V} (hfr : ∀ x, x < H3.length → H4[x]? = H3[x]?) (hle : H3.length ≤ H4.length)
    (q1 : cs'.length = c') (q2 : cs'.all V.one = true) (q3 : 1 ≤ c') (q4 : cs'.take 1 = [V.int .u8 (mbV (k : Int) ((0 : Nat) : Int))]) :
    InNB T k (0 + 1) H3 (H4 ++ X ++ [.rw T cs']) (.v (.sl (some ((H4 ++ X).length, 0)) 1 c')) := by
  have hlX : H4.length ≤ (H4 ++ X).length := by rw [List.length_append]; omega
  refine ⟨fun x hx => ?_, by rw [List.length_append]; omega, Or.inr ⟨_, c', cs', rfl, List.getElem?_concat_length, q1, trivial, q3, q4, by omega⟩⟩
  rw [List.getElem?_append_left (by omega), List.getElem?_append_left (by omega)]
  exact hfr x hx
theorem InNB.step {T : TypeId} {k i : Nat} {H3 H4 X H5 : List B} {b' c' b2 c2 : Nat} {cs' cs2 : List V}
    (hfr : ∀ x, x < H3.length → H4[x]? = H3[x]?) (hle : H3.length ≤ H4.length) (hb' : H4[b']? = some (.rw T cs')) (hd' : H3.length ≤ b') (ht' : cs'.take i = msB k i)
    (q1 : H5[b2]? = some (.rw T cs2)) (q2 : cs2.length = c2) (q3 : True) (q4 : i + [V.int .u8 (mbV (k : Int) (i : Int))].length ≤ c2) (q5 : cs2.take (i + [V.int .u8 (mbV (k : Int) (i : Int))].length) = cs'.take i ++ [V.int .u8 (mbV (k : Int) (i : Int))])
    (q6 : (b2 = b' ∧ c2 = c') ∨ ((H4 ++ X).length ≤ b2 ∧ H5[b']? = (H4 ++ X)[b']?)) (q7 : ∀ x, x < (H4 ++ X).length → x ≠ b' → H5[x]? = (H4 ++ X)[x]?) (q8 : (H4 ++ X).length ≤ H5.length) :
    InNB T k (i + 1) H3 H5 (.v (.sl (some (b2, 0)) (i + [V.int .u8 (mbV (k : Int) (i : Int))].length) c2)) := by
  have hlX : H4.length ≤ (H4 ++ X).length := by rw [List.length_append]; omega
  have ht2 : cs2.take (i + 1) = msB k (i + 1) := by rw [msB_succ, ← ht']; exact q5
  refine ⟨fun x hx => ?_, by omega, Or.inr ⟨b2, c2, cs2, rfl, q1, q2, q3, q4, ht2, ?_⟩⟩
  · rw [q7 x (by omega) (by omega), List.getElem?_append_left (by omega)]
    exact hfr x hx
  · rcases q6 with ⟨rfl, _⟩ | ⟨h, _⟩
    · exact hd'
    · omega
end Go.Ev
