/- dev: lists that lie apart: memory, appending with a frame -/
import Derived.Test.YtmdkhaoppklokaaDoorEvU
set_option linter.all false
namespace Go.Ev
open Go Go.Proofs
set_option maxRecDepth 4000
set_option maxHeartbeats 4000000
theorem rd_blk {H : List B} {b : Nat} {ty : TypeId} {cs : List V} (h : H[b]? = some (.rw ty cs)) {o n : Nat} (hn : o + n ≤ cs.length) : rd H b o n = some ((cs.drop o).take n) := by
  unfold rd; rw [h]
  show cut cs _ _ = _
  unfold cut
  rw [if_pos hn]
theorem wr_blk {H : List B} {b : Nat} {ty : TypeId} {cs : List V} (h : H[b]? = some (.rw ty cs)) {o : Nat} {vs : List V} (hn : o + vs.length ≤ cs.length) : wr H b o vs = some (H.set b (.rw ty (splice cs o vs))) := by
  unfold wr
  simp only [h, if_pos hn]
theorem splice_lenA {cs vs : List V} {o : Nat} (h : o + vs.length ≤ cs.length) : (splice cs o vs).length = cs.length := by
  unfold splice
  rw [List.length_append, List.length_append, List.length_take, List.length_drop]; omega
theorem splice_take {cs vs : List V} {o : Nat} (h : o + vs.length ≤ cs.length) : (splice cs o vs).take (o + vs.length) = cs.take o ++ vs := by
  unfold splice
  rw [List.take_left' (by rw [List.length_append, List.length_take]; omega)]
theorem reps_len1 (n : Nat) {zs : List V} (h : zs.length = 1) : (reps n zs).length = n := by
  unfold reps
  rw [List.length_flatten, List.map_replicate, h]; simp
theorem take_of_take {cs ds : List V} {m n : Nat} (h : cs.take m = ds) (hn : n ≤ m) : cs.take n = ds.take n := by
  rw [← h, List.take_take, Nat.min_eq_left hn]
theorem one_all {cs : List V} (h : cs.all V.one = true) (m : Nat) : (cs.take m).all V.one = true := by
  rw [List.all_eq_true] at h ⊢
  exact fun x hx => h x (List.mem_of_mem_take hx)
theorem one_splice {cs vs : List V} {o : Nat} (h : cs.all V.one = true) (hv : vs.all V.one = true) : (splice cs o vs).all V.one = true := by
  unfold splice
  rw [List.all_append, List.all_append, Bool.and_eq_true, Bool.and_eq_true]
  refine ⟨⟨one_all h _, hv⟩, ?_⟩
  rw [List.all_eq_true] at h ⊢
  exact fun x hx => h x (List.mem_of_mem_drop hx)
theorem one_reps {zs : List V} (h : zs.all V.one = true) : ∀ n, (reps n zs).all V.one = true
  | 0 => rfl
  | n + 1 => by
    have ih := one_reps h n
    unfold reps at ih ⊢
    rw [List.replicate_succ, List.flatten_cons, List.all_append, h, ih]; rfl
/-- 'append', told with all that stays -/
theorem appF {tm : List SV} {L : List LB} {H : List B} {e g : Bool} {ty : TypeId} {bytes : Nat} {zs : List V} {x y : Opd} {K : KV} {w : V} {b m c : Nat} {cs ds : List V}
    (hx : x.val tm = some (.sl (some (b, 0)) m c)) (hy : y.val tm = some w) (hb : H[b]? = some (.rw ty cs)) (hc : cs.length = c) (hm : m ≤ c) (hall : (cs.take m).all V.one = true) (hd1 : ds.all V.one = true) (hz1 : zs.all V.one = true) (hn : news H 1 w = some (ds.length, ds)) (hlt : V.ltL 0 ds = true)
    (hsz : (m + ds.length) * bytes ≤ 140737488355328) (hsz2 : m + ds.length ≤ 9223372036854775807) (hz : zs.length = 1)
    (hK : ∀ (b' c' : Nat) (cs' : List V) (H' : List B) (g' : Bool), H'[b']? = some (.rw ty cs') → cs'.length = c' → True → m + ds.length ≤ c' → cs'.take (m + ds.length) = cs.take m ++ ds → ((b' = b ∧ c' = c) ∨ (H.length ≤ b' ∧ H'[b]? = H[b]?)) → (∀ i, i < H.length → i ≠ b → H'[i]? = H[i]?) → H.length ≤ H'.length → K (.v (.sl (some (b', 0)) (m + ds.length) c')) L H' e g') :
    AtApp (evApp tm L H e g ty 1 bytes zs x y K) := by
  refine AtApp.mk ?_
  rw [evApp_pos (by decide)]
  unfold evApp0
  rw [hx, hy]
  simp only [hn]
  have hbl : b < H.length := (List.getElem?_eq_some_iff.1 hb).1
  have hone := hall
  by_cases hcap : m + ds.length ≤ c
  · rw [if_pos hcap]
    have hw := wr_blk hb (o := 0 + m * 1) (vs := ds) (by omega)
    simp only [hw, hlt, Bool.not_true, Bool.or_false]
    refine hK b c _ _ g (by rw [List.getElem?_set, if_pos rfl, if_pos hbl]) (by rw [splice_lenA (by omega)]; exact hc) trivial hcap ?_ (Or.inl ⟨rfl, rfl⟩) (fun i hi hne => by rw [List.getElem?_set, if_neg (fun h => hne h.symm)]) (by rw [List.length_set]; exact Nat.le_refl _)
    have := splice_take (cs := cs) (vs := ds) (o := 0 + m * 1) (by omega)
    simpa using this
  · rw [if_neg hcap]
    have ho : olds H 1 (some (b, 0)) m = some (cs.take m) := by
      unfold olds
      have hr := rd_blk hb (show 0 + m * 1 ≤ cs.length by omega)
      rw [List.drop_zero, Nat.mul_one] at hr
      simp only [Nat.mul_one, hr, hone, if_true]
    simp only [ho]
    refine ⟨hsz, hsz2, fun c' h1 h2 => ?_⟩
    refine hK H.length c' _ _ true List.getElem?_concat_length ?_ trivial h1 ?_ (Or.inr ⟨Nat.le_refl _, List.getElem?_append_left hbl⟩) (fun i hi _ => List.getElem?_append_left hi) (by rw [List.length_append]; omega)
    · rw [List.length_append, List.length_append, List.length_take, reps_len1 _ hz]; omega
    · rw [List.take_left' (by rw [List.length_append, List.length_take]; omega)]
/-- 'append' to nothing -/
theorem appN {tm : List SV} {L : List LB} {H : List B} {e g : Bool} {ty : TypeId} {bytes : Nat} {zs : List V} {x y : Opd} {K : KV} {w : V} {ds : List V}
    (hx : x.val tm = some (.sl none 0 0)) (hy : y.val tm = some w) (hn : news H 1 w = some (ds.length, ds)) (hpos : 0 < ds.length)
    (hsz : ds.length * bytes ≤ 140737488355328) (hsz2 : ds.length ≤ 9223372036854775807) (hz : zs.length = 1) (hd1 : ds.all V.one = true) (hz1 : zs.all V.one = true)
    (hK : ∀ (c' : Nat) (cs' : List V), cs'.length = c' → cs'.all V.one = true → ds.length ≤ c' → cs'.take ds.length = ds → K (.v (.sl (some (H.length, 0)) ds.length c')) L (H ++ [.rw ty cs']) e true) :
    AtApp (evApp tm L H e g ty 1 bytes zs x y K) := by
  refine AtApp.mk ?_
  rw [evApp_pos (by decide)]
  unfold evApp0
  rw [hx, hy]
  simp only [hn]
  rw [if_neg (by omega)]
  have ho : olds H 1 none 0 = some [] := rfl
  simp only [ho]
  refine ⟨by rw [Nat.zero_add]; exact hsz, by omega, fun c' h1 h2 => ?_⟩
  have := hK c' ([] ++ ds ++ reps (c' - (0 + ds.length)) zs) (by rw [List.length_append, List.nil_append, reps_len1 _ hz]; omega) (by rw [List.nil_append, List.all_append, hd1, one_reps hz1]; rfl) (by omega) (by rw [List.nil_append, List.take_left' rfl])
  simpa only [Nat.zero_add] using this
/-- what is there while rows lie apart: what is older, the list of the rows -/
def PreA (H0 : List B) (lb lo n : Nat) (b c : Nat → Nat) (H : List B) : Prop := ((∀ x, x < H0.length → x ≠ b 0 → x ≠ b 1 → H[x]? = H0[x]?) ∧ H0.length ≤ H.length) ∧ ∀ k, k < 2 → rd H lb (lo + k) 1 = some [.sl (some (b k, 0)) n (c k)]
theorem ne_row {b : Nat → Nat} {x : Nat} (h0 : x ≠ b 0) (h1 : x ≠ b 1) {k : Nat} (hk : k < 2) : x ≠ b k := by
  have : k = 0 ∨ k = 1 := by omega
  rcases this with rfl | rfl
  · exact h0
  · exact h1
def RowA (H : List B) (ty : TypeId) (b c : Nat) (P : List V → Prop) : Prop := ∃ cs, H[b]? = some (.rw ty cs) ∧ cs.length = c ∧ True ∧ P cs
theorem RowA.mono {H : List B} {ty : TypeId} {b c : Nat} {P Q : List V → Prop} (h : RowA H ty b c P) (hPQ : ∀ cs, P cs → Q cs) : RowA H ty b c Q := by
  obtain ⟨cs, h1, h2, h3, h4⟩ := h
  exact ⟨cs, h1, h2, h3, hPQ _ h4⟩
theorem RowA.same {H H' : List B} {ty : TypeId} {b c : Nat} {P : List V → Prop} (h : RowA H ty b c P) (hs : H'[b]? = H[b]?) : RowA H' ty b c P := by
  obtain ⟨cs, h1, h2, h3, h4⟩ := h
  exact ⟨cs, hs.trans h1, h2, h3, h4⟩
theorem RowA.lt {H : List B} {ty : TypeId} {b c : Nat} {P : List V → Prop} (h : RowA H ty b c P) : b < H.length := by
  obtain ⟨cs, h1, _⟩ := h
  exact (List.getElem?_eq_some_iff.1 h1).1
theorem rd_same {H H' : List B} {b o n : Nat} {r : List V} (h : rd H b o n = some r) (hs : H'[b]? = H[b]?) : rd H' b o n = some r := by
  unfold rd at h ⊢; rw [hs]; exact h
theorem rd_lt {H : List B} {b o n : Nat} {r : List V} (h : rd H b o n = some r) : b < H.length := by
  unfold rd at h
  split at h
  · rename_i hh; exact (List.getElem?_eq_some_iff.1 hh).1
  · cases h
/-- what stays where only the rows and younger blocks, and not the list of rows, are changed -/
theorem PreA.keep {H0 : List B} {lb lo n : Nat} {b c : Nat → Nat} {H H' : List B} (h : PreA H0 lb lo n b c H) (h0 : ∀ i, i < H0.length → i ≠ b 0 → i ≠ b 1 → H'[i]? = H[i]?) (hl : H'[lb]? = H[lb]?) (hle : H.length ≤ H'.length) : PreA H0 lb lo n b c H' :=
  ⟨⟨fun x hx h1 h2 => (h0 x hx h1 h2).trans (h.1.1 x hx h1 h2), Nat.le_trans h.1.2 hle⟩, fun k hk => rd_same (h.2 k hk) hl⟩
theorem ltL_splice {cs vs : List V} {o : Nat} (h : V.ltL 0 cs = true) (hv : V.ltL 0 vs = true) : V.ltL 0 (splice cs o vs) = true := by
  rw [ltL_iff] at h hv ⊢
  intro v hx
  unfold splice at hx
  rcases List.mem_append.1 hx with hx | hx
  · rcases List.mem_append.1 hx with hx | hx
    · exact h v (List.mem_of_mem_take hx)
    · exact hv v hx
  · exact h v (List.mem_of_mem_drop hx)
def GJ (H : List B) (gb : Nat) (T : TypeId) (b : Nat → Nat) (m : Nat) (R : Nat → List V → Prop) (j : Nat) (gcs : List V) : Prop :=
  ∃ (b' c' : Nat) (cs' : List V), gcs[j]? = some (.sl (some (b', 0)) m c') ∧ H[b']? = some (.rw T cs') ∧ cs'.length = c' ∧ m ≤ c' ∧ R j cs' ∧ (b' = b j ∨ gb < b')
def StA (H0 : List B) (lb lo n : Nat) (b c : Nat → Nat) (T ST : TypeId) (gb m : Nat) (R Rw : Nat → List V → Prop) (i : Nat) (H : List B) : Prop :=
  PreA H0 lb lo n b c H ∧ (∀ k, k < 2 → RowA H T (b k) (c k) (Rw k)) ∧ RowA H ST gb 2 (fun gcs => ∀ j, j < i → j < 2 → GJ H gb T b m R j gcs)
theorem StA.step {H0 H3 H : List B} {lb lo n : Nat} {b c : Nat → Nat} {T ST : TypeId} {gb m k : Nat} {R Rw : Nat → List V → Prop} (hst : StA H0 lb lo n b c T ST gb m R Rw k H3) (hk : k < 2)
    (hbg : ∀ j, j < 2 → b j < gb) (hg0 : H0.length ≤ gb) (hne : ∀ {i j : Nat}, i < 2 → j < 2 → i ≠ j → b i ≠ b j) (hlb : ∀ j, j < 2 → lb ≠ b j) (hlg : lb ≠ gb)
    (hfr : ∀ x, x < H3.length → x ≠ b k → H[x]? = H3[x]?) (hle : H3.length ≤ H.length) (hrow : RowA H T (b k) (c k) (Rw k))
    {b' c' : Nat} {cs' : List V} (h1 : H[b']? = some (.rw T cs')) (h2 : cs'.length = c') (h3 : m ≤ c') (h4 : R k cs') (h5 : b' = b k ∨ H3.length ≤ b') :
    ∃ H', wr H gb (0 + k * 1) [.sl (some (b', 0)) m c'] = some H' ∧ StA H0 lb lo n b c T ST gb m R Rw (k + 1) H' := by
  obtain ⟨hp, hr, gcs, hg, hgl, hgo, hgj⟩ := hst
  have hgl3 : gb < H3.length := (List.getElem?_eq_some_iff.1 hg).1
  have hgH : H[gb]? = some (.rw ST gcs) := (hfr gb hgl3 (by have := hbg k hk; omega)).trans hg
  have hw := wr_blk hgH (o := 0 + k * 1) (vs := [V.sl (some (b', 0)) m c']) (by show 0 + k * 1 + 1 ≤ _; omega)
  have hgb : gb < H.length := (List.getElem?_eq_some_iff.1 hgH).1
  obtain ⟨gcs', hgc⟩ : ∃ gcs', gcs' = splice gcs (0 + k * 1) [V.sl (some (b', 0)) m c'] := ⟨_, rfl⟩
  rw [← hgc] at hw
  refine ⟨_, hw, hp.keep (fun x hx hx0 hx1 => ?_) ?_ (by rw [List.length_set]; exact hle), fun j hj => ?_, gcs', by rw [List.getElem?_set, if_pos rfl, if_pos hgb], ?_, ?_, fun j hj hj2 => ?_⟩
  · have h7 : H0.length ≤ H3.length := hp.1.2
    rw [List.getElem?_set, if_neg (by omega)]
    exact hfr x (by omega) (ne_row hx0 hx1 hk)
  · rw [List.getElem?_set, if_neg (fun he => hlg he.symm)]
    exact hfr lb (rd_lt (hp.2 k hk)) (hlb k hk)
  · by_cases hjk : j = k
    · subst hjk
      exact hrow.same (by rw [List.getElem?_set, if_neg (by have := hbg j hj; omega)])
    · refine (hr j hj).same ?_
      rw [List.getElem?_set, if_neg (by have := hbg j hj; omega)]
      exact hfr (b j) ((hr j hj).lt) (hne hj hk hjk)
  · rw [hgc, splice_lenA (by show 0 + k * 1 + 1 ≤ _; omega)]; exact hgl
  · trivial
  · have hsp : gcs' = gcs.take k ++ [V.sl (some (b', 0)) m c'] ++ gcs.drop (k + 1) := by rw [hgc]; unfold splice; rw [Nat.zero_add, Nat.mul_one]; rfl
    by_cases hjk : j = k
    · subst hjk
      refine ⟨b', c', cs', ?_, ?_, h2, h3, h4, ?_⟩
      · rw [hsp, List.append_assoc, List.getElem?_append_right (by rw [List.length_take]; omega), List.length_take, Nat.min_eq_left (by omega), Nat.sub_self]; rfl
      · rw [List.getElem?_set, if_neg ?_]
        · exact h1
        · rcases h5 with rfl | h5
          · have := hbg j hj2; omega
          · omega
      · rcases h5 with h5 | h5
        · exact Or.inl h5
        · exact Or.inr (by omega)
    · obtain ⟨b2, c2, cs2, q1, q2, q3, q4, q5, q6⟩ := hgj j (by omega) hj2
      have hb2 : b2 < H3.length := (List.getElem?_eq_some_iff.1 q2).1
      refine ⟨b2, c2, cs2, ?_, ?_, q3, q4, q5, q6⟩
      · rw [hsp, List.append_assoc, List.getElem?_append_left (by rw [List.length_take]; omega), List.getElem?_take_of_lt (by omega)]; exact q1
      · have hbk := hbg k hk
        have hbj := hbg j hj2
        have hne2 : b2 ≠ b k := by
          rcases q6 with rfl | q6
          · exact hne hj2 hk hjk
          · omega
        rw [List.getElem?_set, if_neg (by rcases q6 with rfl | q6 <;> omega)]
        exact (hfr b2 hb2 hne2).trans q2
end Go.Ev
