/- Ev: arguments that are slices of flat elements (whole numbers, bools, structs of them, nested too). -/
import Derived.Test.YtmdkhaoppklokaaDoorEvY
import Derived.WideShapes
import Derived.ChangeArms
import Derived.DataReads
set_option linter.all false
namespace Go.Ev
open Go.RowKit

def flatFs (P : Program) (K : TypeId → Option (List (Option IntKind))) : List Field → Nat → Option (List (Option IntKind))
  | [], _ => some []
  | f :: r, o => if f.offset = o then match K f.type with
    | some ks => if P.cellsOf f.type = ks.length then match flatFs P K r (o + ks.length) with
      | some l => some (ks ++ l)
      | none => none else none
    | none => none else none

def flatT (P : Program) : Nat → TypeId → Option (List (Option IntKind))
  | 0, _ => none
  | d + 1, t => match P.underlying t with
    | some (.int k) => some [some k]
    | some .bool => some [none]
    | some (.struct fs) => match flatFs P (flatT P d) fs.toList 0 with
      | some ks => if P.cellsOf t = ks.length then some ks else none
      | none => none
    | _ => none

def CellW : Option IntKind → Value → Prop
  | none, v => ∃ b, v = .bool b
  | some k, v => ∃ z, v = .int k z ∧ (Lit.int k z).wf = true

def CellsW (ks : List (Option IntKind)) (cs : List Value) : Prop :=
  cs.length = ks.length ∧ ∀ (i : Nat) k v, ks[i]? = some k → cs[i]? = some v → CellW k v

theorem flatFs_spec {P : Program} {K : TypeId → Option (List (Option IntKind))} {cs : List Value} : ∀ (fs : List Field) (o : Nat) (ks : List (Option IntKind)), flatFs P K fs o = some ks →
    (∀ f ks', f ∈ fs → K f.type = some ks' → CellsW ks' ((cs.drop f.offset).take (P.cellsOf f.type))) → ∀ (i : Nat) k v, ks[i]? = some k → cs[o + i]? = some v → CellW k v
  | [], o, ks, h, _, i, k, v, hk, _ => by
    simp only [flatFs, Option.some.injEq] at h; subst h; simp at hk
  | f :: r, o, ks, h, hf, i, k, v, hk, hv => by
    unfold flatFs at h
    split at h
    case isFalse => cases h
    rename_i ho
    split at h
    case h_2 => cases h
    rename_i ks1 hK
    split at h
    case isFalse => cases h
    rename_i hc
    split at h
    case h_2 => cases h
    rename_i l hl
    injection h with h; subst h
    by_cases hi : i < ks1.length
    · have h1 := hf f ks1 List.mem_cons_self hK
      rw [List.getElem?_append_left hi] at hk
      refine h1.2 i k v hk ?_
      rw [List.getElem?_take_of_lt (by omega), List.getElem?_drop, ho]
      exact hv
    · rw [List.getElem?_append_right (by omega)] at hk
      exact flatFs_spec r (o + ks1.length) l hl (fun f' ks' hm hk' => hf f' ks' (List.mem_cons_of_mem _ hm) hk') (i - ks1.length) k v hk (by rw [show o + ks1.length + (i - ks1.length) = o + i by omega]; exact hv)

section
variable {H : Type} {enc : TypeId × Value → H} {P : Program} {w : World} {base : Nat} {sp : Nat → Bool} {held : Bool}

theorem flat_trod : ∀ (d : Nat) (t : TypeId) (ks : List (Option IntKind)) (fuel : Nat) (cs : List Value) (x : DataW H × List MemPlace), flatT P d t = some ks → DataW.trod enc P w base sp held fuel t cs = some x → CellsW ks cs
  | 0, t, ks, fuel, cs, x, h, _ => by cases h
  | d + 1, t, ks, fuel, cs, x, h, ht => by
    unfold flatT at h
    split at h
    · rename_i k hu
      injection h with h; subst h
      obtain ⟨n, rfl, _, hw⟩ := DataW.trod_int hu ht
      refine ⟨rfl, fun i k' v hk hv => ?_⟩
      cases i with
      | zero => simp at hk hv; subst hk; subst hv; exact ⟨n, rfl, hw⟩
      | succ i => simp at hk
    · rename_i hu
      injection h with h; subst h
      obtain ⟨b, rfl, _⟩ := DataW.trod_bool hu ht
      refine ⟨rfl, fun i k' v hk hv => ?_⟩
      cases i with
      | zero => simp at hk hv; subst hk; subst hv; exact ⟨b, rfl⟩
      | succ i => simp at hk
    · rename_i fs hu
      split at h
      case h_2 => cases h
      rename_i ks' hf
      split at h
      case isFalse => cases h
      rename_i hc
      injection h with h; subst h
      obtain ⟨xs, n, _, _, hl, hxl, hfs⟩ := DataW.trod_struct hu ht
      refine ⟨hl.trans hc, fun i k v hk hv => ?_⟩
      refine flatFs_spec fs.toList 0 ks' hf (fun f ks1 hm hk1 => ?_) i k v hk (by rw [Nat.zero_add]; exact hv)
      obtain ⟨j, hj⟩ := List.mem_iff_getElem?.1 hm
      have h1 := hfs j f (by simpa using hj)
      have hjl : j < xs.length := by
        have := (List.getElem?_eq_some_iff.1 hj).1
        rw [hxl]; simpa using this
      rw [List.getElem?_eq_getElem hjl] at h1
      exact flat_trod d f.type ks1 n _ _ hk1 h1
    · cases h

theorem open_slF {r : Reach} {b0 : Nat} {t e : TypeId} {d : Nat} {ks : List (Option IntKind)} {v : Value} {dd : DataW H} {p : List MemPlace} (ht : P.underlying t = some (.slice e)) (hf : flatT P d e = some ks) (hc : P.cellsOf e = ks.length)
    (hv : Value.okWide P w r b0 t v) (h : DataW.Trod enc P w base sp held t v dd p) :
    v = .slice none 0 0 ∨ ∃ (a : Addr) (cp : Nat) (l : List (List Value)), v = .slice (some a) l.length cp ∧ a.spot = none ∧ a.block < w.heap.size ∧ l.length ≤ cp ∧ cp ≤ maxLen ∧ (∀ c, c ∈ l → CellsW ks c) ∧
      ∀ (i k : Nat) c u, l[i]? = some c → c[k]? = some u → w.cell? ⟨a.block, a.off + i * ks.length + k, none⟩ = some u := by
  obtain ⟨sa, slen, scap, rfl⟩ := Go.WideShapes.okWide_slice ht hv
  obtain ⟨fuel, hfu⟩ := h
  have hcs : (Value.slice sa slen scap).cells.toList = [.slice sa slen scap] := rfl
  rw [hcs] at hfu
  rcases DataW.trod_slice ht hfu with ⟨h0, _⟩ | ⟨a, len, cp, elems, rest, n, _, h0, _, _, hl, hm, hlen, hel, _, _⟩
  · left
    simpa using h0
  · right
    injection h0 with h0 _
    injection h0 with h1 h2 h3
    subst h1; subst h2; subst h3
    have hok : w.has P r b0 a e scap := by
      simp only [Value.okWide, ht, Cell.okWide, Cell.ok] at hv
      exact hv.2.2
    obtain ⟨_, hs, row, cells, hsh, _⟩ := hok
    have hblk : a.block < w.heap.size := by
      unfold World.shape? at hsh
      cases hb : w.heap[a.block]? with
      | none => rw [hb] at hsh; simp at hsh
      | some b => exact (Array.getElem?_eq_some_iff.1 hb).1
    have ha : ∀ m, a.add m = ⟨a.block, a.off + m, none⟩ := fun m => by obtain ⟨ab, ao, sq⟩ := a; simp only at hs; subst hs; unfold Addr.add; split <;> simp_all
    obtain ⟨l, hll, hr⟩ := list_of (R := fun i (c : List Value) => CellsW ks c ∧ ∀ (k : Nat) u, c[k]? = some u → w.cell? ⟨a.block, a.off + i * ks.length + k, none⟩ = some u) slen (by
      intro i hi
      have hE := hel i hi
      rw [hc] at hE
      have hi2 : i < elems.length := by rw [hlen]; exact hi
      rw [List.getElem?_eq_getElem hi2] at hE
      simp only [Option.bind_eq_some_iff] at hE
      obtain ⟨c, hcc, hy⟩ := hE
      obtain ⟨hb, hlc, hcell⟩ := World.cells?_some hcc
      refine ⟨c, flat_trod d e ks _ _ _ hf hy, fun k u hu => ?_⟩
      have hk : k < ks.length := by rw [← hlc]; exact (List.getElem?_eq_some_iff.1 hu).1
      have := hcell k hk
      have hb2 : ∀ x m : Nat, (⟨a.block, x, none⟩ : Addr).add m = ⟨a.block, x + m, none⟩ := fun x m => by unfold Addr.add; split <;> simp_all
      rw [hu, ha, hb2] at this
      exact this)
    refine ⟨a, scap, l, by rw [hll], hs, hblk, by omega, hm, fun c hm' => ?_, fun i k c u hi hk => ?_⟩
    · obtain ⟨i, hi⟩ := List.mem_iff_getElem?.1 hm'
      obtain ⟨hlt, rfl⟩ := List.getElem?_eq_some_iff.1 hi
      exact (hr i hlt).1
    · obtain ⟨hlt, rfl⟩ := List.getElem?_eq_some_iff.1 hi
      exact (hr i hlt).2 k u hk
end
/-- typed elements -/
theorem typed {D : Type} {enc : D → List V} {ok : D → Prop} {ks : List (Option IntKind)} (hd : ∀ c, CellsW ks c → ∃ d, ok d ∧ ∀ j, c = (enc d).map (conc j)) : ∀ (l : List (List Value)), (∀ c, c ∈ l → CellsW ks c) →
    ∃ ds : List D, ds.length = l.length ∧ (∀ d, d ∈ ds → ok d) ∧ ∀ j, l = ds.map fun d => (enc d).map (conc j)
  | [], _ => ⟨[], rfl, fun _ h => (by cases h), fun _ => rfl⟩
  | c :: l, h => by
    obtain ⟨d, h1, h2⟩ := hd c (h c List.mem_cons_self)
    obtain ⟨ds, e1, e2, e3⟩ := typed hd l (fun c hc => h c (List.mem_cons_of_mem _ hc))
    refine ⟨d :: ds, by simp [e1], fun x hx => ?_, fun j => ?_⟩
    · rcases List.mem_cons.1 hx with rfl | hx
      · exact h1
      · exact e2 x hx
    · rw [List.map_cons, ← h2 j, ← e3 j]

/-- the cells of a list, one behind the other -/
theorem flat_cells {D : Type} {enc : D → List V} {m : Nat} (hm : ∀ d, (enc d).length = m) {Q : Nat → V → Prop} : ∀ (ds : List D) (o : Nat), (∀ (i k : Nat) d u, ds[i]? = some d → (enc d)[k]? = some u → Q (o + i * m + k) u) → ∀ (x : Nat) u, (ds.flatMap enc)[x]? = some u → Q (o + x) u
  | [], o, _, x, u, h => by simp at h
  | d :: ds, o, hq, x, u, h => by
    rw [List.flatMap_cons] at h
    by_cases hx : x < m
    · rw [List.getElem?_append_left (by rw [hm]; exact hx)] at h
      have := hq 0 x d u rfl h
      simpa using this
    · rw [List.getElem?_append_right (by rw [hm]; omega), hm] at h
      have := flat_cells hm ds (o + m) (fun i k d' u' h1 h2 => by
        have := hq (i + 1) k d' u' (by simpa using h1) h2
        rw [show o + m + i * m + k = o + (i + 1) * m + k by rw [Nat.succ_mul]; omega]
        exact this) (x - m) u h
      rw [show o + m + (x - m) = o + x by omega] at this
      exact this

theorem cellsW_nil {c : List Value} (h : CellsW [] c) : c = [] := List.eq_nil_of_length_eq_zero h.1
theorem cellsW_int {k : IntKind} {ks : List (Option IntKind)} {c : List Value} (h : CellsW (some k :: ks) c) : ∃ z r, c = .int k z :: r ∧ (Lit.int k z).wf = true ∧ CellsW ks r := by
  match c, h with
  | [], h => exact absurd h.1 (by simp)
  | v :: r, h =>
    obtain ⟨z, rfl, hw⟩ := h.2 0 _ v rfl rfl
    exact ⟨z, r, rfl, hw, by have := h.1; simpa using this, fun i k v h1 h2 => h.2 (i + 1) k v (by simpa using h1) (by simpa using h2)⟩
/-- a slice argument, told by its elements: at block g (nil: nowhere) -/
theorem slF_arg {D : Type} {enc : D → List V} {ok : D → Prop} {m : Nat} {ks : List (Option IntKind)} {w : World} {v : Value} (g : Nat) (hm : ∀ d, (enc d).length = m) (hk : ks.length = m) (hd : ∀ c, CellsW ks c → ∃ d, ok d ∧ ∀ j, c = (enc d).map (conc j)) (hsz : 0 < w.heap.size)
    (h : v = .slice none 0 0 ∨ ∃ (a : Addr) (cp : Nat) (l : List (List Value)), v = .slice (some a) l.length cp ∧ a.spot = none ∧ a.block < w.heap.size ∧ l.length ≤ cp ∧ cp ≤ maxLen ∧ (∀ c, c ∈ l → CellsW ks c) ∧
      ∀ (i k : Nat) c u, l[i]? = some c → c[k]? = some u → w.cell? ⟨a.block, a.off + i * ks.length + k, none⟩ = some u) :
    ∃ (q : Option (Nat × Nat)) (b o cp : Nat) (ds : List D), (∀ d, d ∈ ds → ok d) ∧ ds.length ≤ cp ∧ cp ≤ maxLen ∧ b < w.heap.size ∧ (∀ (x : Nat) u, (ds.flatMap enc)[x]? = some u → ∀ j, w.cell? ⟨b, o + x, none⟩ = some (conc j u)) ∧
      ((q = none ∧ ds = []) ∨ q = some (g, 0)) ∧ ∀ j : J, j.b g = b → j.o g = o → v = conc j (.sl q ds.length cp) := by
  rcases h with rfl | ⟨a, cp, l, rfl, hs, hb, hc, hmx, hW, hcell⟩
  · exact ⟨none, 0, 0, 0, [], fun _ h => (by cases h), Nat.le_refl _, Nat.zero_le _, hsz, fun x u h => by simp at h, .inl ⟨rfl, rfl⟩, fun _ _ _ => rfl⟩
  · obtain ⟨ds, h1, h2, h3⟩ := typed hd l hW
    refine ⟨some (g, 0), a.block, a.off, cp, ds, h2, by omega, hmx, hb, ?_, .inr rfl, ?_⟩
    · intro x u hu j
      refine flat_cells (Q := fun n u => w.cell? ⟨a.block, n, none⟩ = some (conc j u)) hm ds a.off (fun i k d u' hi hk' => ?_) x u hu
      have e := h3 j
      have := hcell i k ((enc d).map (conc j)) (conc j u') (by rw [e, List.getElem?_map, hi]; rfl) (by rw [List.getElem?_map, hk']; rfl)
      rw [hk] at this
      exact this
    · rintro j rfl' ro
      obtain ⟨ab, ao, sp⟩ := a
      simp only at hs; subst hs
      simp only [conc, J.at, rfl', ro, h1, Nat.add_zero]

theorem ltL_flat {D : Type} {enc : D → List V} (h : ∀ d m, V.ltL m (enc d) = true) : ∀ (ds : List D) (m : Nat), V.ltL m (ds.flatMap enc) = true
  | [], _ => rfl
  | d :: ds, m => by
    rw [List.flatMap_cons, ltL_iff]
    intro v hv
    rcases List.mem_append.1 hv with hv | hv
    · exact (ltL_iff _ _).1 (h d m) v hv
    · exact (ltL_iff _ _).1 (ltL_flat h ds m) v hv

theorem rd_all {H : List B} {i n : Nat} {cs : List V} (h : H[i]? = some (.ro cs)) (hn : cs.length = n) : rd H i 0 n = some cs := by
  unfold rd; rw [h]
  show cut cs _ _ = _
  unfold cut
  rw [if_pos (by omega), List.drop_zero, List.take_of_length_le (by omega)]
end Go.Ev
