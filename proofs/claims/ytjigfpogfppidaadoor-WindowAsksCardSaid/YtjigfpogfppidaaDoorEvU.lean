/- Ev: rows whose argument is a slice of structs of two whole numbers. -/
import Derived.Test.YtjigfpogfppidaaDoorEvT
import Derived.WideShapes
import Derived.ChangeArms
import Derived.Lib.SmallJoins
namespace Go.Ev
open Go.RowKit

theorem inv_ro {w : World} {j : J} {cs : List V} {vs : List V} (hv : V.ltL 1 vs = true) (hb : j.b 0 < w.heap.size) (hc : V.ltL 1 cs = true) (hr : ∀ (x : Nat) v, cs[x]? = some v → w.cell? (j.at 0 x) = some (conc j v)) :
    Inv 0 ⟨w, [.ro cs], j⟩ j [] (vs.map SV.v) [] [.ro cs] false false w where
  os := rfl
  tape := rfl
  output := rfl
  size := Nat.le_refl _
  lts := by intro i hi; obtain rfl : i = 0 := by simpa using hi
            exact hb
  br := by
    intro i b hb'
    cases i with
    | zero => simp only [List.getElem?_cons_zero, Option.some.injEq] at hb'; subst hb'; exact hr
    | succ i => simp at hb'
  sep := by
    intro i b hb' ho
    cases i with
    | zero => simp only [List.getElem?_cons_zero, Option.some.injEq] at hb'; subst hb'; cases ho
    | succ i => simp at hb'
  ll := rfl
  lbr := by intro i b hi; simp at hi
  lnew := by intro k hk; simp at hk
  lnd := by intro k k' hk; simp at hk
  lsep := by intro k hk; simp at hk
  tml := by
    intro x hx
    obtain ⟨v, hv', rfl⟩ := List.mem_map.1 hx
    exact (ltL_iff _ _).1 hv v hv'
  Ll := by intro b hb; cases hb
  Hl := by intro b hb'; obtain rfl : b = .ro cs := by simpa using hb'
           exact hc
  n0 := Nat.le_refl _
  jold := J.Eq.refl _ _
  jnew := by intro i hi hi'; exact absurd hi' (Nat.not_lt.2 hi)
  frame := fun b hb hf => rfl
  kd := by
    intro i b hb'
    exact ⟨b, hb', by cases i with
      | zero => simp only [List.getElem?_cons_zero, Option.some.injEq] at hb'; subst hb'; rfl
      | succ i => simp at hb'⟩
  esc := by intro _ i b b' m h1 h2 hm; rw [h1] at h2; injection h2 with h2; subst h2; exact hm
  grow := fun _ => rfl
  glob := by intro i hi; cases hi
  gl := Nat.zero_le _

def encK (k : IntKind) (r : Int × Int) : List V := [.int k r.1, .int k r.2]

section
variable {H : Type} {enc : TypeId × Value → H} {P : Program} {w : World} {base : Nat} {sp : Nat → Bool} {held : Bool}

theorem cells2 {a : Addr} {c : List Value} (h : w.cells? base a 2 = some c) : ∃ x y, c = [x, y] ∧ w.cell? a = some x ∧ w.cell? (a.add 1) = some y := by
  have e0 : a.add 0 = a := by simp [Addr.add]
  unfold World.cells? at h
  split at h
  · simp only [List.range_succ, List.range_zero, List.nil_append, List.cons_append, List.mapM_cons, List.mapM_nil, e0] at h
    cases h1 : w.cell? a with
    | none => simp [h1] at h
    | some x =>
      cases h2 : w.cell? (a.add 1) with
      | none => simp [h1, h2] at h
      | some y => simp [h1, h2] at h; exact ⟨x, y, h.symm, rfl, rfl⟩
  · cases h

/-- a list out of single finds -/
theorem list_of {α : Type} {R : Nat → α → Prop} : ∀ n, (∀ i, i < n → ∃ a, R i a) → ∃ l : List α, l.length = n ∧ ∀ i (h : i < l.length), R i l[i]
  | 0, _ => ⟨[], rfl, fun i h => absurd h (Nat.not_lt_zero _)⟩
  | n + 1, h => by
    obtain ⟨l, hl, h2⟩ := list_of n (fun i hi => h i (Nat.lt_succ_of_lt hi))
    obtain ⟨a, ha⟩ := h n (Nat.lt_succ_self n)
    refine ⟨l ++ [a], by simp [hl], fun i hi => ?_⟩
    by_cases hlt : i < l.length
    · rw [List.getElem_append_left hlt]; exact h2 i hlt
    · have : i = n := by simp at hi; omega
      subst this
      rw [List.getElem_append_right (by omega)]
      simpa [hl] using ha

theorem encK_get {k : IntKind} {Q : Nat → V → Prop} : ∀ (l : List (Int × Int)) (o : Nat), (∀ i (h : i < l.length), Q (o + i * 2) (.int k l[i].1) ∧ Q (o + i * 2 + 1) (.int k l[i].2)) → ∀ x u, (l.flatMap (encK k))[x]? = some u → Q (o + x) u
  | [], _, _, x, u, h => by simp at h
  | r :: l, o, hq, x, u, h => by
    have h0 := hq 0 (by simp)
    match x, h with
    | 0, h => simp [encK] at h; subst h; simpa using h0.1
    | 1, h => simp [encK] at h; subst h; simpa using h0.2
    | x + 2, h =>
      have h' : (l.flatMap (encK k))[x]? = some u := by simpa [encK] using h
      have := encK_get l (o + 2) (fun i hi => by
        have := hq (i + 1) (by simp; omega)
        simp only [List.getElem_cons_succ] at this
        have e1 : o + (i + 1) * 2 = o + 2 + i * 2 := by omega
        rw [e1] at this
        exact this) x u h'
      have e2 : o + (x + 2) = o + 2 + x := by omega
      rw [e2]; exact this

theorem open_sl2 {r : Reach} {b0 : Nat} {k : IntKind} {t e : TypeId} {f0 f1 : Field} {v : Value} {d : DataW H} {p : List MemPlace} (ht : P.underlying t = some (.slice e)) (he : P.underlying e = some (.struct #[f0, f1]))
    (hC : P.cellsOf e = 2) (o0 : f0.offset = 0) (o1 : f1.offset = 1) (c0 : P.cellsOf f0.type = 1) (c1 : P.cellsOf f1.type = 1) (k0 : P.underlying f0.type = some (.int k)) (k1 : P.underlying f1.type = some (.int k))
    (hv : Value.okWide P w r b0 t v) (h : DataW.Trod enc P w base sp held t v d p) :
    v = .slice none 0 0 ∨ ∃ (a : Addr) (cp : Nat) (l : List (Int × Int)), v = .slice (some a) l.length cp ∧ a.spot = none ∧ a.block < w.heap.size ∧ l.length ≤ cp ∧ l.length < 9223372036854775808 ∧
      ∀ (x : Nat) u, (l.flatMap (encK k))[x]? = some u → ∀ j, w.cell? ⟨a.block, a.off + x, none⟩ = some (conc j u) := by
  obtain ⟨sa, slen, scap, rfl⟩ := Go.WideShapes.okWide_slice ht hv
  obtain ⟨fuel, hf⟩ := h
  have hcs : (Value.slice sa slen scap).cells.toList = [.slice sa slen scap] := rfl
  rw [hcs] at hf
  rcases DataW.trod_slice ht hf with ⟨h0, _⟩ | ⟨a, len, cp, elems, rest, n, _, h0, _, _, hl, hm, hlen, hel, _, _⟩
  · left
    simpa using h0
  · right
    injection h0 with h0 _
    injection h0 with h1 h2 h3
    subst h1; subst h2; subst h3
    have hok : w.has P r b0 a e scap := by
      simp only [Value.okWide, ht, Cell.okWide, Cell.ok] at hv
      exact hv.2.2
    obtain ⟨_, hs, row, cells, hsh, _⟩ := hok
    have hblk : a.block < w.heap.size := by
      unfold World.shape? at hsh
      cases hb : w.heap[a.block]? with
      | none => rw [hb] at hsh; simp at hsh
      | some b => exact (Array.getElem?_eq_some_iff.1 hb).1
    obtain ⟨l, hll, hr⟩ := list_of (R := fun i (r : Int × Int) => w.cell? (a.add (i * 2)) = some (.int k r.1) ∧ w.cell? ((a.add (i * 2)).add 1) = some (.int k r.2)) slen (by
      intro i hi
      have hE := hel i hi
      rw [hC] at hE
      have hi2 : i < elems.length := by rw [hlen]; exact hi
      rw [List.getElem?_eq_getElem hi2] at hE
      simp only [Option.bind_eq_some_iff] at hE
      obtain ⟨c, hc, hy⟩ := hE
      obtain ⟨x, y, rfl, hx, hy'⟩ := cells2 hc
      obtain ⟨xs, m, _, _, _, hxs, hfs⟩ := DataW.trod_struct he hy
      have g0 := hfs 0 f0 rfl
      have g1 := hfs 1 f1 rfl
      rw [o0, c0] at g0
      rw [o1, c1] at g1
      have hx0 : xs.length = 2 := hxs
      rw [List.getElem?_eq_getElem (by omega)] at g0 g1
      obtain ⟨p1, e1, _⟩ := DataW.trod_int k0 g0
      obtain ⟨p2, e2, _⟩ := DataW.trod_int k1 g1
      simp only [List.drop_zero, List.take_succ_cons, List.take_zero, List.cons.injEq, and_true, List.drop_succ_cons] at e1 e2
      subst e1; subst e2
      exact ⟨(p1, p2), hx, hy'⟩)
    have ha : ∀ m, a.add m = ⟨a.block, a.off + m, none⟩ := fun m => by obtain ⟨ab, ao, sq⟩ := a; simp only at hs; subst hs; unfold Addr.add; split <;> simp_all
    refine ⟨a, scap, l, by rw [hll], hs, hblk, by omega, by unfold maxLen at hm; omega, ?_⟩
    intro x u hx j
    have := encK_get (k := k) (Q := fun m u => w.cell? ⟨a.block, m, none⟩ = some (conc j u)) l a.off (fun i hi => by
      have := hr i hi
      rw [ha] at this
      refine ⟨this.1, ?_⟩
      have h2 := this.2
      have e3 : (⟨a.block, a.off + i * 2, none⟩ : Addr).add 1 = ⟨a.block, a.off + i * 2 + 1, none⟩ := rfl
      rw [e3] at h2
      exact h2) x u hx
    exact this
end
end Go.Ev
