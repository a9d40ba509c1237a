/- Ev: rows with package tables; flat arguments. -/
import Derived.Test.YtmdkhaoppklokaaDoorEvU
import Derived.OpenShut
import Derived.Lib.LaidU8
import Derived.MakeChecks
set_option linter.all false
namespace Go.Ev
open Go.RowKit

theorem inv_ros {G : Nat} {w : World} {j : J} {H : List B} {vs : List V} (hall : ∀ b, b ∈ H → ∃ cs, b = .ro cs ∧ V.ltL H.length cs = true) (hb : ∀ i, i < H.length → j.b i < w.heap.size)
    (hr : ∀ i cs, H[i]? = some (.ro cs) → ∀ (x : Nat) v, cs[x]? = some v → w.cell? (j.at i x) = some (conc j v)) (hv : V.ltL H.length vs = true) (hG : G ≤ H.length) (hg : ∀ i, i < G → j.b i = i ∧ j.o i = 0) :
    Inv G ⟨w, H, j⟩ j [] (vs.map SV.v) [] H false false w where
  os := rfl
  tape := rfl
  output := rfl
  size := Nat.le_refl _
  lts := hb
  br := by
    intro i b hb'
    obtain ⟨cs, rfl, _⟩ := hall b (List.mem_of_getElem? hb')
    exact hr i cs hb'
  sep := by
    intro i b hb' ho
    obtain ⟨cs, rfl, _⟩ := hall b (List.mem_of_getElem? hb')
    cases ho
  ll := rfl
  lbr := by intro i b hi; simp at hi
  lnew := by intro k hk; simp at hk
  lnd := by intro k k' hk; simp at hk
  lsep := by intro k hk; simp at hk
  tml := by
    intro x hx
    obtain ⟨v, hv', rfl⟩ := List.mem_map.1 hx
    exact (ltL_iff _ _).1 hv v hv'
  Ll := by intro b hb; cases hb
  Hl := by
    intro b hb'
    obtain ⟨cs, rfl, h⟩ := hall b hb'
    exact h
  n0 := Nat.le_refl _
  jold := J.Eq.refl _ _
  jnew := by intro i hi hi'; exact absurd hi' (Nat.not_lt.2 hi)
  frame := fun b hb hf => rfl
  kd := by
    intro i b hi
    obtain ⟨cs, rfl, h⟩ := hall b (List.mem_of_getElem? hi)
    exact ⟨_, hi, by first | exact rfl | trivial⟩
  esc := by
    intro _ i b b' m hb hb' hm
    rw [hb] at hb'
    injection hb' with hb'
    exact hb' ▸ hm
  grow := fun _ => rfl
  glob := hg
  gl := hG

/-! a flat value: whole numbers and bools, cell by cell -/
/-- a table of whole numbers -/
theorem table_cells {P : Program} {w : World} {name : String} {g n : Nat} {t e : TypeId} {k : IntKind} {zs : List Int} (h : Go.Lib.VarReads P w name (.agg (zs.map fun z => .lit (.int k z)))) (hg : P.globalNamed name = some g) (ht : (P.globals[g]?).map (·.type) = some t)
    (hu : P.underlying t = some (.array n e)) (he : P.underlying e = some (.int k)) (hc : P.cellsOf e = 1) (hn : zs.length = n) : ∀ (x : Nat) (z : Int), zs[x]? = some z → w.cell? ⟨g, x, none⟩ = some (.int k z) := by
  obtain ⟨g', t', cs, fuel, p, hg', ht', hv, hd⟩ := h
  obtain rfl := Option.some.inj (hg.symm.trans hg')
  obtain rfl := Option.some.inj (ht.symm.trans ht')
  obtain ⟨xs, m, _, hx, hl, hxl, hall⟩ := DataW.trod_array hu hd
  intro x z hz
  have hxn : x < n := by rw [← hn]; exact (List.getElem?_eq_some_iff.1 hz).1
  have h1 := hall x hxn
  have hxs : xs.map (·.1) = zs.map fun z => (DataW.lit (.int k z) : DataW Unit) := by
    have := congrArg Prod.fst hx
    simpa using this.symm
  have hlt : x < xs.length := by rw [hxl]; exact hxn
  rw [List.getElem?_eq_getElem hlt] at h1
  have h2 : (xs[x]).1 = .lit (.int k z) := by
    have := congrArg (fun l => l[x]?) hxs
    simp only [List.getElem?_map, List.getElem?_eq_getElem hlt, Option.map_some, hz] at this
    exact Option.some.inj this
  have h3 : xs[x] = (.lit (.int k z), (xs[x]).2) := by rw [← h2]
  rw [h3] at h1
  obtain ⟨z', e1, e2, _⟩ := DataW.trod_int he h1
  rw [hc, Nat.mul_one] at e1
  have h4 : cs.toList[x]? = some (.int k z') := by
    have h5 : ((cs.toList.drop x).take 1)[0]? = some (.int k z') := by rw [e1]; rfl
    simpa using h5
  have h6 := World.var?_cell hg hv x
  have h7 : cs[x]? = some (.int k z') := by simpa using h4
  rw [h6, h7]
  have h8 : z' = z := by
    have := congrArg Prod.fst e2
    simpa using this.symm
  rw [h8]
end Go.Ev
