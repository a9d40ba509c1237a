/- Ev: a contract out of the kit's own words: a call whose result lies in one new block, that is read alone. -/
import Derived.Test.YtmdkhaoppklokaaDoorEvBelow
set_option linter.all false
namespace Go.Ev
open Go Go.Proofs Go.RowKit Go.Shelf
def J.plus (j : J) (n g : Nat) : J := ⟨fun i => if i = n then g else j.b i, fun i => if i = n then 0 else j.o i⟩
theorem J.plus_eq (j : J) (n g : Nat) : J.Eq n j (j.plus n g) := ⟨fun i hi => if_neg (by omega), fun i hi => if_neg (by omega)⟩
theorem Inv.below_ro {G : Nat} {j : J} {w w' : World} {tm : List SV} {H : List B} (h : Inv G ⟨w, H, j⟩ j [] tm [] H false false w) (hb : Below w.heap.size w w') {g n cap : Nat} (hg : w.heap.size ≤ g) (hg' : g < w'.heap.size) {cs : List V} (hcs : ∀ m, (B.ro cs).lt m = true)
    (hc : ∀ (x : Nat) v, cs[x]? = some v → w'.cell? ⟨g, x, none⟩ = some (conc (j.plus H.length g) v)) : Inv G ⟨w, H, j⟩ (j.plus H.length g) [] [.v (.sl (some (H.length, 0)) n cap)] [] (H ++ [.ro cs]) false true w' := by
  have e := J.plus_eq j H.length g
  have hnew : (j.plus H.length g).b H.length = g := if_pos rfl
  have hlen : (H ++ [B.ro cs]).length = H.length + 1 := by simp
  have old : ∀ {i : Nat} {b : B}, i < H.length → (H ++ [B.ro cs])[i]? = some b → H[i]? = some b := fun hi hb => by rwa [List.getElem?_append_left hi] at hb
  constructor
  case os => exact hb.os
  case tape => exact hb.tape
  case output => exact hb.output
  case size => exact hb.size
  case lts =>
    intro i hi
    by_cases hi' : i < H.length
    · rw [e.b i hi']; exact Nat.lt_of_lt_of_le (h.lts i hi') hb.size
    · obtain rfl : i = H.length := by omega
      rw [hnew]; exact hg'
  case br =>
    intro i b hi
    have hi2 := (List.getElem?_eq_some_iff.1 hi).1
    by_cases hi' : i < H.length
    · have ho := old hi' hi
      exact (h.br i b ho).same e hi' (h.Hl b (List.mem_of_getElem? ho)) (hb.block _ (h.lts i hi'))
    · obtain rfl : i = H.length := by omega
      obtain rfl : B.ro cs = b := by simpa using hi
      intro x v hx
      have := hc x v hx
      simpa [J.at, J.plus] using this
  case sep =>
    intro i b hi ho i' hi2 hne
    have hi3 := (List.getElem?_eq_some_iff.1 hi).1
    by_cases hi' : i < H.length
    · rw [e.b i hi']
      by_cases hi4 : i' < H.length
      · rw [e.b i' hi4]; exact h.sep i b (old hi' hi) ho i' hi4 hne
      · obtain rfl : i' = H.length := by omega
        rw [hnew]
        have := h.lts i hi'
        omega
    · obtain rfl : i = H.length := by omega
      obtain rfl : B.ro cs = b := by simpa using hi
      cases ho
  case ll => rfl
  case lbr => intro i b hi; simp at hi
  case lnew => intro k hk; simp at hk
  case lnd => intro k k' hk; simp at hk
  case lsep => intro k hk; simp at hk
  case tml =>
    intro x hx
    obtain rfl := List.mem_singleton.1 hx
    rw [hlen]
    simp [SV.ok, V.lt]
  case Ll => intro b hb; simp at hb
  case Hl =>
    intro b hb'
    rcases List.mem_append.1 hb' with h1 | h1
    · rw [hlen]; exact B.lt_le (Nat.le_succ _) (h.Hl b h1)
    · obtain rfl := List.mem_singleton.1 h1
      exact hcs _
  case n0 => rw [hlen]; exact Nat.le_succ _
  case jold => exact e
  case jnew =>
    intro i h1 h2
    have h1' : H.length ≤ i := h1
    obtain rfl : i = H.length := by omega
    rw [hnew]; exact hg
  case frame => exact fun b hb' _ => hb.block b hb'
  case kd =>
    intro i b hi
    obtain ⟨b', h1, h2⟩ := h.kd i b hi
    exact ⟨b', by rw [List.getElem?_append_left (List.getElem?_eq_some_iff.1 h1).1]; exact h1, h2⟩
  case esc =>
    intro h0 i b b' m hi hi' hl
    exact h.esc h0 i b b' m hi (old (List.getElem?_eq_some_iff.1 hi).1 hi') hl
  case grow => intro h0; cases h0
  case glob =>
    intro i hi
    have hi' : i < H.length := Nat.lt_of_lt_of_le hi h.gl
    rw [e.b i hi', e.o i hi']; exact h.glob i hi
  case gl => rw [hlen]; exact Nat.le_succ_of_le h.gl
end Go.Ev
