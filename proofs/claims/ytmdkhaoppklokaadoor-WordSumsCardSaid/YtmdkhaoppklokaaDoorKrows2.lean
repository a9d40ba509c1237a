/- dev: two rows that lie apart -/
import Derived.Test.YtmdkhaoppklokaaDoorEvX
import Derived.Test.YtmdkhaoppklokaaDoorKbyt
import Derived.Test.YtmdkhaoppklokaaDoorKaptK
set_option linter.all false
namespace Go.Ev
open Go Go.Proofs
set_option maxRecDepth 10000
set_option maxHeartbeats 4000000
theorem blk_app {H : List B} {b : Nat} {x : B} (h : H[b]? = some x) (X : List B) : (H ++ X)[b]? = some x := (List.getElem?_append_left (List.getElem?_eq_some_iff.1 h).1).trans h
theorem rd_pair {H : List B} {ty : TypeId} {x y : V} : ∀ k, k < 2 → rd (H ++ [.rw ty [x, y]]) H.length (0 + k) 1 = some [if k = 0 then x else y] := by
  intro k hk
  have : k = 0 ∨ k = 1 := by omega
  rcases this with rfl | rfl
  · exact (rd_x0 _ _ _ _ _).trans rfl
  · exact (rd_x0 _ _ _ _ _).trans rfl
/-- a memory whose first blocks are those of another -/
def Ext (H M : List B) : Prop := H.length ≤ M.length ∧ ∀ x, x < H.length → M[x]? = H[x]?
theorem Ext.refl (H : List B) : Ext H H := ⟨Nat.le_refl _, fun _ _ => rfl⟩
theorem Ext.app {H M : List B} (h : Ext H M) (X : List B) : Ext H (M ++ X) := ⟨by rw [List.length_append]; exact Nat.le_trans h.1 (Nat.le_add_right _ _), fun x hx => (List.getElem?_append_left (Nat.lt_of_lt_of_le hx h.1)).trans (h.2 x hx)⟩
theorem Ext.upd {H M N : List B} {b c : Nat} (h : Ext H M) (hb : H.length ≤ b) (hc : H.length ≤ c) (h1 : ∀ x, x < M.length → x ≠ b → x ≠ c → N[x]? = M[x]?) (h2 : M.length ≤ N.length) : Ext H N :=
  ⟨Nat.le_trans h.1 h2, fun x hx => (h1 x (Nat.lt_of_lt_of_le hx h.1) (by omega) (by omega)).trans (h.2 x hx)⟩
theorem Ext.take {H M : List B} (h : Ext H M) : Ext H (M.take H.length) := ⟨by rw [List.length_take]; have := h.1; omega, fun x hx => by rw [List.getElem?_take_of_lt hx]; exact h.2 x hx⟩
theorem Ext.eq {H M : List B} (h : Ext H M) : M = H ++ M.drop H.length := app_of h.2 h.1
end Go.Ev
