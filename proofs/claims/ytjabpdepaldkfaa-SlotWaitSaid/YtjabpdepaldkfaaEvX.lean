/- Ev: words of this program: sizes, low parts, bytes. -/
import Derived.Test.YtjabpdepaldkfaaEvW
set_option linter.all false
namespace Go.Ev
def okS (n : Int) : Prop := n = 1 ∨ n = 2 ∨ n = 4
instance (n : Int) : Decidable (okS n) := by unfold okS; exact inferInstance
end Go.Ev
namespace Go.Ev
end Go.Ev
namespace Go.Ev
theorem fI_u32 {f : Nat} {n : Int} {K : Int → Prop} (h : 0 ≤ n ∧ n < 4294967296) (k : ∀ z, z = n → K z) : fI f (IntKind.u32.wrap n) K := (fI_eq f _ K).mpr (k _ (by rw [wrap_u32]; omega))
theorem fI_u8 {f : Nat} {n : Int} {K : Int → Prop} (h : 0 ≤ n ∧ n < 256) (k : ∀ z, z = n → K z) : fI f (IntKind.u8.wrap n) K := (fI_eq f _ K).mpr (k _ (by rw [wrap_u8]; omega))
theorem fI_i64 {f : Nat} {n : Int} {K : Int → Prop} (h : -9223372036854775808 ≤ n ∧ n < 9223372036854775808) (k : ∀ z, z = n → K z) : fI f (IntKind.i64.wrap n) K := (fI_eq f _ K).mpr (k _ (wrap_i64_id h.1 h.2))
theorem fI_u64 {f : Nat} {n : Int} {K : Int → Prop} (h : 0 ≤ n ∧ n < 18446744073709551616) (k : ∀ z, z = n → K z) : fI f (IntKind.u64.wrap n) K := (fI_eq f _ K).mpr (k _ (by rw [wrap_u64]; omega))
theorem fI_tdiv {f : Nat} {a b : Int} {K : Int → Prop} (h : 0 ≤ a) (k : ∀ z, z = a / b → K z) : fI f (a.tdiv b) K := (fI_eq f _ K).mpr (k _ (Int.tdiv_eq_ediv_of_nonneg h))
theorem fI_tmod {f : Nat} {a b : Int} {K : Int → Prop} (h : 0 ≤ a) (k : ∀ z, z = a % b → K z) : fI f (a.tmod b) K := (fI_eq f _ K).mpr (k _ (Int.tmod_eq_emod_of_nonneg h))
end Go.Ev
namespace Go.Ev
end Go.Ev
namespace Go.Ev
theorem rd_block {H : List B} {b : Nat} {ty : TypeId} {cs ws : List V} {n : Nat} (h : H[b]? = some (.rw ty (cs ++ ws))) (hn : cs.length = n) : rd H b 0 n = some cs := by
  unfold rd
  rw [h]
  exact cut_pre cs ws n hn
end Go.Ev
namespace Go.Ev
theorem rd_x0 (H : List B) (ty : TypeId) (cs : List V) (x n : Nat) : rd (H ++ [.rw ty cs]) H.length x n = cut cs x n := by
  unfold rd; rw [List.getElem?_concat_length]; rfl
theorem rd_x1 (H : List B) (ty : TypeId) (cs : List V) (c : B) (x n : Nat) : rd (H ++ [.rw ty cs] ++ [c]) H.length x n = cut cs x n := by
  unfold rd; rw [List.getElem?_append_left (by simp), List.getElem?_concat_length]; rfl
theorem rd_x2 (H : List B) (ty : TypeId) (cs : List V) (c d : B) (x n : Nat) : rd (H ++ [.rw ty cs] ++ [c] ++ [d]) H.length x n = cut cs x n := by
  unfold rd; rw [List.getElem?_append_left (by simp), List.getElem?_append_left (by simp), List.getElem?_concat_length]; rfl
theorem take_app3 (H X Y Z : List B) : H = List.take H.length (H ++ X ++ Y ++ Z) := by rw [List.append_assoc, List.append_assoc, List.take_left']; rfl
end Go.Ev
