/- dev: WindowApart -/
import Derived.Test.YtjigfpogfppidaaDoorKasks8
set_option linter.all false
namespace Go.Ev
open Go Go.Proofs
set_option maxRecDepth 4000
set_option maxHeartbeats 4000000
/-- an address has one device alone -/
theorem has_one {l : List D5} (h : rightL l) {x : Int} {i j : Nat} (hi : i < l.length) (hj : j < l.length) (h1 : hasR x (dR l[i]) = true) (h2 : hasR x (dR l[j]) = true) : i = j := by
  have key : ∀ a b (ha : a < l.length) (hb : b < l.length), a < b → hasR x (dR l[a]) = true → hasR x (dR l[b]) = true → False := by
    intro a b ha hb hab h1 h2
    have h3 := (h.2.2 b hb (by simpa using hb)).2 a hab
    rw [List.getElem_map, List.getElem_map] at h3
    have e1 := of_decide_eq_true h1
    have e2 := of_decide_eq_true h2
    have e3 := of_decide_eq_false h3
    omega
  rcases Nat.lt_trichotomy i j with hh | hh | hh
  · exact (key i j hi hj hh h1 h2).elim
  · exact hh
  · exact (key j i hj hi hh h2 h1).elim
theorem rd_takeD {H : List B} {b o : Nat} {l : List D5} (h : RdD H (some (b, o)) l) (k : Nat) : rd H b o ((l.take k).length * 5) = some ((l.take k).flatMap encD) := by
  have h' : rd H b o (l.length * 5) = some (l.flatMap encD) := h
  have h2 := rd_sub h' 0 ((l.take k).length * 5) (by rw [List.length_take]; omega)
  rw [Nat.add_zero, List.drop_zero] at h2
  rw [h2]
  congr 1
  have : l.flatMap encD = (l.take k).flatMap encD ++ (l.drop k).flatMap encD := by rw [← List.flatMap_append, List.take_append_drop]
  rw [this, List.take_left' (flat_len encD_len _)]
theorem rd_dropD {H : List B} {b o : Nat} {l : List D5} (h : RdD H (some (b, o)) l) (k : Nat) (hk : k ≤ l.length) : rd H b (o + k * 5) ((l.drop k).length * 5) = some ((l.drop k).flatMap encD) := by
  have h' : rd H b o (l.length * 5) = some (l.flatMap encD) := h
  have h2 := rd_sub h' (k * 5) ((l.drop k).length * 5) (by rw [List.length_drop]; omega)
  rw [h2]
  congr 1
  have : l.flatMap encD = (l.take k).flatMap encD ++ (l.drop k).flatMap encD := by rw [← List.flatMap_append, List.take_append_drop]
  rw [this, List.drop_left' (by rw [flat_len encD_len, List.length_take]; omega)]
  rw [List.take_of_length_le (by rw [flat_len encD_len]; omega)]
/-- x[lo:] -/
theorem slcL_eq {tm : List SV} {esz : Nat} {x i : Opd} {b o len cp : Nat} {k : IntKind} {l : Int} (hx : x.val tm = some (.sl (some (b, o)) len cp)) (hi : i.val tm = some (.int k l)) (h0 : 0 ≤ l) (h1 : l ≤ (len : Int)) (h2 : len ≤ cp) (h3 : l < (cp : Int)) :
    pureOp tm (.slc esz x (some i) none) = some (.v (.sl (some (b, o + l.toNat * esz)) (len - l.toNat) (cp - l.toNat))) := by
  have e : ¬ cp = l.toNat := by omega
  have e3 : 0 ≤ l ∧ l ≤ (len : Int) := ⟨h0, h1⟩
  simp only [pureOp, hx, optV, hi, bnd, if_pos e3, if_neg e]
theorem slcN_H {tm : List SV} {esz : Nat} {x i : Opd} {len cp : Nat} {k : IntKind} {n : Int} (hx : x.val tm = some (.sl none len cp)) (hi : i.val tm = some (.int k n)) (h0 : 0 ≤ n) (h1 : n ≤ (cp : Int)) :
    pureOp tm (.slc esz x none (some i)) = some (.v (.sl none n.toNat cp)) := by
  simp only [pureOp, hx, optV, hi, bnd]
  rw [if_pos ⟨h0, h1⟩]
  simp
theorem slcN_L {tm : List SV} {esz : Nat} {x i : Opd} {len cp : Nat} {k : IntKind} {n : Int} (hx : x.val tm = some (.sl none len cp)) (hi : i.val tm = some (.int k n)) (h0 : 0 ≤ n) (h1 : n ≤ (len : Int)) :
    pureOp tm (.slc esz x (some i) none) = some (.v (.sl none (len - n.toNat) (cp - n.toNat))) := by
  simp only [pureOp, hx, optV, hi, bnd]
  rw [if_pos ⟨h0, h1⟩]
  simp
theorem slcL_all {tm : List SV} {esz : Nat} {x i : Opd} {b o len : Nat} {k : IntKind} {l : Int} (hx : x.val tm = some (.sl (some (b, o)) len len)) (hi : i.val tm = some (.int k l)) (hl : l = (len : Int)) :
    pureOp tm (.slc esz x (some i) none) = some (.v (.sl (some (b, o)) 0 0)) := by
  have h1 : 0 ≤ l ∧ l ≤ (len : Int) := by omega
  simp only [pureOp, hx, optV, hi, bnd, if_pos h1]
  have : l.toNat = len := by omega
  rw [if_pos this.symm, this]
  simp
end Go.Ev
