/- texts joined -/
import Derived.Test.YtmdkhaoppklokaaDoorKonesR
import Derived.Test.YtmdkhaoppklokaaDoorEvBelow2
set_option linter.all false
namespace Go.Ev
open Go Go.Proofs Go.RowKit Go.Maps Go.Sort Go.Shelf
attribute [local go_sem] Oper.semAt_some
theorem ownsRow_base {W : World} {base base' : Nat} {e : TypeId} {size : Nat} {v : Value} {k : Nat} {xs : List Value} (h : W.ownsRow base e size v k xs) (hb : base' ≤ base) : W.ownsRow base' e size v k xs := by
  refine ⟨h.1, ?_⟩
  rcases h.2 with h' | ⟨g, cap, cur, e1, e2, e3⟩
  · exact .inl h'
  · exact .inr ⟨g, cap, cur, e1, Nat.le_trans hb e2, e3⟩
set_option maxHeartbeats 1000000 in
theorem collectBits_in (F : Fence) (n : Nat) (h44 : F.fn 44) (h56 : F.fn 56) (h55 : F.fn 55) (hro : F.round = none) (hn : 4 ≤ n) (b : Nat) (v0 : Int) (hvv : 0 ≤ v0 ∧ v0 < 4294967296) (w : World) (hbw : b < w.heap.size) (hcb : w.cell? ⟨b, 0, none⟩ = some (.int .u32 v0)) :
    CallsIn F n Tryd.prog 44 #[.func (.func 55) #[] #[.pointer (some ⟨b, 0, none⟩)]] w fun e w' => ∃ (v : Value), e = .returned v ∧ w'.ownsRow w.heap.size 3 1 v (onesL v0 32).length ((onesL v0 32).map encI) ∧ (v = .slice none 0 0 ↔ onesL v0 32 = []) ∧ AllI 3 w' v ∧ Below w.heap.size w w' := by
  have h1 : 1 ≤ n := by omega
  refine callsIn_of_wp x44 rfl h44 ?_ hro
  simp only [show Tryd.f44.ntmps = 5 from rfl, List.size_toArray, List.length_cons, List.length_nil, Nat.reduceAdd, Nat.reduceSub, Array.replicate_succ, Array.replicate_zero, List.push_toArray, List.append_toArray, List.nil_append, List.cons_append]
  gi_wp2_with (gi_at_call 56; refine (appendBits_in F (n - 1) h56 h55 hro (by omega) b v0 hvv _ hbw hcb).mono ?_; rintro e w' ⟨v, rfl, hrow, hnil, hal, hb⟩)
  go_ret
  exact ⟨v, rfl, hrow, hnil, hal, hb⟩
set_option maxHeartbeats 1000000 in
theorem Ones_in (F : Fence) (n : Nat) (h28 : F.fn 28) (h43 : F.fn 43) (h44 : F.fn 44) (h56 : F.fn 56) (h55 : F.fn 55) (hro : F.round = none) (hn : 5 ≤ n) (v0 : Int) (hvv : 0 ≤ v0 ∧ v0 < 4294967296) (w : World) :
    CallsIn F n Tryd.prog 28 #[.int .u32 v0] w fun e w' => ∃ (v : Value), e = .returned v ∧ w'.ownsRow w.heap.size 3 1 v (onesL v0 32).length ((onesL v0 32).map encI) ∧ (v = .slice none 0 0 ↔ onesL v0 32 = []) ∧ AllI 3 w' v ∧ Below w.heap.size w w' := by
  have h1 : 1 ≤ n := by omega
  refine callsIn_of_wp x28 rfl h28 ?_ hro
  simp only [show Tryd.f28.ntmps = 6 from rfl, List.size_toArray, List.length_cons, List.length_nil, Nat.reduceAdd, Nat.reduceSub, Array.replicate_succ, Array.replicate_zero, List.push_toArray, List.append_toArray, List.nil_append, List.cons_append]
  gi_wp2_with (first
    | (gi_at_call 43; refine (bits_in F (n - 1) h43 hro _ _).mono ?_; rintro e w' ⟨rfl, rfl⟩)
    | (gi_at_call 44; refine (collectBits_in F (n - 1) h44 h56 h55 hro (by omega) w.heap.size v0 hvv _ (by simp) (Boxed.new w 22 (.int .u32 v0)).cell).mono ?_; rintro e w' ⟨v, rfl, hrow, hnil, hal, hb⟩))
  go_ret
  rw [World.size_alloc] at hrow hb
  exact ⟨v, rfl, ownsRow_base hrow (Nat.le_succ _), hnil, hal, ((Below.refl _ w).alloc (Nat.le_refl _) _).trans (hb.mono (Nat.le_succ _))⟩
end Go.Ev

set_option linter.all false
namespace Go.Ev
open Go Go.Proofs Go.RowKit Go.Shelf
def s28 : Sp := fun vs H Q => match vs with
  | [.int .u32 v] => (0 ≤ v ∧ v < 4294967296) ∧ RowsI 3 H (onesL v 32) Q
  | _ => False
theorem k28 : Snd Tryd.prog 2 28 s28 := by
  intro vs H Q h
  unfold s28 at h
  split at h
  · rename_i v
    refine ⟨⟨_, x28, by kernel_rfl, rfl⟩, fun j w hi => ?_⟩
    refine (callsIn_wide.1 (Ones_in Fence.wide 5 trivial trivial trivial trivial trivial rfl (by omega) v h.1 w)).mono ?_
    rintro r w' ⟨v', rfl, hrow, hnil, hal, hb⟩
    exact rowsI_fin hi hrow hnil hal hb h.2
  · exact h.elim
end Go.Ev
