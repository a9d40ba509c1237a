/- dev: word.Ones' contract -/
import Derived.Test.YtmdkhaoppklokaaDoorKones2
import Derived.Test.YtmdkhaoppklokaaDoorEvBelow2
set_option linter.all false
namespace Go.Ev
open Go Go.Proofs Go.RowKit Go.Shelf
def s28 : Sp := fun vs H Q => match vs with
  | [.int .u32 v] => (0 ≤ v ∧ v < 4294967296) ∧ (onesL v 32 = [] → Q (.sl none 0 0) H false false) ∧ (onesL v 32 ≠ [] → ∀ cap, (onesL v 32).length ≤ cap → Q (.sl (some (H.length, 0)) (onesL v 32).length cap) (H ++ [.ro ((onesL v 32).map (V.int .i64))]) false true)
  | _ => False
theorem m28 : Mono s28 := by
  intro vs H Q Q' hq h
  unfold s28 at h ⊢
  split at h
  · exact ⟨h.1, fun hn => hq _ _ _ _ (h.2.1 hn), fun hn cap hc => hq _ _ _ _ (h.2.2 hn cap hc)⟩
  · exact h.elim
theorem ltL_ints : ∀ (l : List Int) (m : Nat), V.ltL m (l.map (V.int .i64)) = true
  | [], _ => rfl
  | a :: l, m => by
    have := ltL_ints l m
    simp only [List.map_cons, V.ltL, this, Bool.and_true]
    rfl
theorem k28 : Snd Tryd.prog 2 28 s28 := by
  intro vs H Q h
  unfold s28 at h
  split at h
  · rename_i v
    refine ⟨⟨_, x28, by kernel_rfl, rfl⟩, fun j w hi => ?_⟩
    refine (callsIn_wide.1 (Ones_in Fence.wide 5 trivial trivial trivial trivial trivial rfl (by omega) v h.1 w)).mono ?_
    rintro r w' ⟨v', rfl, hrow, hnil, hb⟩
    by_cases hn : onesL v 32 = []
    · obtain rfl := hnil.2 hn
      exact ⟨.sl none 0 0, H, false, false, j, h.2.1 hn, rfl, hi.below hb rfl⟩
    · rcases hrow.2 with ⟨e1, _⟩ | ⟨g, cap, cur, rfl, hg, hgb, h1, h2, h3, h4⟩
      · exact absurd (hnil.1 e1) hn
      · refine ⟨.sl (some (H.length, 0)) (onesL v 32).length cap, _, false, true, j.plus H.length g, h.2.2 hn cap h1, by simp [conc, J.at, J.plus], hi.below_ro hb hg (Array.getElem?_eq_some_iff.1 hgb).1 (fun m => ltL_ints _ _) ?_⟩
        intro x u hx
        rw [List.getElem?_map] at hx
        obtain ⟨y, hy, rfl⟩ := Option.map_eq_some_iff.1 hx
        have hxl := (List.getElem?_eq_some_iff.1 hy).1
        have e2 : (cur.toList.take ((onesL v 32).length * 1))[x]? = some (encI y) := by rw [h4, List.getElem?_map, hy]; rfl
        rw [List.getElem?_take_of_lt (by omega), Array.getElem?_toList] at e2
        simp [World.cell?, hgb, e2, conc, encI]
  · exact h.elim
end Go.Ev
