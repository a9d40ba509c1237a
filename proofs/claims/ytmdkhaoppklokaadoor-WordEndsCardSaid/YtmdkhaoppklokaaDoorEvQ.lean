/- texts joined -/
import Derived.Test.YtmdkhaoppklokaaDoorEvP
import Derived.Below
import Derived.DataShut
namespace Go.Ev
open Go.RowKit

theorem law_calls {P : Program} {G f : Nat} {s : Sp} (hs : Snd P G f s) {w : World} {H : List B} {j : J} {vs : List V} (hi : Inv G ⟨w, H, j⟩ j [] (vs.map SV.v) [] H false false w) (hro : ∀ b, b ∈ H → b.own = false)
    (hk : s vs H fun v _ _ _ => v = .bool true) : Calls P f (concL j vs).toArray w fun e w' => e = .returned (.bool true) ∧ Below w.heap.size w w' := by
  obtain ⟨_, h⟩ := hs vs H _ hk
  refine (h j w hi).mono ?_
  rintro r w' ⟨v, H', e, g, j', rfl, rfl, hinv⟩
  refine ⟨rfl, ⟨hinv.os, hinv.tape, hinv.output, hinv.size, fun k hk => hinv.frame k hk ?_⟩⟩
  intro i b hb ho
  rw [hro b (List.mem_of_getElem? hb)] at ho
  cases ho
end Go.Ev
namespace Go.Ev
end Go.Ev
namespace Go.Ev
theorem tq_not (b : Bool) : (true = !b) = (b = false) := by cases b <;> simp
theorem fq_not (b : Bool) : (false = !b) = (b = true) := by cases b <;> simp
theorem tq_and (a b : Bool) : (true = (a && b)) = (a = true ∧ b = true) := by cases a <;> cases b <;> simp
theorem fq_and (a b : Bool) : (false = (a && b)) = (a = false ∨ b = false) := by cases a <;> cases b <;> simp
theorem tq_or (a b : Bool) : (true = (a || b)) = (a = true ∨ b = true) := by cases a <;> cases b <;> simp
theorem fq_or (a b : Bool) : (false = (a || b)) = (a = false ∧ b = false) := by cases a <;> cases b <;> simp
theorem tq_beq {α : Type} [BEq α] (a b : α) : (true = (a == b)) = ((a == b) = true) := propext ⟨Eq.symm, Eq.symm⟩
theorem fq_beq {α : Type} [BEq α] (a b : α) : (false = (a == b)) = ((a == b) = false) := propext ⟨Eq.symm, Eq.symm⟩
theorem tq_bne {α : Type} [BEq α] (a b : α) : (true = (a != b)) = ((a != b) = true) := propext ⟨Eq.symm, Eq.symm⟩
theorem fq_bne {α : Type} [BEq α] (a b : α) : (false = (a != b)) = ((a != b) = false) := propext ⟨Eq.symm, Eq.symm⟩
theorem tq_dec (p : Prop) [Decidable p] : (true = decide p) = p := propext ⟨fun h => of_decide_eq_true h.symm, fun h => (decide_eq_true h).symm⟩
theorem fq_dec (p : Prop) [Decidable p] : (false = decide p) = ¬ p := propext ⟨fun h => of_decide_eq_false h.symm, fun h => (decide_eq_false h).symm⟩
end Go.Ev
namespace Go.Ev
theorem dec_trueH {d : Bool} {A B : Prop} (h : d = true) (a : d = true → A) : Bool.rec (motive := fun _ => Prop) B A d := by subst h; exact a rfl
theorem dec_falseH {d : Bool} {A B : Prop} (h : d = false) (b : d = false → B) : Bool.rec (motive := fun _ => Prop) B A d := by subst h; exact b rfl
end Go.Ev
namespace Go.Ev
theorem snd_or {P : Program} {G f : Nat} {s t : Sp} (h : Snd P G f s) (h' : Snd P G f t) : Snd P G f (fun vs H Q => s vs H Q ∨ t vs H Q) := by
  intro vs H Q hh
  rcases hh with hh | hh
  · exact h vs H Q hh
  · exact h' vs H Q hh
end Go.Ev

namespace Go.Ev

theorem ld_step {tm : List SV} {L : List LB} {H : List B} {e g : Bool} {agg : Bool} {n : Nat} {x : Opd} {K : KV} {i o : Nat} {cs : List V} {v : V} (hx : x.ev tm = .v (.ptr (some (i, o)))) (hr : rd H i o n = some cs) (hu : unV agg cs = some v)
    (hK : K (.v v) L H e g) : (match memOp tm L H e g (.ld agg n x) with
      | some (v, L', H', e', g') => K v L' H' e' g'
      | none => False) := by
  simp only [memOp, hx, hr, hu]
  exact hK

theorem lds_step {tm : List SV} {L : List LB} {H : List B} {e g : Bool} {agg : Bool} {n : Nat} {x : Opd} {K : SV → Prop} {i o : Nat} {cs : List V} {v : V} (hx : x.ev tm = .v (.ptr (some (i, o)))) (hr : rd H i o n = some cs) (hu : unV agg cs = some v)
    (hK : K (.v v)) : (match memOp tm L H e g (.ld agg n x) with
      | some (v, _) => K v
      | none => False) := by
  simp only [memOp, hx, hr, hu]
  exact hK
end Go.Ev

namespace Go.Ev

/-- a loop that counts up: an invariant by the count. -/
theorem evLoop_for {c : List SV → List LB → List B → Bool → Bool → KE → Prop} {Q : KE} (N : Nat) (I : Nat → List SV → List LB → List B → Bool → Bool → Prop)
    (hstep : ∀ i tm L H e g, i ≤ N → I i tm L H e g → ∀ K : KE, (i < N → ∀ tm L H e g, I (i + 1) tm L H e g → K .n tm L H e g) → (∀ id tm L H e g, Q (.x id) tm L H e g → K (.x id) tm L H e g) → (∀ tm L H e g, Q .r tm L H e g → K .r tm L H e g) → c tm L H e g K) :
    ∀ d i f tm L H e g, i + d = N → d < f → I i tm L H e g → evLoop c f tm L H e g Q := by
  intro d
  induction d with
  | zero =>
    intro i f tm L H e g hi hf hI
    obtain ⟨f, rfl⟩ : ∃ f', f = f' + 1 := ⟨f - 1, by omega⟩
    refine hstep i tm L H e g (by omega) hI _ (fun h => by omega) (fun _ _ _ _ _ _ h => h) (fun _ _ _ _ _ h => h)
  | succ d ih =>
    intro i f tm L H e g hi hf hI
    obtain ⟨f, rfl⟩ : ∃ f', f = f' + 1 := ⟨f - 1, by omega⟩
    refine hstep i tm L H e g (by omega) hI _ (fun h tm L H e g hI' => ih (i + 1) f tm L H e g (by omega) (by omega) hI') (fun _ _ _ _ _ _ h => h) (fun _ _ _ _ _ h => h)

/-- steps -/
theorem pure_step {tm : List SV} {op : EOp} {v : SV} {A : SV → Prop} {B : Prop} (h : pureOp tm op = some v) (hK : A v) : (match pureOp tm op with
    | some v => A v
    | none => B) := by rw [h]; exact hK

theorem ixs_eq {tm : List SV} {esz : Nat} {x i : Opd} {b o len cp : Nat} {k : IntKind} {n : Int} (hx : x.val tm = some (.sl (some (b, o)) len cp)) (hi : i.val tm = some (.int k n)) (h0 : 0 ≤ n) (h1 : n < (len : Int)) :
    pureOp tm (.ixs esz x i) = some (.v (.ptr (some (b, o + n.toNat * esz)))) := by
  simp only [pureOp, hx, hi]
  rw [if_pos ⟨h0, h1⟩]

/-! lists in memory -/

theorem rd_sub {H : List B} {b o n : Nat} {r : List V} (h : rd H b o n = some r) (x m : Nat) (hx : x + m ≤ n) : rd H b (o + x) m = some ((r.drop x).take m) := by
  unfold rd at h ⊢
  split at h
  · rename_i bb hb
    unfold cut at h ⊢
    split at h
    · rename_i h1
      injection h with h
      subst h
      rw [if_pos (by omega)]
      rw [List.drop_take, List.take_take, List.drop_drop, Nat.min_eq_left (by omega)]
    · cases h
  · cases h

theorem flat_len {α : Type} {enc : α → List V} {m : Nat} (hm : ∀ a, (enc a).length = m) : ∀ l : List α, (l.flatMap enc).length = l.length * m
  | [] => by simp
  | a :: l => by simp only [List.flatMap_cons, List.length_append, hm, flat_len hm l, List.length_cons, Nat.succ_mul]; omega

theorem flat_drop {α : Type} {enc : α → List V} {m : Nat} (hm : ∀ a, (enc a).length = m) : ∀ (l : List α) (i : Nat), (l.flatMap enc).drop (i * m) = (l.drop i).flatMap enc
  | l, 0 => by simp
  | [], i + 1 => by simp
  | a :: l, i + 1 => by
    simp only [List.flatMap_cons, List.drop_succ_cons]
    rw [← flat_drop hm l i, List.drop_append, hm, List.drop_eq_nil_of_le (by rw [hm, Nat.succ_mul]; omega), List.nil_append, Nat.succ_mul]
    congr 1; omega

theorem rd_el {α : Type} {enc : α → List V} {m : Nat} (hm : ∀ a, (enc a).length = m) {H : List B} {b o : Nat} {l : List α} (hr : rd H b o (l.length * m) = some (l.flatMap enc)) (i : Nat) (hi : i < l.length) (p : Nat) (hp : p = o + i * m) :
    rd H b p m = some (enc l[i]) := by
  subst hp
  have h1 : i * m + m ≤ l.length * m := by rw [← Nat.succ_mul]; exact Nat.mul_le_mul_right m hi
  rw [rd_sub hr (i * m) m h1]
  congr 1
  rw [flat_drop hm, List.drop_eq_getElem_cons hi, List.flatMap_cons, List.take_append_of_le_length (by rw [hm]; exact Nat.le_refl _), List.take_of_length_le (by rw [hm]; exact Nat.le_refl _)]

end Go.Ev
namespace Go.Ev
theorem mem_step {tm : List SV} {L : List LB} {H : List B} {e g : Bool} {op : EOp} {v : SV} {L' : List LB} {H' : List B} {e' g' : Bool} {A : SV → List LB → List B → Bool → Bool → Prop} {B : Prop} (h : memOp tm L H e g op = some (v, L', H', e', g')) (hK : A v L' H' e' g') : (match memOp tm L H e g op with
    | some (v, L', H', e', g') => A v L' H' e' g'
    | none => B) := by rw [h]; exact hK

theorem st_eq {tm : List SV} {L : List LB} {H H' : List B} {e g : Bool} {n : Nat} {x y : Opd} {i o : Nat} {v : V} (hy : y.val tm = some v) (hx : x.ev tm = .v (.ptr (some (i, o)))) (hn : v.cells.length = n) (ho : v.cells.all V.one = true) (hw : wr H i o v.cells = some H') :
    memOp tm L H e g (.st n x y) = some (undefV, L, H', e || !v.plain, g) := by
  simp only [memOp, hy, hx, hw]
  rw [if_pos ⟨hn, ho⟩]

theorem wr_last (H : List B) (ty : TypeId) (cs vs : List V) (h : vs.length = cs.length) : wr (H ++ [.rw ty cs]) H.length 0 vs = some (H ++ [.rw ty vs]) := by
  unfold wr
  simp only [List.getElem?_append_right (Nat.le_refl _), Nat.sub_self, List.getElem?_cons_zero, Nat.zero_add, h, Nat.le_refl, if_true]
  rw [List.set_append_right _ _ (Nat.le_refl _), Nat.sub_self, List.set_cons_zero]
  simp only [splice, List.take_zero, List.nil_append, Nat.zero_add, h, List.drop_length, List.append_nil]

theorem rd_last (H : List B) (ty : TypeId) (vs : List V) (n : Nat) (h : vs.length = n) : rd (H ++ [.rw ty vs]) H.length 0 n = some vs := by
  unfold rd
  simp only [List.getElem?_append_right (Nat.le_refl _), Nat.sub_self, List.getElem?_cons_zero, B.cells, cut, Nat.zero_add, h, Nat.le_refl, if_true, List.drop_zero]
  rw [← h, List.take_length]

theorem rd_app {H : List B} {b o n : Nat} {r : List V} (h : rd H b o n = some r) (X : List B) : rd (H ++ X) b o n = some r := by
  unfold rd at h ⊢
  split at h
  · rename_i bb hb
    rw [List.getElem?_append_left (List.getElem?_eq_some_iff.1 hb).1, hb]
    exact h
  · cases h

end Go.Ev
namespace Go.Ev
theorem leafH {Q : Post} {v v' : V} {H H' : List B} {e g : Bool} (hq : Q v H e g) (h : v = v') (hH : H = H') : Q v' H' e g := h ▸ hH ▸ hq
theorem take_app2 (H X Y : List B) : H = List.take H.length (H ++ X ++ Y) := by rw [List.append_assoc, List.take_left']; rfl
theorem take_app1 (H X : List B) : H = List.take H.length (H ++ X) := by rw [List.take_left']; rfl
end Go.Ev
namespace Go.Ev
end Go.Ev
namespace Go.Ev
end Go.Ev
namespace Go.Ev
theorem rLoop_for {c : List SV → List LB → List B → Bool → Bool → KE → Prop} {Q : KE} (N : Nat) (I : Nat → List SV → List LB → List B → Bool → Bool → Prop)
    (hstep : ∀ i tm L H e g, i ≤ N → I i tm L H e g → ∀ K : KE, (i < N → ∀ tm L H e g, I (i + 1) tm L H e g → K .n tm L H e g) → (∀ id tm L H e g, Q (.x id) tm L H e g → K (.x id) tm L H e g) → (∀ tm L H e g, Q .r tm L H e g → K .r tm L H e g) → c tm L H e g K) :
    ∀ d i f tm L H e g, i + d = N → d < f → I i tm L H e g → rLoop c f tm L H e g Q := by
  intro d i f tm L H e g h1 h2 h3
  rw [rLoop_eq]
  exact evLoop_for N I hstep d i f tm L H e g h1 h2 h3
end Go.Ev
namespace Go.Ev
end Go.Ev
namespace Go.Ev
theorem news_eq {H : List B} {esz b o n c : Nat} {cs : List V} (h : rd H b o (n * esz) = some cs) (h1 : cs.all V.one = true) : news H esz (.sl (some (b, o)) n c) = some (n, cs) := by
  simp only [news, h, h1, if_true]
theorem cut_pre (cs X : List V) (n : Nat) (h : cs.length = n) : cut (cs ++ X) 0 n = some cs := by
  unfold cut
  rw [if_pos (by rw [List.length_append]; omega), List.drop_zero, ← h, List.take_left']
  rfl
end Go.Ev
namespace Go.Ev
theorem drec_no {c : Prop} {d : Decidable c} {A : c → Prop} {B : ¬ c → Prop} (h : ¬ c) (b : B h) : @Decidable.rec c (fun _ => Prop) B A d := by
  cases d with
  | isTrue h' => exact absurd h' h
  | isFalse _ => exact b
theorem drec_yes {c : Prop} {d : Decidable c} {A : c → Prop} {B : ¬ c → Prop} (h : c) (a : A h) : @Decidable.rec c (fun _ => Prop) B A d := by
  cases d with
  | isTrue _ => exact a
  | isFalse h' => exact absurd h h'
end Go.Ev
