/- dev: marks -/
import Derived.Test.YtngbaiiokdladaaDoorKF
import Derived.Test.YtngbaiiokdladaaDoorKapt0
import Derived.Test.YtngbaiiokdladaaDoorKmk
set_option linter.all false
namespace Go.Ev
open Go Go.Proofs
set_option maxRecDepth 4000
set_option maxHeartbeats 4000000
theorem fI_isA {f : Nat} {a b : Int} {K : Int → Prop} (h : a = b) (k : K b) : fI f a K := (fI_eq f a K).mpr (h ▸ k)
theorem fO_isA {f : Nat} {a b : Bool} {K : Bool → Prop} (h : a = b) (k : K b) : fO f a K := (fO_eq f a K).mpr (h ▸ k)
theorem appD {tm : List SV} {L : List LB} {H : List B} {e g : Bool} {ty : TypeId} {bytes : Nat} {zs : List V} {x y : Opd} {K : KV} {w : V} {b m c d : Nat} {cs ds : List V} (hd : ds.length = d)
    (hx : x.val tm = some (.sl (some (b, 0)) m c)) (hy : y.val tm = some w) (hb : H[b]? = some (.rw ty cs)) (hc : cs.length = c) (hm : m ≤ c) (hall : (cs.take m).all V.one = true) (hd1 : ds.all V.one = true) (hz1 : zs.all V.one = true) (hn : news H 1 w = some (d, ds)) (hlt : V.ltL 0 ds = true)
    (hsz : (m + d) * bytes ≤ 140737488355328) (hsz2 : m + d ≤ 9223372036854775807) (hz : zs.length = 1)
    (hK : ∀ (b' c' : Nat) (cs' : List V) (H' : List B) (g' : Bool), H'[b']? = some (.rw ty cs') → cs'.length = c' → True → m + d ≤ c' → cs'.take (m + d) = cs.take m ++ ds → ((b' = b ∧ c' = c) ∨ (H.length ≤ b' ∧ H'[b]? = H[b]?)) → (∀ i, i < H.length → i ≠ b → H'[i]? = H[i]?) → H.length ≤ H'.length → K (.v (.sl (some (b', 0)) (m + d) c')) L H' e g') :
    AtApp (evApp tm L H e g ty 1 bytes zs x y K) := by
  subst hd
  exact appF hx hy hb hc hm hall hd1 hz1 hn hlt hsz hsz2 hz hK
theorem appDN {tm : List SV} {L : List LB} {H : List B} {e g : Bool} {ty : TypeId} {bytes : Nat} {zs : List V} {x y : Opd} {K : KV} {w : V} {d : Nat} {ds : List V} (hd : ds.length = d)
    (hx : x.val tm = some (.sl none 0 0)) (hy : y.val tm = some w) (hn : news H 1 w = some (d, ds)) (hpos : 0 < d)
    (hsz : d * bytes ≤ 140737488355328) (hsz2 : d ≤ 9223372036854775807) (hz : zs.length = 1) (hd1 : ds.all V.one = true) (hz1 : zs.all V.one = true)
    (hK : ∀ (c' : Nat) (cs' : List V), cs'.length = c' → cs'.all V.one = true → d ≤ c' → cs'.take d = ds → K (.v (.sl (some (H.length, 0)) d c')) L (H ++ [.rw ty cs']) e true) :
    AtApp (evApp tm L H e g ty 1 bytes zs x y K) := by
  subst hd
  exact appN hx hy hn hpos hsz hsz2 hz hd1 hz1 hK
theorem mkslK {tm : List SV} {L : List LB} {H : List B} {e g : Bool} {ty : TypeId} {zs : List V} {by_ : Nat} {l c : Opd} {k k' : IntKind} (n : Nat) (hl : l.val tm = some (.int k (n : Int))) (hc : c.val tm = some (.int k' (n : Int))) (h : n * zs.length ≤ 16777216 ∧ by_ * n ≤ 281474976710656 ∧ n ≤ 9223372036854775807) :
    memOp tm L H e g (.mksl ty zs by_ l c) = some (.v (.sl (some (H.length, 0)) n n), L, H ++ [.rw ty (reps n zs)], e, true) := by
  simp only [memOp, hl, hc]
  rw [if_pos ⟨by omega, Int.le_refl _, by rw [Int.toNat_natCast]; exact h.1, by rw [← Int.natCast_mul]; omega, by omega⟩, Int.toNat_natCast]
theorem wrap_ni {n i m : Nat} (h : n ≤ m) (hi : i < 64) (hm : m ≤ 4096 := by decide) : IntKind.i64.wrap ((n : Int) + (i : Int)) = ((n + i : Nat) : Int) := by rw [wrap_i64_id (by omega) (by omega)]; omega
theorem rd_get {H : List B} {b i : Nat} {ty : TypeId} {cs : List V} {v : V} (hb : H[b]? = some (.rw ty cs)) (hi : cs[i]? = some v) : ∀ p, p = 0 + i * 1 → rd H b p 1 = some [v] := by
  intro p hp
  obtain ⟨hl, h1⟩ := List.getElem?_eq_some_iff.1 hi
  rw [hp, Nat.zero_add, Nat.mul_one, rd_blk hb (by omega), List.drop_eq_getElem_cons hl, h1]; rfl
def InD (T : TypeId) (H3 H : List B) : Prop := (∀ x, x < H3.length → H[x]? = H3[x]?) ∧ H.length = H3.length + 1 ∧ ∃ ds, H[H3.length]? = some (.rw T ds) ∧ ds.length = 64 ∧ ds.all V.one = true ∧ V.ltL 0 ds = true
theorem InD.init {T : TypeId} {H3 : List B} {cs : List V} (h1 : cs.length = 64) (h2 : cs.all V.one = true) (h3 : V.ltL 0 cs = true) : InD T H3 (H3 ++ [.rw T cs]) :=
  ⟨fun x hx => List.getElem?_append_left hx, by rw [List.length_append]; rfl, cs, List.getElem?_concat_length, h1, h2, h3⟩
theorem InD.step {T : TypeId} {H3 H : List B} {i : Nat} {v : V} (h : InD T H3 H) (hi : i < 64) (hv : V.ltL 0 [v] = true) (ho : [v].all V.one = true) : ∃ H', wr H H3.length (0 + ((i : Nat) : Int).toNat * 1) [v] = some H' ∧ InD T H3 H' := by
  obtain ⟨h1, h2, ds, h3, h4, h5, h6⟩ := h
  have hl : 0 + ((i : Nat) : Int).toNat * 1 + [v].length ≤ ds.length := by show 0 + ((i : Nat) : Int).toNat * 1 + 1 ≤ _; omega
  refine ⟨_, wr_blk h3 hl, fun x hx => ?_, by rw [List.length_set]; exact h2, _, by rw [List.getElem?_set, if_pos rfl, if_pos (by omega)], by rw [splice_lenA hl]; exact h4, one_splice h5 ho, ltL_splice h6 hv⟩
  rw [List.getElem?_set, if_neg (by omega)]
  exact h1 x hx
def svA : List SV → Nat → SV
  | [], _ => undefV
  | x :: _, 0 => x
  | _ :: l, n + 1 => svA l n
end Go.Ev
