/- Ev: a region whose order is drawn: silent operations, a chain of those that make and fill new variables of the call, and what waits for all of them. -/
import Derived.Test.YtmdkhaoppklokaaDoorEvN
import Derived.StillTail
namespace Go.Ev
open Go.RowKit

section
variable {P : Program} {ops : Array Oper} {md : Region.Mode} {T : Type} {S : T → World → Prop} {p n : Nat}

/-- Silent in whatever world, the new variables there or not. -/
def SilB (P : Program) (ops : Array Oper) (S : T → World → Prop) (o : Oper) (v : Value) (a : Act) : Prop := ∀ s, Sil P ops (S s) o v a

theorem SilB.of_same {o : Oper} {v : Value} {a a' : Act} (h : SilB P ops S o v a) (he : execOp a'.eval o = execOp a.eval o)
    (hw : Region.wanted o (yielded ops a'.tmps) = Region.wanted o (yielded ops a.tmps)) : SilB P ops S o v a' := fun s => (h s).of_same he hw

/-- What is listed, all that it waits for is listed as well. -/
def Closed (md : Region.Mode) (ops : Array Oper) (listed : Array Bool) : Prop :=
  ∀ k ok, ops[k]? = some ok → listed.getD k false = true → ∀ e ∈ ok.after, Region.binds md e = true → listed.getD e.on false = true

theorem Closed.set {listed : Array Bool} {j : Nat} (h : Closed md ops listed) (hj : j ∈ Region.ready md ops listed) : Closed md ops (listed.setIfInBounds j true) := by
  intro k ok hk hl e he hb
  apply getD_set_true
  by_cases hjk : j = k
  · subst hjk
    obtain ⟨_, oj, hoj, hall⟩ := mem_ready.1 hj
    rw [hk] at hoj; injection hoj with hoj; subst hoj
    exact hall e he hb
  · rw [getD_set_ne false hjk] at hl
    exact h k ok hk hl e he hb

theorem closed_start (n : Nat) : Closed md ops (Array.replicate n false) := by
  intro k ok hk hl
  exfalso
  rcases Nat.lt_or_ge k n with h | h
  · simp [h] at hl
  · simp [h] at hl

theorem waitsT_spec {listed : Array Bool} (hc : Closed md ops listed) : ∀ (f q i : Nat), waitsT md ops f q i = true →
    (∀ oq, ops[q]? = some oq → ∀ e ∈ oq.after, Region.binds md e = true → listed.getD e.on false = true) → listed.getD i false = true
  | 0, _, _, h, _ => by cases h
  | f + 1, q, i, h, hall => by
    simp only [waitsT, Bool.or_eq_true, List.any_eq_true, Bool.and_eq_true] at h
    rcases h with h | ⟨k, _, ⟨_, h1⟩, h2⟩
    · obtain ⟨oq, hoq, e, he, hb, hon⟩ := Region.waitsFor_spec h
      rw [← hon]; exact hall oq hoq e he hb
    · obtain ⟨oq, hoq, e, he, hb, hon⟩ := Region.waitsFor_spec h1
      have hk : listed.getD k false = true := by rw [← hon]; exact hall oq hoq e he hb
      exact waitsT_spec hc f k i h2 (fun ok hok e he hb => hc k ok hok hk e he hb)

theorem tail_waits' (h : tailB md ops n = true) {listed : Array Bool} (hc : Closed md ops listed) {q i : Nat} (hq : q ∈ Region.ready md ops listed) (hpq : n ≤ q) (hi : i < q) : listed.getD i false = true := by
  obtain ⟨_, oq, hoq, hall⟩ := mem_ready.1 hq
  have hlt : q < ops.size := (Array.getElem?_eq_some_iff.1 hoq).1
  have h1 := List.all_eq_true.1 h q (List.mem_range.2 hlt)
  simp only [Bool.or_eq_true, decide_eq_true_eq] at h1
  rcases h1 with h1 | h1
  · omega
  · refine waitsT_spec hc _ q i (List.all_eq_true.1 h1 i (List.mem_range.2 hi)) (fun oq' hoq' e he hb => ?_)
    have : oq' = oq := Option.some.inj (hoq'.symm.trans hoq)
    subst this
    exact hall e he hb

/-- An operation that makes or fills a new variable. -/
def Eff (P : Program) (S : T → World → Prop) (o : Oper) (a : Act) (s : T) (K : Value → T → Prop) : Prop :=
  o.guard = none ∧ ∀ w, S s w → ∃ v w' s', ((execOp a.eval o).run P w = .ok (.value v) w' ∨ ((execOp a.eval o).run P w = .ok .skip w' ∧ v = undef)) ∧ S s' w' ∧ K v s'

def HA (P : Program) (md : Region.Mode) (ops : Array Oper) (S : T → World → Prop) (p n g : Nat) (K : Act → T → Prop) : Nat → Array Bool → Act → T → Prop
  | 0, listed, a, s => Region.seqB md ops g n listed = true ∧ K a s
  | f + 1, listed, a, s => Region.ready md ops listed ≠ [] ∧ ∀ i ∈ Region.ready md ops listed,
    (i < p ∧ ∃ o v, ops[i]? = some o ∧ Sil P ops (S s) o v a ∧ HA P md ops S p n g K f (listed.setIfInBounds i true) (a.put o.dst v) s) ∨
    (∃ o, ops[i]? = some o ∧ Eff P S o a s fun v s' => HA P md ops S p n g K f (listed.setIfInBounds i true) (a.put o.dst v) s')

theorem HA_first {g : Nat} {K : Act → T → Prop} {i : Nat} {oi : Oper} {v : Value} (hi : ops[i]? = some oi) (hip : i < p) (hpn : p ≤ n) (ht : tailB md ops n = true)
    (hsel : ∀ (j : Nat) (o : Oper) cs b, ops[j]? = some o → o.op ≠ .select cs b) :
    ∀ (f : Nat) (listed : Array Bool) (a : Act) (s : T), Closed md ops listed →
      (∀ j oj, ops[j]? = some oj → j ≠ i → listed.getD j true = false → (∀ e ∈ oj.after, Region.binds md e = true → e.on ≠ i) → oi.apart ops oj = true) →
      i ∈ Region.ready md ops listed → SilB P ops S oi v a →
      HA P md ops S p n g K f (listed.setIfInBounds i true) (a.put oi.dst v) s → HA P md ops S p n g K (f + 1) listed a s := by
  intro f
  induction f with
  | zero =>
    intro listed a s hc _ hr hy H
    refine ⟨fun h => (by rw [h] at hr; cases hr), fun j hj => ?_⟩
    by_cases hji : j = i
    · subst hji; exact .inl ⟨hip, oi, v, hi, hy s, H⟩
    · have h1 := seqB_ready H.1 j (ready_mono hj hji)
      have h2 := tail_waits' ht hc hj h1 (show i < j by omega)
      have h3 := (mem_ready.1 hr).1
      rw [getD_both h3] at h2; cases h2
  | succ f ih =>
    intro listed a s hc hfree hr hy H
    refine ⟨fun h => (by rw [h] at hr; cases hr), fun j hj => ?_⟩
    by_cases hji : j = i
    · subst hji; exact .inl ⟨hip, oi, v, hi, hy s, H⟩
    · obtain ⟨hjun, oj, hoj, hall⟩ := mem_ready.1 hj
      have hnot : ∀ e ∈ oj.after, Region.binds md e = true → e.on ≠ i := fun e he hb heq => by
        have h1 := hall e he hb
        rw [heq, getD_both (mem_ready.1 hr).1] at h1
        cases h1
      have hap := hfree j oj hoj hji hjun hnot
      obtain ⟨a1, a2, a3⟩ := Oper.apart_spec hap
      have hfree' : ∀ k ok, ops[k]? = some ok → k ≠ i → (listed.setIfInBounds j true).getD k true = false →
          (∀ e ∈ ok.after, Region.binds md e = true → e.on ≠ i) → oi.apart ops ok = true := fun k ok hk hki hun hno => by
        refine hfree k ok hk hki ?_ hno
        by_cases hjk : j = k
        · subst hjk; exact hjun
        · rw [getD_set_ne true hjk] at hun; exact hun
      have keep : ∀ u, SilB P ops S oi v (a.put oj.dst u) := fun u => hy.of_same (execOp_put oi (fun cs b => hsel i oi cs b hi) a oj.dst u a3) (wanted_put oi a oj.dst u a3)
      have he : execOp (a.put oi.dst v).eval oj = execOp a.eval oj := execOp_put oj (fun cs b => hsel j oj cs b hoj) a oi.dst v a1
      have next : ∀ u s', HA P md ops S p n g K f ((listed.setIfInBounds i true).setIfInBounds j true) ((a.put oi.dst v).put oj.dst u) s' →
          HA P md ops S p n g K (f + 1) (listed.setIfInBounds j true) (a.put oj.dst u) s' := fun u s' hh => by
        refine ih (listed.setIfInBounds j true) _ s' (hc.set hj) hfree' (ready_mono hr (Ne.symm hji)) (keep u) ?_
        rw [Array.setIfInBounds_comm _ _ hji, ← Act.put_comm a v u a2]
        exact hh
      rcases H.2 j (ready_mono hj hji) with ⟨hjp, oj', u, hoj', hs, hrest⟩ | ⟨oj', hoj', hg, hrest⟩
      · rw [hoj] at hoj'; injection hoj' with hoj'; subst hoj'
        exact .inl ⟨hjp, oj, u, hoj, Sil.of_same hs he.symm (wanted_put oj a oi.dst v a1).symm, next u s hrest⟩
      · rw [hoj] at hoj'; injection hoj' with hoj'; subst hoj'
        refine .inr ⟨oj, hoj, hg, fun w hw => ?_⟩
        obtain ⟨u, w', s', h1, h2, h3⟩ := hrest w hw
        rw [he] at h1
        exact ⟨u, w', s', h1, h2, next u s' h3⟩

def silListB (P : Program) (ops : Array Oper) (S : T → World → Prop) (K : Act → Prop) : List Oper → Act → Prop
  | [], a => K a
  | o :: r, a => ∃ v, SilB P ops S o v a ∧ silListB P ops S K r (a.put o.dst v)

def effList (P : Program) (S : T → World → Prop) (K : Act → T → Prop) : List Oper → Act → T → Prop
  | [], a, s => K a s
  | o :: r, a, s => Eff P S o a s fun v s' => effList P S K r (a.put o.dst v) s'

theorem HA_eff {g : Nat} {K : Act → T → Prop} : ∀ (l : List Oper) (k : Nat) (listed : Array Bool) (a : Act) (s : T), (∀ j, j < l.length → l[j]? = ops[k + j]?) → lexE md ops g n l.length k listed = true →
    effList P S K l a s → HA P md ops S p n g K l.length listed a s
  | [], k, listed, a, s, _, hB, h => by
    simp only [List.length_nil, lexE, Bool.and_eq_true, beq_iff_eq] at hB
    exact ⟨hB.2, h⟩
  | o :: l, k, listed, a, s, hl, hB, h => by
    have h0 : ops[k]? = some o := by simpa using (hl 0 (by simp)).symm
    simp only [List.length_cons, lexE, Bool.and_eq_true, decide_eq_true_eq] at hB
    obtain ⟨hr, hB'⟩ := hB
    refine ⟨by rw [hr]; simp, fun i hi => ?_⟩
    rw [hr] at hi
    have hik : i = k := by simpa using hi
    subst hik
    refine .inr ⟨o, h0, h.1, fun w hw => ?_⟩
    obtain ⟨v, w', s', h1, h2, h3⟩ := h.2 w hw
    exact ⟨v, w', s', h1, h2, HA_eff l (i + 1) _ _ _ (fun j hj => by have := hl (j + 1) (by simp; omega); simpa [Nat.add_assoc, Nat.add_comm 1 j] using this) hB' h3⟩

theorem HA_lex {g : Nat} {K : Act → T → Prop} {s : T} {er : List Oper} (hpn : p ≤ n) (ht : tailB md ops n = true) (hs : Region.noSelect ops = true) (her : er.length = n - p) (hel : ∀ j, j < er.length → er[j]? = ops[p + j]?) :
    ∀ (l : List Oper) (k : Nat) (listed : Array Bool) (a : Act), Closed md ops listed → (∀ j, j < l.length → l[j]? = ops[k + j]?) → lexP md ops g p n l.length k listed = true →
    silListB P ops S (fun a => effList P S K er a s) l a → HA P md ops S p n g K (l.length + er.length) listed a s
  | [], k, listed, a, _, _, hB, h => by
    simp only [List.length_nil, lexP, Bool.and_eq_true, beq_iff_eq] at hB
    rw [List.length_nil, Nat.zero_add]
    exact HA_eff er p listed a s hel (by rw [her]; exact hB.2) h
  | o :: l, k, listed, a, hc, hl, hB, h => by
    have h0 : ops[k]? = some o := by simpa using (hl 0 (by simp)).symm
    simp only [List.length_cons, lexP, Bool.and_eq_true, decide_eq_true_eq] at hB
    obtain ⟨⟨⟨hkp, hr⟩, hf⟩, hB'⟩ := hB
    obtain ⟨v, hy, hK⟩ := h
    rw [List.length_cons, show l.length + 1 + er.length = (l.length + er.length) + 1 by omega]
    exact HA_first h0 hkp hpn ht (Region.noSelect_spec hs) (l.length + er.length) listed a s hc (Region.free_spec h0 hf) (by simpa using hr) hy
      (HA_lex hpn ht hs her hel l (k + 1) _ _ (hc.set (by simpa using hr)) (fun j hj => by have := hl (j + 1) (by simp; omega); simpa [Nat.add_assoc, Nat.add_comm 1 j] using this) hB' hK)

theorem HA_wp {g : Nat} {K : Act → T → Prop} {Q : Exit → Act → World → Prop} (hlen : (ops.toList.drop n).length = g)
    (hQ : ∀ a s w, K a s → S s w → wpList P ops Q (ops.toList.drop n) a w) :
    ∀ (f : Nat) (listed : Array Bool) (a : Act) (s : T) (w : World), HA P md ops S p n g K f listed a s → S s w → wpAny P md ops Q (f + g) listed a w
  | 0, listed, a, s, w, h, hS => by
    rw [Nat.zero_add, ← hlen]
    exact wpAny_of_seq (ops.toList.drop n) n listed a w (fun j => by simp [List.getElem?_drop]) (by rw [hlen]; exact h.1) (hQ a s w h.2 hS)
  | f + 1, listed, a, s, w, h, hS => by
    rw [show f + 1 + g = (f + g) + 1 by omega]
    refine ⟨fun h0 => absurd h0 h.1, fun i hi => ?_⟩
    rcases h.2 i hi with ⟨_, o, v, ho, hs, hr⟩ | ⟨o, ho, hg, hr⟩
    · exact sil_wp (S := S s) ho hs hS fun w' hS' => HA_wp hlen hQ f _ _ s w' hr hS'
    · unfold wpOp
      simp only [ho]
      rw [if_pos (by unfold Region.wanted; rw [hg])]
      left
      obtain ⟨v, w', s', hrun, hS', hk⟩ := hr w hS
      have := HA_wp hlen hQ f _ _ s' w' hk hS'
      unfold Oper.wp
      rcases hrun with hrun | ⟨hrun, rfl⟩
      · rw [hrun]; exact this
      · rw [hrun]; exact this

theorem tail_region {id : Nat} {K : Act → T → Prop} {s : T} {Q : Exit → Act → World → Prop} {a : Act} {w : World} (hm : P.follows .mixedOrders = true) (hB : tailOk ops p n = true)
    (hQ : ∀ a s w, K a s → S s w → wpList P ops Q (ops.toList.drop n) a w)
    (h : silListB P ops S (fun a => effList P S K ((ops.toList.drop p).take (n - p)) a s) (ops.toList.take p) a) (hS : S s { w with drawn := w.drawn + 1 }) : (Code.region id ops true).wp P Q a w := by
  simp only [tailOk, Bool.and_eq_true, decide_eq_true_eq] at hB
  obtain ⟨⟨⟨⟨h1, h2⟩, h3⟩, hpn⟩, hn⟩ := hB
  have hl : (ops.toList.take p).length = p := by simp; omega
  have her : ((ops.toList.drop p).take (n - p)).length = n - p := by simp; omega
  have hd : (ops.toList.drop n).length = ops.size - n := by simp
  refine wp_region_any hm ?_
  have H := HA_lex (P := P) (S := S) (md := .any) (g := ops.size - n) (K := K) (s := s) (er := (ops.toList.drop p).take (n - p)) hpn h2 h1 her
    (fun j hj => by rw [her] at hj; rw [List.getElem?_take, if_pos hj, List.getElem?_drop]; simp) (ops.toList.take p) 0 (Array.replicate ops.size false) a (closed_start _)
    (fun j hj => by rw [hl] at hj; simp [hj]) (by rw [hl]; exact h3) h
  have := HA_wp (Q := Q) hd hQ _ _ _ _ _ H hS
  rw [hl, her, show p + (n - p) + (ops.size - n) = ops.size by omega] at this
  exact this
end
end Go.Ev
