/- Ev: rows of whole numbers of one's own, with what lies behind them: 'append' in the kit's own walk. -/
import Derived.Test.YtmdkhaoppklokaaDoorEvBelow2
import Derived.OwnWalkIn
set_option linter.all false
namespace Go.Ev
open Go Go.Proofs Go.RowKit Go.Shelf
def intV (x : Int) : Value := .int .i64 x
/-- all cells of the block that a slice owns are whole numbers -/
def AllI (e : TypeId) (w : World) (v : Value) : Prop := ∀ g cur, v.ownBlock = some g → w.heap[g]? = some (.cells cur e (0, 0)) → ∃ zs : List Int, cur.toList = zs.map intV
theorem AllI.nil (e : TypeId) (w : World) : AllI e w (.slice none 0 0) := fun g cur h _ => by cases h
theorem AllI.kept {e : TypeId} {w w' : World} {row : Option Nat} {base size n : Nat} {v : Value} {xs : List Value} (h : AllI e w v) (hown : w.ownsRow base e size v n xs) (hg : w.grownBy w' row) (hne : v.ownBlock = none ∨ v.ownBlock ≠ row) : AllI e w' v := fun g cur hv hc => by
  have hlt := (hown.lt g hv).2
  refine h g cur hv ?_
  rw [← hg.block g hlt (fun he => ?_)]; exact hc
  rcases hne with hne | hne
  · rw [hv] at hne; cases hne
  · exact hne (hv.trans he)
theorem map_of {l : List Value} (h : ∀ u, u ∈ l → ∃ x : Int, u = intV x) : ∃ zs : List Int, l = zs.map intV := by
  induction l with
  | nil => exact ⟨[], rfl⟩
  | cons a l ih =>
    obtain ⟨zs, hzs⟩ := ih (fun u hu => h u (List.mem_cons_of_mem _ hu))
    obtain ⟨x, hx⟩ := h a List.mem_cons_self
    exact ⟨x :: zs, by rw [List.map_cons, ← hzs, ← hx]⟩
theorem of_map {l : List Value} {zs : List Int} (h : l = zs.map intV) : ∀ u, u ∈ l → ∃ x : Int, u = intV x := fun u hu => by
  rw [h] at hu
  obtain ⟨x, _, hx⟩ := List.mem_map.1 hu
  exact ⟨x, hx.symm⟩
theorem zero_mem {z : Value} {n : Nat} {u : Value} (hz : z.cells = #[z]) (h : u ∈ (Builtin.zeroCells z.cells n).toList) : u = z := by
  rw [hz] at h
  simp only [Builtin.zeroCells, Array.toList_map, List.mem_map] at h
  obtain ⟨i, _, hi⟩ := h
  simp at hi
  have e : i % 1 = 0 := Nat.mod_one i
  rw [e] at hi
  simpa using hi.symm
/-- 'append' of whole numbers to whole numbers of one's own: all that lies there then is whole numbers -/
theorem run_append_allI {P : Program} (w : World) (base : Nat) (t ty e : TypeId) (i : TypeInfo) (ht : P.underlying t = some (.slice e)) (hi : P.info? e = some i) (hz : i.zero = some (intV 0)) (hsize : i.size = 1) (hby : i.bytes = 8)
    (v : Value) (n : Nat) (xs : List Value) (hown : w.ownsRow base e 1 v n xs) (a : Addr) (m c : Nat) (news : List Value) (hl : news.length = m * 1) (hnews : ∀ j u, news[j]? = some u → w.cell? (a.add j) = some u) (hone : ∀ u ∈ news, u.oneCell' = true)
    (h63 : n + m ≤ maxLen) (hbytes : (n + m) * 8 ≤ 140737488355328) (hni : ∀ u, u ∈ news → ∃ x : Int, u = intV x) (hxi : ∀ u, u ∈ xs → ∃ x : Int, u = intV x) (hall : AllI e w v)
    {v' : Value} {w' : World} (hrun : (Builtin.append_ #[t, t] ty #[v, .slice (some a) m c]).run P w = .ok v' w') : AllI e w' v' := by
  have hzc : (intV 0).cells = #[intV 0] := rfl
  have hm63 : n + m ≤ 9223372036854775807 := by simp only [maxLen] at h63; omega
  rw [← hsize] at hl
  rcases hown.2 with ⟨rfl, rfl⟩ | ⟨g, cap, cur, rfl, hbg, hg, hnc, hcm, hcs, htake⟩
  · by_cases hm : m = 0
    · subst hm
      have hn : news = [] := List.eq_nil_of_length_eq_zero (by simpa using hl)
      subst hn
      have h1 : (Builtin.append_ #[t, t] ty #[.slice none 0 0, .slice (some a) 0 c]).run P w = .ok (.slice none 0 0) w := by
        simp [Builtin.append_, run_underlying ht, sizeOf, typeInfo, hi, Builtin.lenOf, Builtin.firstCells, loadCells, loadCellsFrom]
      rw [h1] at hrun
      injection hrun with e1 e2
      subst e1
      exact AllI.nil _ _
    · have h1 := run_append_nil (P := P) w t ty e i (intV 0) ht hi hz a m c news hl hnews (by omega) (by omega) (by rw [hby]; omega)
      rw [h1] at hrun
      injection hrun with e1 e2
      subst e1; subst e2
      intro g cur hb hc
      have hb' : w.heap.size = g := by simpa [Value.ownBlock] using hb
      subst hb'
      have hc2 := heap_alloc_new w.drew (.cells (news.toArray ++ Builtin.zeroCells (intV 0).cells (grownCap w m 0 e - m)) e)
      have hc3 := hc2.symm.trans hc
      injection hc3 with hc3
      injection hc3 with hc3
      subst hc3
      refine map_of fun u hu => ?_
      rw [Array.toList_append, List.mem_append] at hu
      rcases hu with hu | hu
      · exact hni u hu
      · exact ⟨0, zero_mem hzc hu⟩
  · have hcur : ∀ u, u ∈ cur.toList → ∃ x : Int, u = intV x := by
      obtain ⟨zs, hzs⟩ := hall g cur rfl hg
      exact of_map hzs
    by_cases hroom : n + m ≤ cap
    · have hfit : n * i.size + news.length ≤ cur.size := by rw [hl, hcs, hsize]; omega
      have h1 := run_append_room (P := P) w t ty e i ht hi g n cap cur hg a m c news hl hnews hone hroom hfit
      rw [h1] at hrun
      injection hrun with e1 e2
      subst e1; subst e2
      intro g' cur' hb hc
      have hb' : g = g' := by simpa [Value.ownBlock] using hb
      subst hb'
      rw [setRow_heap w g cur _ e _ hg] at hc
      injection hc with hc
      injection hc with hc
      subst hc
      refine map_of fun u hu => ?_
      simp only [List.mem_append] at hu
      rcases hu with (hu | hu) | hu
      · exact hcur u (List.mem_of_mem_take hu)
      · exact hni u hu
      · exact hcur u (List.mem_of_mem_drop hu)
    · have holds : ∀ j u, xs[j]? = some u → w.cell? ((⟨g, 0, none⟩ : Addr).add j) = some u := hown.cells (g := g) rfl
      have h1 := run_append_grow (P := P) w t ty e i (intV 0) ht hi hz ⟨g, 0, none⟩ n cap xs (by rw [hsize]; exact hown.1) holds a m c news hl hnews (by omega) (by omega) (by rw [hby]; exact growslice_fits (by omega) hbytes)
      rw [h1] at hrun
      injection hrun with e1 e2
      subst e1; subst e2
      intro g' cur' hb hc
      have hb' : w.heap.size = g' := by simpa [Value.ownBlock] using hb
      subst hb'
      have hc2 := heap_alloc_new w.drew (.cells (xs.toArray ++ news.toArray ++ Builtin.zeroCells (intV 0).cells (grownCap w (n + m) cap e - (n + m))) e)
      have hc3 := hc2.symm.trans hc
      injection hc3 with hc3
      injection hc3 with hc3
      subst hc3
      refine map_of fun u hu => ?_
      simp only [Array.toList_append, List.mem_append] at hu
      rcases hu with (hu | hu) | hu
      · exact hxi u hu
      · exact hni u hu
      · exact ⟨0, zero_mem hzc hu⟩
theorem wpListIn_append_ownI {F : Fence} {n : Nat} {P : Program} (w : World) {ops : Array Oper} {rest : List Oper} {o : Oper} {a : Act} {Q : Exit → Act → World → Prop}
    (hg : o.guard = none) (s x : Operand) (t : TypeId) (hop : o.op = Op.call { callee := Callee.builtin Builtin.append, args := #[s, x], argTypes := #[t, t] })
    (base : Nat) (e : TypeId) (i : TypeInfo) (h1 : P.underlying t = some (.slice e)) (h2 : P.info? e = some i) (h3 : i.zero = some (intV 0)) (h4 : i.size = 1) (h5 : i.bytes = 8)
    (v : Value) (k : Nat) (xs : List Value) (hs : a.eval s = v) (hown : w.ownsRow base e 1 v k xs) (ad : Addr) (m c : Nat) (news : List Value) (hx : a.eval x = .slice (some ad) m c) (hn : news.length = m * 1)
    (hc : ∀ j u, news[j]? = some u → w.cell? (ad.add j) = some u) (h1c : ∀ u ∈ news, u.oneCell' = true) (b1 : k + m ≤ maxLen) (b2 : (k + m) * 8 ≤ 140737488355328) (b3 : base ≤ w.heap.size)
    (hni : ∀ u, u ∈ news → ∃ x : Int, u = intV x) (hxi : ∀ u, u ∈ xs → ∃ x : Int, u = intV x) (hall : AllI e w v)
    (hK : ∀ v' w', w'.ownsRow base e 1 v' (k + m) (xs ++ news) → w.grownBy w' v.ownBlock → (v' = .slice none 0 0 ↔ v = .slice none 0 0 ∧ m = 0) → AllI e w' v' → wpListIn F n P ops Q rest (a.put o.dst v') w') :
    wpListIn F n P ops Q (o :: rest) a w := by
  refine wpListIn_plain hg fun K hK' => ?_
  obtain ⟨v', w', hrun, r1, r2, r3⟩ := run_append_own (P := P) w base t o.type e i (intV 0) 1 8 h1 h2 h3 h4 h5 rfl (by decide) v k xs hown ad m c news hn hc h1c b1 b2 b3
  have r4 := run_append_allI w base t o.type e i h1 h2 h3 h4 h5 v k xs hown ad m c news hn hc h1c b1 b2 hni hxi hall hrun
  unfold Oper.wpIn
  refine ⟨?_, ?_⟩
  · simp [Oper.about, hop, resolve, Target.leads, Sem.run_pure]
  · rw [Oper.semAt_plain F _ _ (by rw [hop]; intro c hc'; cases hc')]
    simp [execOp, hop, resolve, invoke, builtin, hs, hx, hrun, Result.andThen]
    exact hK' _ _ (hK v' w' r1 r2 r3 r4)
/-- a call that leaves all as it lay, and tells a new block that may be written -/
theorem Inv.below_rw {G : Nat} {j : J} {w w' : World} {tm : List SV} {H : List B} (h : Inv G ⟨w, H, j⟩ j [] tm [] H false false w) (hb : Below w.heap.size w w') {g n cap : Nat} (hg : w.heap.size ≤ g) (hg' : g < w'.heap.size) {ty : TypeId} {cs : List V} (hcs : V.ltL 0 cs = true)
    (hc : w'.heap[g]? = some (.cells (concL j cs).toArray ty (0, 0))) : Inv G ⟨w, H, j⟩ (j.plus H.length g) [] [.v (.sl (some (H.length, 0)) n cap)] [] (H ++ [.rw ty cs]) false true w' := by
  have e := J.plus_eq j H.length g
  have hnew : (j.plus H.length g).b H.length = g := if_pos rfl
  have hlen : (H ++ [B.rw ty cs]).length = H.length + 1 := by simp
  have hcs' : ∀ m, (B.rw ty cs).lt m = true := fun m => V.ltL_le (Nat.zero_le m) cs hcs
  have old : ∀ {i : Nat} {b : B}, i < H.length → (H ++ [B.rw ty cs])[i]? = some b → H[i]? = some b := fun hi hb => by rwa [List.getElem?_append_left hi] at hb
  constructor
  case os => exact hb.os
  case tape => exact hb.tape
  case output => exact hb.output
  case size => exact hb.size
  case lts =>
    intro i hi
    by_cases hi' : i < H.length
    · rw [e.b i hi']; exact Nat.lt_of_lt_of_le (h.lts i hi') hb.size
    · obtain rfl : i = H.length := by omega
      rw [hnew]; exact hg'
  case br =>
    intro i b hi
    have hi2 := (List.getElem?_eq_some_iff.1 hi).1
    by_cases hi' : i < H.length
    · have ho := old hi' hi
      exact (h.br i b ho).same e hi' (h.Hl b (List.mem_of_getElem? ho)) (hb.block _ (h.lts i hi'))
    · obtain rfl : i = H.length := by omega
      obtain rfl : B.rw ty cs = b := by simpa using hi
      refine ⟨if_pos rfl, ?_⟩
      have e0 : J.Eq 0 j (j.plus H.length g) := ⟨fun i h => absurd h (Nat.not_lt_zero _), fun i h => absurd h (Nat.not_lt_zero _)⟩
      rw [hnew, concL_eq e0 cs hcs]; exact hc
  case sep =>
    intro i b hi ho i' hi2 hne
    by_cases hi' : i < H.length
    · rw [e.b i hi']
      by_cases hi4 : i' < H.length
      · rw [e.b i' hi4]; exact h.sep i b (old hi' hi) ho i' hi4 hne
      · obtain rfl : i' = H.length := by omega
        rw [hnew]
        have := h.lts i hi'
        omega
    · have hi3 := (List.getElem?_eq_some_iff.1 hi).1
      obtain rfl : i = H.length := by omega
      have hi4 : i' < H.length := by omega
      rw [hnew, e.b i' hi4]
      have := h.lts i' hi4
      omega
  case ll => rfl
  case lbr => intro i b hi; simp at hi
  case lnew => intro k hk; simp at hk
  case lnd => intro k k' hk; simp at hk
  case lsep => intro k hk; simp at hk
  case tml =>
    intro x hx
    obtain rfl := List.mem_singleton.1 hx
    rw [hlen]
    simp [SV.ok, V.lt]
  case Ll => intro b hb; simp at hb
  case Hl =>
    intro b hb'
    rcases List.mem_append.1 hb' with h1 | h1
    · rw [hlen]; exact B.lt_le (Nat.le_succ _) (h.Hl b h1)
    · obtain rfl := List.mem_singleton.1 h1
      exact hcs' _
  case n0 => rw [hlen]; exact Nat.le_succ _
  case jold => exact e
  case jnew =>
    intro i h1 h2
    have h1' : H.length ≤ i := h1
    obtain rfl : i = H.length := by omega
    rw [hnew]; exact hg
  case frame => exact fun b hb' _ => hb.block b hb'
  case kd =>
    intro i b hi
    obtain ⟨b', h1, h2⟩ := h.kd i b hi
    exact ⟨b', by rw [List.getElem?_append_left (List.getElem?_eq_some_iff.1 h1).1]; exact h1, h2⟩
  case esc =>
    intro h0 i b b' m hi hi' hl
    exact h.esc h0 i b b' m hi (old (List.getElem?_eq_some_iff.1 hi).1 hi') hl
  case grow => intro h0; cases h0
  case glob =>
    intro i hi
    have hi' : i < H.length := Nat.lt_of_lt_of_le hi h.gl
    rw [e.b i hi', e.o i hi']; exact h.glob i hi
  case gl => rw [hlen]; exact Nat.le_succ_of_le h.gl
/-- a row of whole numbers of one's own is told -/
def RowsI (ty : TypeId) (H : List B) (l : List Int) (Q : Post) : Prop := (l = [] → Q (.sl none 0 0) H false false) ∧ (l ≠ [] → ∀ cap ys, l.length ≤ cap → ys.length = cap - l.length → Q (.sl (some (H.length, 0)) l.length cap) (H ++ [.rw ty ((l ++ ys).map (V.int .i64))]) false true)
theorem RowsI.mono {ty : TypeId} {H : List B} {l : List Int} {Q Q' : Post} (h : RowsI ty H l Q) (hQ : ∀ v H e g, Q v H e g → Q' v H e g) : RowsI ty H l Q' := ⟨fun hn => hQ _ _ _ _ (h.1 hn), fun hn cap ys h1 h2 => hQ _ _ _ _ (h.2 hn cap ys h1 h2)⟩
theorem ltL_intV : ∀ (l : List Int) (m : Nat), V.ltL m (l.map (V.int .i64)) = true
  | [], _ => rfl
  | a :: l, m => by
    have := ltL_intV l m
    simp only [List.map_cons, V.ltL, this, Bool.and_true]
    rfl
theorem concL_intV (j : J) : ∀ l : List Int, concL j (l.map (V.int .i64)) = l.map intV
  | [] => rfl
  | a :: l => by rw [List.map_cons, List.map_cons, ← concL_intV j l]; rfl
theorem rowsI_fin {G : Nat} {j : J} {w w' : World} {tm : List SV} {H : List B} {Q : Post} {ty : TypeId} {l : List Int} {v' : Value} (hi : Inv G ⟨w, H, j⟩ j [] tm [] H false false w) (hrow : w'.ownsRow w.heap.size ty 1 v' l.length (l.map intV)) (hnil : v' = .slice none 0 0 ↔ l = []) (hal : AllI ty w' v') (hb : Below w.heap.size w w') (h : RowsI ty H l Q) :
    ∃ v H' e g j', Q v H' e g ∧ Ending.returned v' = .returned (conc j' v) ∧ Inv G ⟨w, H, j⟩ j' [] [.v v] [] H' e g w' := by
  by_cases hn : l = []
  · obtain rfl := hnil.2 hn
    exact ⟨.sl none 0 0, H, false, false, j, h.1 hn, rfl, hi.below hb rfl⟩
  · rcases hrow.2 with ⟨e1, _⟩ | ⟨g, cap, cur, rfl, hg, hgb, h1, h2, h3, h4⟩
    · exact absurd (hnil.1 e1) hn
    · obtain ⟨zs, hzs⟩ := hal g cur rfl hgb
      have hzl : zs.length = cap := by have := congrArg List.length hzs; rw [List.length_map, Array.length_toList, h3, Nat.mul_one] at this; exact this.symm
      have htk : zs.take l.length = l := by
        have e2 : (cur.toList.take (l.length * 1)) = l.map intV := h4
        rw [hzs, Nat.mul_one, ← List.map_take] at e2
        have inj : ∀ (a b : List Int), a.map intV = b.map intV → a = b := fun a b hab => by
          have := congrArg (List.map (fun v : Value => match v with | .int _ n => n | _ => 0)) hab
          rw [List.map_map, List.map_map] at this
          have e5 : (fun v : Value => match v with | .int _ n => n | _ => 0) ∘ intV = id := by funext x; rfl
          rwa [e5, List.map_id, List.map_id] at this
        exact inj _ _ e2
      have hsplit : l ++ zs.drop l.length = zs := by
        have := List.take_append_drop l.length zs
        rwa [htk] at this
      refine ⟨.sl (some (H.length, 0)) l.length cap, _, false, true, j.plus H.length g, h.2 hn cap (zs.drop l.length) h1 (by rw [List.length_drop, hzl]), by simp [conc, J.at, J.plus], hi.below_rw hb hg (Array.getElem?_eq_some_iff.1 hgb).1 (ltL_intV _ _) ?_⟩
      rw [hsplit, concL_intV, ← hzs]
      exact hgb
end Go.Ev
