/-
  More forms of the laws, as the printed walks use them: append of integers, of cells.
-/
import Derived.Test.YtilegaokfamfnaaFg
namespace Go.Fw

theorem vbool {p q : Prop} [Decidable p] [Decidable q] (h : p ↔ q) : Value.bool (decide p) = Value.bool (decide q) := by
  by_cases hq : q <;> simp [h, hq]
theorem vboolt {p : Prop} [Decidable p] (h : p) : Value.bool true = Value.bool (decide p) := by simp [h]
theorem vboolf {p : Prop} [Decidable p] (h : ¬ p) : Value.bool false = Value.bool (decide p) := by simp [h]
theorem byt_nil : Byt [] := fun x hx => by simp at hx
theorem Sl.cuth {w : World} {R : Nat → Prop} {m c : Nat} {a : Option Addr} {K : IntKind} {li : List Int} (h : Sl w R 1 (.slice a m c) m (ints K li)) {n : Nat} (h2 : n ≤ m) : Sl w R 1 (.slice a n c) n (ints K (li.take n)) := by
  obtain ⟨e1, a', cap, e2, e3, e4, e5⟩ := h
  simp only [Value.slice.injEq] at e2
  obtain ⟨rfl, _, rfl⟩ := e2
  simp only [ints, List.length_map, Nat.mul_one] at e1
  refine ⟨by simp [ints]; omega, _, _, rfl, by omega, e4, ?_⟩
  rcases e5 with e5 | ⟨b, off, cc, t, f, rfl, hR, hb, hc⟩
  · exact .inl (by omega)
  · refine .inr ⟨b, off, cc, t, f, rfl, hR, hb, fun i hi => ?_⟩
    rw [hc i (by omega), ints, ints, List.map_take, List.getElem?_take, if_pos (by omega)]
theorem Sl.cutl {w : World} {R : Nat → Prop} {m c : Nat} {a : Option Addr} {K : IntKind} {li : List Int} (h : Sl w R 1 (.slice a m c) m (ints K li)) {l n : Nat} (h2 : l ≤ m) (hn : m - l = n) :
    Sl w R 1 (.slice (if c = l then a else a.map (·.add (l * 1))) n (c - l)) n (ints K (li.drop l)) := by
  have := h.cutn (l := l) (n := n) (by omega)
  have e1 := h.len
  simp only [ints, List.length_map, Nat.mul_one] at e1
  rwa [List.take_of_length_le (by simp; omega)] at this
section
variable {P : Program} {ro : Option Nat} {n : Nat} {Q : Post} {ρ : Env} {ds : List Deferred} {w : World} {ops : Array Oper} {rest : List Oper} {d : Nat} {t : TypeId} {p : String} {e : Array Edge}
/-- append to a slice of the call's own -/
theorem Wl_appendc {st et : TypeId} {ti : TypeInfo} {z : Value} {sz by' tot : Nat} {cs cs2 cs3 : List Value} (hcs : cs ++ cs2 = cs3) (hu : P.underlying st = some (.slice et)) (hi : P.info? et = some ti) (hz : ti.zero = some z) (hsz : ti.size = sz) (hby : ti.bytes = by') (hzc : z.cells.size = sz) (hpos : 0 < sz)
    {x y : Operand} {R R2 : Nat → Prop} {v v2 : Value} {m k : Nat} (hx : ev n ρ x = v) (ho : Own w R et sz v m cs) (hy : ev n ρ y = v2) (hs : Sl w R2 sz v2 k cs2) (one : ∀ u ∈ cs2, u.oneCell' = true) (htot : m + k = tot)
    (h63 : m + k ≤ maxLen) (hb : (m + k) * by' ≤ 140737488355328)
    (h : ∀ a c w', Upd R w w' → w'.heap.size ≤ w.heap.size + 1 → Own w' (fun g => R g ∨ g = w.heap.size) et sz (.slice a tot c) tot cs3 → Wl P ro n ops Q rest (upd ρ d (.slice a tot c)) ds w') :
    Wl P ro n ops Q (⟨some d, .call { callee := .builtin .append, args := #[x, y], argTypes := #[st, st] }, t, p, e, none⟩ :: rest) ρ ds w := by
  subst htot hcs
  exact Wl_append hu hi hz hsz hby hzc hpos hx ho hy hs one h63 hb h
theorem Wl_appendi {st et : TypeId} {ti : TypeInfo} {z : Value} {sz by' tot : Nat} {k' : IntKind} {xs ys zs : List Int} (hcs : xs ++ ys = zs) (hu : P.underlying st = some (.slice et)) (hi : P.info? et = some ti) (hz : ti.zero = some z) (hsz : ti.size = sz) (hby : ti.bytes = by') (hzc : z.cells.size = sz) (hpos : 0 < sz)
    {x y : Operand} {R R2 : Nat → Prop} {v v2 : Value} {m k : Nat} (hx : ev n ρ x = v) (ho : Own w R et sz v m (ints k' xs)) (hy : ev n ρ y = v2) (hs : Sl w R2 sz v2 k (ints k' ys)) (htot : m + k = tot)
    (h63 : m + k ≤ maxLen) (hb : (m + k) * by' ≤ 140737488355328)
    (h : ∀ a c w', Upd R w w' → w'.heap.size ≤ w.heap.size + 1 → Own w' (fun g => R g ∨ g = w.heap.size) et sz (.slice a tot c) tot (ints k' zs) → Wl P ro n ops Q rest (upd ρ d (.slice a tot c)) ds w') :
    Wl P ro n ops Q (⟨some d, .call { callee := .builtin .append, args := #[x, y], argTypes := #[st, st] }, t, p, e, none⟩ :: rest) ρ ds w := by
  subst htot hcs
  refine Wl_append hu hi hz hsz hby hzc hpos hx ho hy hs one_ints h63 hb fun a c w' h1 h2 h3 => h a c w' h1 h2 ?_
  rw [ints, List.map_append]
  exact h3
end
theorem res4 {fn : Func} {w : World} {P : Program} {n : Nat} {ρ : Env} {a b c d : Tmp} {v1 v2 v3 v4 : Value} (h : fn.results = #[.tmp a, .tmp b, .tmp c, .tmp d]) (h1 : ev n ρ (.tmp a) = v1) (h2 : ev n ρ (.tmp b) = v2) (h3 : ev n ρ (.tmp c) = v3) (h4 : ev n ρ (.tmp d) = v4) :
    (results fn (tab n ρ)).run P w = .ok (.tuple #[v1, v2, v3, v4]) w := by
  have e1 := (Array.getD_eq_getD_getElem? (xs := tab n ρ) (i := a) (d := undef)).symm.trans (tab_getD n ρ a)
  rw [h1] at e1
  have e2 := (Array.getD_eq_getD_getElem? (xs := tab n ρ) (i := b) (d := undef)).symm.trans (tab_getD n ρ b)
  rw [h2] at e2
  have e3 := (Array.getD_eq_getD_getElem? (xs := tab n ρ) (i := c) (d := undef)).symm.trans (tab_getD n ρ c)
  rw [h3] at e3
  have e4 := (Array.getD_eq_getD_getElem? (xs := tab n ρ) (i := d) (d := undef)).symm.trans (tab_getD n ρ d)
  rw [h4] at e4
  simp only [results, h]
  simp
  exact ⟨e1, e2, e3, e4⟩
theorem res5 {fn : Func} {w : World} {P : Program} {n : Nat} {ρ : Env} {a b c d e : Tmp} {v1 v2 v3 v4 v5 : Value} (h : fn.results = #[.tmp a, .tmp b, .tmp c, .tmp d, .tmp e]) (h1 : ev n ρ (.tmp a) = v1) (h2 : ev n ρ (.tmp b) = v2) (h3 : ev n ρ (.tmp c) = v3) (h4 : ev n ρ (.tmp d) = v4) (h5 : ev n ρ (.tmp e) = v5) :
    (results fn (tab n ρ)).run P w = .ok (.tuple #[v1, v2, v3, v4, v5]) w := by
  have e1 := (Array.getD_eq_getD_getElem? (xs := tab n ρ) (i := a) (d := undef)).symm.trans (tab_getD n ρ a)
  rw [h1] at e1
  have e2 := (Array.getD_eq_getD_getElem? (xs := tab n ρ) (i := b) (d := undef)).symm.trans (tab_getD n ρ b)
  rw [h2] at e2
  have e3 := (Array.getD_eq_getD_getElem? (xs := tab n ρ) (i := c) (d := undef)).symm.trans (tab_getD n ρ c)
  rw [h3] at e3
  have e4 := (Array.getD_eq_getD_getElem? (xs := tab n ρ) (i := d) (d := undef)).symm.trans (tab_getD n ρ d)
  rw [h4] at e4
  have e5 := (Array.getD_eq_getD_getElem? (xs := tab n ρ) (i := e) (d := undef)).symm.trans (tab_getD n ρ e)
  rw [h5] at e5
  simp only [results, h]
  simp
  exact ⟨e1, e2, e3, e4, e5⟩
theorem vtup4 {a b c d a' b' c' d' : Value} (h1 : a = a') (h2 : b = b') (h3 : c = c') (h4 : d = d') : Value.tuple #[a, b, c, d] = .tuple #[a', b', c', d'] := by rw [h1, h2, h3, h4]
theorem vtup5 {a b c d e a' b' c' d' e' : Value} (h1 : a = a') (h2 : b = b') (h3 : c = c') (h4 : d = d') (h5 : e = e') : Value.tuple #[a, b, c, d, e] = .tuple #[a', b', c', d', e'] := by rw [h1, h2, h3, h4, h5]
end Go.Fw
