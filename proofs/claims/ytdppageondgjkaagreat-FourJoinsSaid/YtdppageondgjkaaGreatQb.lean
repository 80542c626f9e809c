/-
  A slice of byte slices that is only read, at any index.
-/
import Derived.Test.YtdppageondgjkaaGreatFB
set_option linter.unusedVariables false
namespace Go.Proofs.YtdppageondgjkaaGreat
open Go.Fw Go.ChangeShapes Go.WideShapes Go.ChangeAt Go.RowKit
/-- a slice of byte slices, all of them in blocks from G0 up to G1 -/
def Rws (w : World) (G0 G1 : Nat) (a : Option Addr) (n c : Nat) (xs : List (List Int)) : Prop :=
  ∃ cs : List Value, Sl w (fun g => G0 ≤ g ∧ g < G1) 1 (.slice a n c) n cs ∧ ∀ i, i < n → ∃ a' m' c', cs[i]? = some (.slice a' m' c') ∧ Sl w (fun g => G0 ≤ g ∧ g < G1) 1 (.slice a' m' c') m' (ints .u8 (xs.getD i []))
theorem Rws.upd {w w' : World} {G0 G1 n c : Nat} {a : Option Addr} {xs : List (List Int)} {S : Nat → Prop} (h : Rws w G0 G1 a n c xs) (hu : Upd S w w') (hS : ∀ g, S g → g < G0 ∨ G1 ≤ g) : Rws w' G0 G1 a n c xs := by
  obtain ⟨cs, h1, h2⟩ := h
  have hR : ∀ x, (G0 ≤ x ∧ x < G1) → ¬ S x := fun x hx hs => by have := hS x hs; omega
  refine ⟨cs, h1.upd hu hR, fun i hi => ?_⟩
  obtain ⟨a', m', c', e, hx⟩ := h2 i hi
  exact ⟨a', m', c', e, hx.upd hu hR⟩
theorem Rws.upd0 {w w' : World} {G0 G1 n c : Nat} {a : Option Addr} {xs : List (List Int)} (h : Rws w G0 G1 a n c xs) (hu : Upd No w w') : Rws w' G0 G1 a n c xs := h.upd hu fun _ x => x.elim
theorem Rws.upd1 {w w' : World} {G0 G1 n c x : Nat} {a : Option Addr} {xs : List (List Int)} (h : Rws w G0 G1 a n c xs) (hu : Upd (Is x) w w') (hx : x < G0 ∨ G1 ≤ x) : Rws w' G0 G1 a n c xs :=
  h.upd hu fun g hg => by cases hg; exact hx
theorem Rws.nil (w : World) (G0 G1 : Nat) (xs : List (List Int)) : Rws w G0 G1 none 0 0 xs := ⟨[], Sl.nil _ _ _, fun i hi => absurd hi (by omega)⟩
theorem Rws.of {w : World} {G0 G1 k c : Nat} {a : Option Addr} {xs : List (List Int)} {cs : List Value} (h1 : Sl w (fun g => G0 ≤ g ∧ g < G1) 1 (.slice a k c) k cs)
    (h2 : ∀ i, i < k → ∃ a' m' c', cs[i]? = some (.slice a' m' c') ∧ Sl w (fun g => G0 ≤ g ∧ g < G1) 1 (.slice a' m' c') m' (ints .u8 (xs.getD i []))) : Rws w G0 G1 a k c xs := ⟨cs, h1, h2⟩
theorem Rws.at {w : World} {G0 G1 n c : Nat} {a : Option Addr} {xs : List (List Int)} (h : Rws w G0 G1 a n c xs) {i : Nat} (hi : i < n) :
    ∃ a' m' c' b off, a = some ⟨b, off, none⟩ ∧ w.cell? ⟨b, off + i * 1, none⟩ = some (.slice a' m' c') ∧ Sl w (fun g => G0 ≤ g ∧ g < G1) 1 (.slice a' m' c') m' (ints .u8 (xs.getD i [])) := by
  obtain ⟨cs, h1, h2⟩ := h
  obtain ⟨a', m', c', e, hx⟩ := h2 i hi
  obtain ⟨b, off, ha, hc⟩ := h1.at hi
  have h3 := hc 0 (by decide)
  rw [Nat.add_zero, Nat.add_zero, Nat.mul_one, e] at h3
  exact ⟨a', m', c', b, off, ha, by rw [Nat.mul_one]; exact h3, hx⟩
theorem Rws.cap {w : World} {G0 G1 n c : Nat} {a : Option Addr} {xs : List (List Int)} (h : Rws w G0 G1 a n c xs) : n ≤ c ∧ c ≤ maxLen := let ⟨_, h1, _⟩ := h; h1.cap
theorem Rws.four {w : World} {G0 G1 c : Nat} {a : Option Addr} {xs : List (List Int)} (h : Rws w G0 G1 a 4 c xs) :
    ∃ (ja : Option Addr) (ka qa : Nat) (jb : Option Addr) (kb qb : Nat) (jc : Option Addr) (kc qc : Nat) (jd : Option Addr) (kd qd : Nat), Sl w (fun g => G0 ≤ g ∧ g < G1) 1 (.slice a 4 c) 4 [.slice ja ka qa, .slice jb kb qb, .slice jc kc qc, .slice jd kd qd] ∧
      Sl w (fun g => G0 ≤ g ∧ g < G1) 1 (.slice ja ka qa) ka (ints .u8 (xs.getD 0 [])) ∧ Sl w (fun g => G0 ≤ g ∧ g < G1) 1 (.slice jb kb qb) kb (ints .u8 (xs.getD 1 [])) ∧
      Sl w (fun g => G0 ≤ g ∧ g < G1) 1 (.slice jc kc qc) kc (ints .u8 (xs.getD 2 [])) ∧ Sl w (fun g => G0 ≤ g ∧ g < G1) 1 (.slice jd kd qd) kd (ints .u8 (xs.getD 3 [])) := by
  obtain ⟨cs, h1, h2⟩ := h
  obtain ⟨ja, ka, qa, e0, g0⟩ := h2 0 (by decide)
  obtain ⟨jb, kb, qb, e1, g1⟩ := h2 1 (by decide)
  obtain ⟨jc, kc, qc, e2, g2⟩ := h2 2 (by decide)
  obtain ⟨jd, kd, qd, e3, g3⟩ := h2 3 (by decide)
  have hl : cs.length = 4 := h1.len
  have hc : cs = [.slice ja ka qa, .slice jb kb qb, .slice jc kc qc, .slice jd kd qd] := by
    match cs, hl with
    | [x0, x1, x2, x3], _ =>
      simp at e0 e1 e2 e3
      rw [e0, e1, e2, e3]
  rw [hc] at h1
  exact ⟨ja, ka, qa, jb, kb, qb, jc, kc, qc, jd, kd, qd, h1, g0, g1, g2, g3⟩
/-! ### a law's argument that is a slice of byte slices -/
abbrev SB := Option Addr × Nat × Nat × List Int
def encS (x : SB) : List Value := [.slice x.1 x.2.1 x.2.2.1]
theorem encS_len (x : SB) : (encS x).length = 1 := rfl
section
variable {H : Type} {enc : TypeId × Value → H} {P : Program}
theorem sb_of_trod {e u : TypeId} {W : World} (he : P.underlying e = some (.slice u)) (hu : P.underlying u = some (.int .u8)) (hc : P.cellsOf u = 1) (fuel : Nat) (cs : List Value) (y : DataW H × List MemPlace)
    (hf : DataW.trod enc P W 0 (fun _ => true) true fuel e cs = some y) : ∃ x : SB, cs = encS x ∧ (Sl W (fun g => g < W.heap.size) 1 (.slice x.1 x.2.1 x.2.2.1) x.2.1 (ints .u8 x.2.2.2) ∧ Byt x.2.2.2) := by
  rcases open_ints he hu hc hf with ⟨hcs, _⟩ | ⟨a, len, cap, zs, hcs, _, hl, hm, hz, hx, hcl, hwz⟩
  · exact ⟨(none, 0, 0, []), hcs, Sl.nil _ _ _, fun x hx => by cases hx⟩
  · simp only [if_true] at hz
    refine ⟨(some a, len, cap, zs.take len), hcs, ⟨by simp; omega, _, _, rfl, hl, hm, ?_⟩, byt_of_wf fun x hx => hwz x (List.mem_of_mem_take hx)⟩
    by_cases hn : len = 0
    · exact .inl hn
    · right
      obtain ⟨b, off, rfl, hc'⟩ := ints_at hcl (by omega)
      have h0 := hc' 0 (by omega)
      simp only [World.cell?, Option.isSome_none, Bool.false_eq_true, if_false, Nat.add_zero] at h0
      cases hb : W.heap[b]? with
      | none => rw [hb] at h0; simp at h0
      | some o =>
        rw [hb] at h0
        cases o with
        | cells c t' f =>
          refine ⟨b, off, c, t', f, rfl, (Array.getElem?_eq_some_iff.1 hb).1, hb, fun i hi => ?_⟩
          have hi : i < len := by simpa using hi
          have h1 := hc' i (by omega)
          simp only [World.cell?, hb, Option.isSome_none, Bool.false_eq_true, if_false] at h1
          rw [h1, ints, List.getElem?_map, List.getElem?_take, if_pos (by omega), List.getD_eq_getElem?_getD, List.getElem?_eq_getElem (by omega)]
          simp
        | _ => simp at h0
theorem rws_of {W : World} {a : Option Addr} {n c : Nat} {l : List SB} (h : Sl W (fun g => g < W.heap.size) 1 (.slice a n c) n (rows encS l))
    (hl : ∀ x ∈ l, Sl W (fun g => g < W.heap.size) 1 (.slice x.1 x.2.1 x.2.2.1) x.2.1 (ints .u8 x.2.2.2) ∧ Byt x.2.2.2) :
    Rws W 0 W.heap.size a n c (l.map fun x => x.2.2.2) ∧ (∀ i, Byt ((l.map fun x => x.2.2.2).getD i [])) := by
  have hn : l.length = n := rlen encS_len (by decide) h
  refine ⟨⟨_, h.weak fun g hg => ⟨Nat.zero_le _, hg⟩, fun i hi => ?_⟩, fun i => ?_⟩
  · have hi2 : i < l.length := by omega
    have e : (rows encS l)[i]? = some (.slice l[i].1 l[i].2.1 l[i].2.2.1) := by
      have := rows_get encS_len (none, 0, 0, []) l i 0 hi2 (by decide)
      rw [Nat.mul_one, Nat.add_zero, List.getD_eq_getElem?_getD, List.getElem?_eq_getElem hi2] at this
      rw [this]; rfl
    refine ⟨_, _, _, e, ?_⟩
    rw [List.getD_eq_getElem?_getD, List.getElem?_map, List.getElem?_eq_getElem hi2]
    exact (hl _ (List.getElem_mem hi2)).1.weak fun g hg => ⟨Nat.zero_le _, hg⟩
  · rw [List.getD_eq_getElem?_getD, List.getElem?_map]
    rcases Nat.lt_or_ge i l.length with hi2 | hi2
    · rw [List.getElem?_eq_getElem hi2]; exact (hl _ (List.getElem_mem hi2)).2
    · rw [List.getElem?_eq_none hi2]; exact byt_nil
end
end Go.Proofs.YtdppageondgjkaaGreat
