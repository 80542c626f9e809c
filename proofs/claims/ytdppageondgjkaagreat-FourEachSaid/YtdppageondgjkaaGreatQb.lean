/-
  A slice of byte slices that is only read, at any index.
-/
import Derived.Test.YtdppageondgjkaaGreatFB
set_option linter.unusedVariables false
set_option maxRecDepth 100000
namespace Go.Proofs.YtdppageondgjkaaGreat
open Go.Fw Go.ChangeShapes Go.WideShapes Go.ChangeAt Go.RowKit
def Rws (w : World) (G0 G1 : Nat) (a : Option Addr) (n c : Nat) (xs : List (List Int)) : Prop :=
  ∃ cs : List Value, Sl w (fun g => G0 ≤ g ∧ g < G1) 1 (.slice a n c) n cs ∧ ∀ i, i < n → ∃ a' m' c', cs[i]? = some (.slice a' m' c') ∧ Sl w (fun g => G0 ≤ g ∧ g < G1) 1 (.slice a' m' c') m' (ints .u8 (xs.getD i []))
theorem Rws.upd {w w' : World} {G0 G1 n c : Nat} {a : Option Addr} {xs : List (List Int)} {S : Nat → Prop} (h : Rws w G0 G1 a n c xs) (hu : Upd S w w') (hS : ∀ g, S g → g < G0 ∨ G1 ≤ g) : Rws w' G0 G1 a n c xs := by
  obtain ⟨cs, h1, h2⟩ := h
  have hR : ∀ x, (G0 ≤ x ∧ x < G1) → ¬ S x := fun x hx hs => by have := hS x hs; omega
  refine ⟨cs, h1.upd hu hR, fun i hi => ?_⟩
  obtain ⟨a', m', c', e, hx⟩ := h2 i hi
  exact ⟨a', m', c', e, hx.upd hu hR⟩
theorem Rws.upd0 {w w' : World} {G0 G1 n c : Nat} {a : Option Addr} {xs : List (List Int)} (h : Rws w G0 G1 a n c xs) (hu : Upd No w w') : Rws w' G0 G1 a n c xs := h.upd hu fun _ x => x.elim
theorem Rws.upd1 {w w' : World} {G0 G1 n c x : Nat} {a : Option Addr} {xs : List (List Int)} (h : Rws w G0 G1 a n c xs) (hu : Upd (Is x) w w') (hx : x < G0 ∨ G1 ≤ x) : Rws w' G0 G1 a n c xs :=
  h.upd hu fun g hg => by cases hg; exact hx
theorem Rws.nil (w : World) (G0 G1 : Nat) (xs : List (List Int)) : Rws w G0 G1 none 0 0 xs := ⟨[], Sl.nil _ _ _, fun i hi => absurd hi (by omega)⟩
theorem Rws.of {w : World} {G0 G1 k c : Nat} {a : Option Addr} {xs : List (List Int)} {cs : List Value} (h1 : Sl w (fun g => G0 ≤ g ∧ g < G1) 1 (.slice a k c) k cs)
    (h2 : ∀ i, i < k → ∃ a' m' c', cs[i]? = some (.slice a' m' c') ∧ Sl w (fun g => G0 ≤ g ∧ g < G1) 1 (.slice a' m' c') m' (ints .u8 (xs.getD i []))) : Rws w G0 G1 a k c xs := ⟨cs, h1, h2⟩
theorem Rws.at {w : World} {G0 G1 n c : Nat} {a : Option Addr} {xs : List (List Int)} (h : Rws w G0 G1 a n c xs) {i : Nat} (hi : i < n) :
    ∃ a' m' c' b off, a = some ⟨b, off, none⟩ ∧ w.cell? ⟨b, off + i * 1, none⟩ = some (.slice a' m' c') ∧ Sl w (fun g => G0 ≤ g ∧ g < G1) 1 (.slice a' m' c') m' (ints .u8 (xs.getD i [])) := by
  obtain ⟨cs, h1, h2⟩ := h
  obtain ⟨a', m', c', e, hx⟩ := h2 i hi
  obtain ⟨b, off, ha, hc⟩ := h1.at hi
  have h3 := hc 0 (by decide)
  rw [Nat.add_zero, Nat.add_zero, Nat.mul_one, e] at h3
  exact ⟨a', m', c', b, off, ha, by rw [Nat.mul_one]; exact h3, hx⟩
/-! ### a law's argument that is a slice of byte slices -/
section
variable {H : Type} {enc : TypeId × Value → H} {P : Program}
end
end Go.Proofs.YtdppageondgjkaaGreat
