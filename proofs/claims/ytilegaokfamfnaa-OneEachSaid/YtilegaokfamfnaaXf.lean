/-
 Walks, printed by a small program of this project (gen.py).
-/
import Derived.Test.YtilegaokfamfnaaXe
set_option linter.unusedVariables false
set_option linter.unusedSimpArgs false
namespace Go.Proofs.Ytilegaokfamfnaa
open Go.Fw

theorem tk1g {α : Type} (d : α) {l : List α} {k : Nat} (h : k < l.length) : l.take (k + 1) = l.take k ++ [l.getD k d] := by
 rw [List.take_add_one, List.getElem?_eq_getElem h, List.getD_eq_getElem?_getD, List.getElem?_eq_getElem h]; rfl
theorem leq_step {α : Type} (d : α) {x y : List α} {k : Nat} (h : x.take k = y.take k) (h1 : k < x.length) (h2 : k < y.length) (e : x.getD k d = y.getD k d) : x.take (k + 1) = y.take (k + 1) := by
 rw [tk1g d h1, tk1g d h2, h, e]
theorem leq_ne {α : Type} (d : α) {x y : List α} {k : Nat} (e : x.getD k d ≠ y.getD k d) : ¬ x = y := fun h => e (by rw [h])
theorem leq_end {α : Type} {x y : List α} {k : Nat} (h : x.take k = y.take k) (h1 : x.length ≤ k) (h2 : y.length ≤ k) : x = y := by
 rwa [List.take_of_length_le h1, List.take_of_length_le h2] at h
theorem leq_len {α : Type} {x y : List α} (h : x.length ≠ y.length) : ¬ x = y := fun e => h (by rw [e])

end Go.Proofs.Ytilegaokfamfnaa
