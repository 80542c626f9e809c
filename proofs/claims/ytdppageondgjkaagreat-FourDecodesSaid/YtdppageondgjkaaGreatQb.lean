/-
  A slice of byte slices that is only read, at any index.
-/
import Derived.Test.YtdppageondgjkaaGreatFB
set_option linter.unusedVariables false
set_option maxRecDepth 100000
namespace Go.Proofs.YtdppageondgjkaaGreat
open Go.Fw Go.ChangeShapes Go.WideShapes Go.ChangeAt Go.RowKit
def Rws (w : World) (G0 G1 : Nat) (a : Option Addr) (n c : Nat) (xs : List (List Int)) : Prop :=
  ∃ cs : List Value, Sl w (fun g => G0 ≤ g ∧ g < G1) 1 (.slice a n c) n cs ∧ ∀ i, i < n → ∃ a' m' c', cs[i]? = some (.slice a' m' c') ∧ Sl w (fun g => G0 ≤ g ∧ g < G1) 1 (.slice a' m' c') m' (ints .u8 (xs.getD i []))
theorem Rws.nil (w : World) (G0 G1 : Nat) (xs : List (List Int)) : Rws w G0 G1 none 0 0 xs := ⟨[], Sl.nil _ _ _, fun i hi => absurd hi (by omega)⟩
theorem Rws.of {w : World} {G0 G1 k c : Nat} {a : Option Addr} {xs : List (List Int)} {cs : List Value} (h1 : Sl w (fun g => G0 ≤ g ∧ g < G1) 1 (.slice a k c) k cs)
    (h2 : ∀ i, i < k → ∃ a' m' c', cs[i]? = some (.slice a' m' c') ∧ Sl w (fun g => G0 ≤ g ∧ g < G1) 1 (.slice a' m' c') m' (ints .u8 (xs.getD i []))) : Rws w G0 G1 a k c xs := ⟨cs, h1, h2⟩
theorem Rws.four {w : World} {G0 G1 c : Nat} {a : Option Addr} {xs : List (List Int)} (h : Rws w G0 G1 a 4 c xs) :
    ∃ (ja : Option Addr) (ka qa : Nat) (jb : Option Addr) (kb qb : Nat) (jc : Option Addr) (kc qc : Nat) (jd : Option Addr) (kd qd : Nat), Sl w (fun g => G0 ≤ g ∧ g < G1) 1 (.slice a 4 c) 4 [.slice ja ka qa, .slice jb kb qb, .slice jc kc qc, .slice jd kd qd] ∧
      Sl w (fun g => G0 ≤ g ∧ g < G1) 1 (.slice ja ka qa) ka (ints .u8 (xs.getD 0 [])) ∧ Sl w (fun g => G0 ≤ g ∧ g < G1) 1 (.slice jb kb qb) kb (ints .u8 (xs.getD 1 [])) ∧
      Sl w (fun g => G0 ≤ g ∧ g < G1) 1 (.slice jc kc qc) kc (ints .u8 (xs.getD 2 [])) ∧ Sl w (fun g => G0 ≤ g ∧ g < G1) 1 (.slice jd kd qd) kd (ints .u8 (xs.getD 3 [])) := by
  obtain ⟨cs, h1, h2⟩ := h
  obtain ⟨ja, ka, qa, e0, g0⟩ := h2 0 (by decide)
  obtain ⟨jb, kb, qb, e1, g1⟩ := h2 1 (by decide)
  obtain ⟨jc, kc, qc, e2, g2⟩ := h2 2 (by decide)
  obtain ⟨jd, kd, qd, e3, g3⟩ := h2 3 (by decide)
  have hl : cs.length = 4 := h1.len
  have hc : cs = [.slice ja ka qa, .slice jb kb qb, .slice jc kc qc, .slice jd kd qd] := by
    match cs, hl with
    | [x0, x1, x2, x3], _ =>
      simp at e0 e1 e2 e3
      rw [e0, e1, e2, e3]
  rw [hc] at h1
  exact ⟨ja, ka, qa, jb, kb, qb, jc, kc, qc, jd, kd, qd, h1, g0, g1, g2, g3⟩
/-! ### a law's argument that is a slice of byte slices -/
section
variable {H : Type} {enc : TypeId × Value → H} {P : Program}
end
end Go.Proofs.YtdppageondgjkaaGreat
