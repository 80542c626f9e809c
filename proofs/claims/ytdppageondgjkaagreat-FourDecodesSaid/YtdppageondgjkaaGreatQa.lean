/-
  Four streams: the parts of a number, the section of four streams, and what it reads back to.
-/
import Derived.Test.YtdppageondgjkaaGreatZC
import Derived.Test.YtdppageondgjkaaGreatUA
set_option linter.unusedVariables false
set_option maxRecDepth 100000
namespace Go.Proofs.YtdppageondgjkaaGreat
open Go.Fw Nu
def paF (n : Int) : Int := if 0 ≤ n ∧ n ≤ 131072 then (if 3 * ((n + 3) / 4) < n then 0 else 11) else 2
theorem paF_inv {n : Int} (h : paF n = 0) : (0 ≤ n ∧ n ≤ 131072) ∧ 3 * ((n + 3) / 4) < n := by
  unfold paF at h
  split at h
  · split at h
    · exact ⟨by assumption, by assumption⟩
    · cases h
  · cases h
theorem paF_cases (n : Int) : (paF n = 0 ∧ 0 ≤ n ∧ n ≤ 131072 ∧ 3 * ((n + 3) / 4) < n) ∨ (paF n = 11 ∧ 0 ≤ n ∧ n ≤ 131072 ∧ ¬ 3 * ((n + 3) / 4) < n) ∨ (paF n = 2 ∧ ¬ (0 ≤ n ∧ n ≤ 131072)) := by
  unfold paF
  split
  · split
    · exact .inl ⟨rfl, by omega, by omega, by assumption⟩
    · exact .inr (.inl ⟨rfl, by omega, by omega, by assumption⟩)
  · exact .inr (.inr ⟨rfl, by assumption⟩)
def jn (a b c d : List Int) : List Int := vi ((a.length : Nat) : Int) ++ (vi ((b.length : Nat) : Int) ++ (vi ((c.length : Nat) : Int) ++ (a ++ (b ++ (c ++ d)))))
/-! ### reading a section -/
abbrev u1 (b : List Int) : Int × Nat × Int := gnum b 0 131072
abbrev u2 (b : List Int) : Int × Nat × Int := gnum b (u1 b).2.1 131072
abbrev u3 (b : List Int) : Int × Nat × Int := gnum b (u2 b).2.1 131072
abbrev y1 (b : List Int) : List Int × Nat × Int := gbytes b (u3 b).2.1 (u1 b).1
abbrev y2 (b : List Int) : List Int × Nat × Int := gbytes b (y1 b).2.1 (u2 b).1
abbrev y3 (b : List Int) : List Int × Nat × Int := gbytes b (y2 b).2.1 (u3 b).1
abbrev y4 (b : List Int) : List Int := b.drop (y3 b).2.1
def e4 (b : List Int) : Int := if (u1 b).2.2 ≠ 0 then (u1 b).2.2 else if (u2 b).2.2 ≠ 0 then (u2 b).2.2 else if (u3 b).2.2 ≠ 0 then (u3 b).2.2 else if (y1 b).2.2 ≠ 0 then (y1 b).2.2 else if (y2 b).2.2 ≠ 0 then (y2 b).2.2 else (y3 b).2.2
theorem e4_z {b : List Int} (h1 : (u1 b).2.2 = 0) (h2 : (u2 b).2.2 = 0) (h3 : (u3 b).2.2 = 0) (h4 : (y1 b).2.2 = 0) (h5 : (y2 b).2.2 = 0) : e4 b = (y3 b).2.2 := by
  rw [e4, if_neg (not_not_intro h1), if_neg (not_not_intro h2), if_neg (not_not_intro h3), if_neg (not_not_intro h4), if_neg (not_not_intro h5)]
def e3 (b : List Int) : Int := if (u1 b).2.2 ≠ 0 then (u1 b).2.2 else if (u2 b).2.2 ≠ 0 then (u2 b).2.2 else (u3 b).2.2
theorem e3_1 {b : List Int} (h : ¬ (u1 b).2.2 = 0) : e3 b = (u1 b).2.2 := by rw [e3, if_pos h]
theorem e3_2 {b : List Int} (h1 : (u1 b).2.2 = 0) (h : ¬ (u2 b).2.2 = 0) : e3 b = (u2 b).2.2 := by rw [e3, if_neg (not_not_intro h1), if_pos h]
theorem e3_3 {b : List Int} (h1 : (u1 b).2.2 = 0) (h2 : (u2 b).2.2 = 0) : e3 b = (u3 b).2.2 := by rw [e3, if_neg (not_not_intro h1), if_neg (not_not_intro h2)]
theorem e3_inv {b : List Int} (h : e3 b = 0) : (u1 b).2.2 = 0 ∧ (u2 b).2.2 = 0 ∧ (u3 b).2.2 = 0 := by
  have h1 : (u1 b).2.2 = 0 := Classical.byContradiction fun hn => hn (by rw [← e3_1 hn]; exact h)
  have h2 : (u2 b).2.2 = 0 := Classical.byContradiction fun hn => hn (by rw [← e3_2 h1 hn]; exact h)
  exact ⟨h1, h2, by rw [← e3_3 h1 h2]; exact h⟩
theorem e4_3 {b : List Int} (h : ¬ e3 b = 0) : e4 b = e3 b := by
  unfold e4
  split
  · exact (e3_1 ‹_›).symm
  · next h1 =>
    have h1 := Classical.not_not.1 h1
    split
    · exact (e3_2 h1 ‹_›).symm
    · next h2 =>
      have h2 := Classical.not_not.1 h2
      have h3 := e3_3 h1 h2
      rw [if_pos (by rw [← h3]; exact h), h3]
theorem e4_y1 {b : List Int} (h : e3 b = 0) (hy : ¬ (y1 b).2.2 = 0) : e4 b = (y1 b).2.2 := by
  obtain ⟨h1, h2, h3⟩ := e3_inv h
  rw [e4, if_neg (not_not_intro h1), if_neg (not_not_intro h2), if_neg (not_not_intro h3), if_pos hy]
theorem e4_y2 {b : List Int} (h : e3 b = 0) (hy1 : (y1 b).2.2 = 0) (hy : ¬ (y2 b).2.2 = 0) : e4 b = (y2 b).2.2 := by
  obtain ⟨h1, h2, h3⟩ := e3_inv h
  rw [e4, if_neg (not_not_intro h1), if_neg (not_not_intro h2), if_neg (not_not_intro h3), if_neg (not_not_intro hy1), if_pos hy]
theorem e4_y3 {b : List Int} (h : e3 b = 0) (hy1 : (y1 b).2.2 = 0) (hy2 : (y2 b).2.2 = 0) : e4 b = (y3 b).2.2 := by
  obtain ⟨h1, h2, h3⟩ := e3_inv h
  exact e4_z h1 h2 h3 hy1 hy2
end Go.Proofs.YtdppageondgjkaaGreat
