/-
  Layer 1: what a call of a cursor yields, of each kind.
-/
import Derived.Test.YtflmjdnhjbiobaaPd
namespace Go.Proofs.Ytflmjdnhjbiobaa
open Go.Fw

/-- a call: kind k, number n, at p: the number, the bytes, the next position, the error -/
def stp (bs : List Int) (p : Nat) (k n : Int) : Int × List Int × Nat × Int :=
  if k = 1 then ((gbyte bs p).1, [], (gbyte bs p).2.1, (gbyte bs p).2.2)
  else if k = 2 then ((gword bs p).1, [], (gword bs p).2.1, (gword bs p).2.2)
  else if k = 3 then ((gvar bs p).1, [], (gvar bs p).2.1, (gvar bs p).2.2)
  else if k = 4 then ((gnum bs p n).1, [], (gnum bs p n).2.1, (gnum bs p n).2.2)
  else if k = 5 then (0, (gbytes bs p n).1, (gbytes bs p n).2.1, (gbytes bs p n).2.2)
  else if p < bs.length then (0, [], p, 4) else (0, [], p, 0)
theorem stp_1 {bs : List Int} {p : Nat} {k n : Int} (h : k = 1) : stp bs p k n = ((gbyte bs p).1, [], (gbyte bs p).2.1, (gbyte bs p).2.2) := by simp [stp, h]
theorem stp_2 {bs : List Int} {p : Nat} {k n : Int} (h : k = 2) : stp bs p k n = ((gword bs p).1, [], (gword bs p).2.1, (gword bs p).2.2) := by simp [stp, h]
theorem stp_3 {bs : List Int} {p : Nat} {k n : Int} (h : k = 3) : stp bs p k n = ((gvar bs p).1, [], (gvar bs p).2.1, (gvar bs p).2.2) := by simp [stp, h]
theorem stp_4 {bs : List Int} {p : Nat} {k n : Int} (h : k = 4) : stp bs p k n = ((gnum bs p n).1, [], (gnum bs p n).2.1, (gnum bs p n).2.2) := by simp [stp, h]
theorem stp_5 {bs : List Int} {p : Nat} {k n : Int} (h : k = 5) : stp bs p k n = (0, (gbytes bs p n).1, (gbytes bs p n).2.1, (gbytes bs p n).2.2) := by simp [stp, h]
theorem stp_e {bs : List Int} {p : Nat} {k n : Int} (h : k ≠ 1 ∧ k ≠ 2 ∧ k ≠ 3 ∧ k ≠ 4 ∧ k ≠ 5) : stp bs p k n = (0, [], p, if p < bs.length then 4 else 0) := by
  simp only [stp, h, if_false]; split <;> rfl
theorem stp_le {bs : List Int} (hb : Byt bs) {p : Nat} (hp : p ≤ bs.length) (k n : Int) : (stp bs p k n).2.2.1 ≤ bs.length ∧ p ≤ (stp bs p k n).2.2.1 := by
  have h1 : ∀ q, p ≤ (gbyte bs q).2.1 ∨ q < p := fun q => by unfold gbyte; split <;> simp <;> omega
  unfold stp
  split
  · exact ⟨(gbyte_props hb hp).2.2, (h1 p).elim id (by omega)⟩
  split
  · refine ⟨(gword_props hb hp).2.2, ?_⟩; unfold gword; split <;> simp
  split
  · have := gvar_props bs p hp; exact ⟨this.2.2.1, this.2.2.2.1⟩
  split
  · refine ⟨(gnum_props hp).2.2, ?_⟩
    unfold gnum; split
    · simp
    · split
      · simp
      · exact (gvar_props bs p hp).2.2.2.1
  split
  · refine ⟨gbytes_props hp, ?_⟩; unfold gbytes; split
    · simp
    · split <;> simp
  split <;> exact ⟨hp, Nat.le_refl _⟩
theorem gbytes_one {bs : List Int} {p : Nat} : gbytes bs p 1 = if p < bs.length then ([bs.getD p 0], p + 1, 0) else ([], p, 3) := by
  unfold gbytes
  rw [if_neg (by omega)]
  by_cases h : p < bs.length
  · rw [if_neg (by omega), if_pos h, drop_cons h]; rfl
  · rw [if_pos (by omega), if_neg h]
theorem gbyte_of {bs : List Int} {p : Nat} : gbyte bs p = ((gbytes bs p 1).1.getD 0 0, (gbytes bs p 1).2.1, (gbytes bs p 1).2.2) := by
  rw [gbytes_one, gbyte]; split <;> rfl
theorem gbytes_one_len {bs : List Int} {p : Nat} (h : (gbytes bs p 1).2.2 = 0) : (gbytes bs p 1).1.length = 1 := by
  rw [gbytes_one] at h ⊢; split
  · rfl
  · rename_i h1; rw [if_neg h1] at h; simp at h
theorem gbytes_one_err {bs : List Int} {p : Nat} (h : (gbytes bs p 1).2.2 ≠ 0) : (gbytes bs p 1).2.1 = p ∧ (gbytes bs p 1).1 = [] := by
  rw [gbytes_one] at h ⊢; split
  · rename_i h1; rw [if_pos h1] at h; simp at h
  · exact ⟨rfl, rfl⟩
theorem gbyte_le {bs : List Int} (hb : Byt bs) (p : Nat) : 0 ≤ (gbyte bs p).1 ∧ (gbyte bs p).1 < 256 := by
  unfold gbyte; split
  · exact byt_gd hb p
  · simp
theorem gword_le {bs : List Int} (hb : Byt bs) (p : Nat) : 0 ≤ (gword bs p).1 ∧ (gword bs p).1 < 4294967296 := by
  have := wval_fit (byt_take (byt_drop hb p) 4) (by rw [List.length_take]; omega)
  unfold gword; split
  · simp
  · exact this
end Go.Proofs.Ytflmjdnhjbiobaa
