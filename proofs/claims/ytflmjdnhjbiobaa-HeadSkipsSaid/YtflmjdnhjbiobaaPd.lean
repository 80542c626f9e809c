/-
  Layer 1: words read backwards, varints read byte by byte.
-/
import Derived.Test.YtflmjdnhjbiobaaPc
import Derived.Test.YtflmjdnhjbiobaaFh
namespace Go.Proofs.Ytflmjdnhjbiobaa
open Go.Fw

theorem gbytes_len {bs : List Int} {p : Nat} {k : Int} : (gbytes bs p k).1.length ≤ k.toNat := by
  unfold gbytes; split
  · simp
  · split
    · simp
    · simp only [List.length_take]; omega
theorem gbytes_byt {bs : List Int} {p : Nat} {k : Int} (hb : Byt bs) : Byt (gbytes bs p k).1 := by
  unfold gbytes; split
  · exact byt_nil
  · split
    · exact byt_nil
    · exact byt_take (byt_drop hb _) _
theorem gword_of {bs : List Int} {p : Nat} (hp : p ≤ bs.length) : gword bs p = (wval (gbytes bs p 4).1, (gbytes bs p 4).2.1, (gbytes bs p 4).2.2) := by
  unfold gword gbytes
  by_cases h : bs.length < p + 4
  · rw [if_pos h, if_neg (by omega), if_pos (by omega)]; rfl
  · rw [if_neg h, if_neg (by omega), if_neg (by omega)]; rfl
theorem wval_back {xs : List Int} (hb : Byt xs) {m j : Nat} (hm : xs.length = m) (hm4 : m ≤ 4) (hj : j < m) :
    wval (xs.drop (m - (j + 1))) = 256 * wval (xs.drop (m - j)) + xs.getD (m - 1 - j) 0 ∧ 0 ≤ wval (xs.drop (m - j)) ∧ wval (xs.drop (m - j)) < 16777216 ∧ 0 ≤ xs.getD (m - 1 - j) 0 ∧ xs.getD (m - 1 - j) 0 < 256 := by
  have h1 : xs.drop (m - (j + 1)) = xs.getD (m - 1 - j) 0 :: xs.drop (m - j) := by
    rw [drop_cons (by omega), show m - (j + 1) = m - 1 - j from by omega, show m - 1 - j + 1 = m - j from by omega]
  have h2 := wval_bound (xs.drop (m - j)) (byt_drop hb _)
  have h3 : (256 : Int) ^ (xs.drop (m - j)).length ≤ 256 ^ 3 := pow_mono (by rw [List.length_drop]; omega)
  have h4 := byt_gd hb (m - 1 - j)
  rw [h1]
  simp only [wval]
  omega
theorem val_nil : val [] = 0 := rfl
/-- a round of the reader of varints -/
theorem val_more {bs : List Int} {p k : Nat} (hp : p + k < bs.length) : val ((bs.drop p).take (k + 1)) = val ((bs.drop p).take k) + bs.getD (p + k) 0 % 128 * 128 ^ k := by
  rw [take_getD (by rw [List.length_drop]; omega), val_snoc, gd_drop, List.length_take, List.length_drop, Nat.min_eq_left (by omega)]
theorem val_take {bs : List Int} {p k : Nat} (hk : k ≤ 8) : 0 ≤ val ((bs.drop p).take k) ∧ val ((bs.drop p).take k) < 128 ^ k := by
  have h := val_bound ((bs.drop p).take k)
  have h2 : (128 : Int) ^ ((bs.drop p).take k).length ≤ 128 ^ k := pow_mono (by rw [List.length_take]; omega)
  omega
theorem gbyte_end {bs : List Int} {p : Nat} (h : ¬ p < bs.length) : gbyte bs p = (0, p, 3) := by simp [gbyte, h]
theorem gbyte_in {bs : List Int} {p : Nat} (h : p < bs.length) : gbyte bs p = (bs.getD p 0, p + 1, 0) := by simp [gbyte, h]
end Go.Proofs.Ytflmjdnhjbiobaa
