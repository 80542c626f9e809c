/-
  Layer 1: bits of words and varints; what a failed read leaves.
-/
import Derived.Test.YtflmjdnhjbiobaaPb
namespace Go.Proofs.Ytflmjdnhjbiobaa
open Go.Fw

theorem or_low {k : IntKind} {a x : Nat} {v : Nat} (hx : x < 2 ^ a) (hv : 2 ^ a * v + x < 2 ^ k.bits) (hk : k.wrap ((2 ^ a * v + x : Nat) : Int) = ((2 ^ a * v + x : Nat) : Int)) :
    k.wrap (((((2 ^ a * v : Nat) : Int) % 2 ^ k.bits).toNat ||| (((x : Nat) : Int) % 2 ^ k.bits).toNat : Nat) : Int) = ((2 ^ a * v + x : Nat) : Int) := by
  have e1 : (((2 ^ a * v : Nat) : Int) % 2 ^ k.bits).toNat = 2 ^ a * v := by
    rw [show (2 : Int) ^ k.bits = ((2 ^ k.bits : Nat) : Int) from by simp, ← Int.natCast_emod, Int.toNat_natCast]
    exact Nat.mod_eq_of_lt (by omega)
  have e2 : (((x : Nat) : Int) % 2 ^ k.bits).toNat = x := by
    rw [show (2 : Int) ^ k.bits = ((2 ^ k.bits : Nat) : Int) from by simp, ← Int.natCast_emod, Int.toNat_natCast]
    exact Nat.mod_eq_of_lt (by omega)
  rw [e1, e2, ← Nat.two_pow_add_eq_or_of_lt hx, hk]
theorem and127N : ∀ x : Nat, x < 256 → x &&& 127 = x % 128 := by decide +kernel
theorem and127 {x : Int} : IntKind.u8.wrap (((x % 2 ^ IntKind.u8.bits).toNat &&& (127 % 2 ^ IntKind.u8.bits : Int).toNat : Nat) : Int) = x % 128 := by
  have e : (2 ^ IntKind.u8.bits : Int) = 256 := by decide
  rw [e]
  have e2 : (127 % 256 : Int).toNat = 127 := by decide
  rw [e2, and127N _ (by omega), wu8 (by omega) (by omega)]
  omega
theorem shl8 {v : Int} (h0 : 0 ≤ v) (h1 : v < 16777216) : IntKind.u32.wrap (v * 2 ^ (min (8 : Int).toNat IntKind.u32.bits)) = 256 * v := by
  have e : (2 : Int) ^ (min (8 : Int).toNat IntKind.u32.bits) = 256 := by decide
  rw [e, wu32 (by omega) (by omega), Int.mul_comm]
theorem or8 {v x : Int} (h0 : 0 ≤ v) (h1 : v < 16777216) (h2 : 0 ≤ x) (h3 : x < 256) : IntKind.u32.wrap ((((256 * v) % 2 ^ IntKind.u32.bits).toNat ||| (x % 2 ^ IntKind.u32.bits).toNat : Nat) : Int) = 256 * v + x := by
  have h := or_low (k := .u32) (a := 8) (x := x.toNat) (v := v.toNat) (by show _ < 256; omega) (by show 256 * _ + _ < 4294967296; omega) (wu32 (by omega) (by show ((256 * _ + _ : Nat) : Int) < _; omega))
  rw [show ((2 ^ 8 * v.toNat : Nat) : Int) = 256 * v from by omega, show ((x.toNat : Nat) : Int) = x from by omega, show ((2 ^ 8 * v.toNat + x.toNat : Nat) : Int) = 256 * v + x from by omega] at h
  exact h
theorem pow7 (i : Nat) : (128 : Int) ^ i = 2 ^ (7 * i) := by rw [Int.pow_mul]; rfl
theorem pow7N (i : Nat) : (128 : Nat) ^ i = 2 ^ (7 * i) := by rw [Nat.pow_mul]
theorem pow7c (i : Nat) : ((2 ^ (7 * i) : Nat) : Int) = 128 ^ i := by rw [pow7]; simp
theorem shl7 {x : Int} {i : Nat} (h0 : 0 ≤ x) (h1 : x < 128) (hi : i ≤ 8) : IntKind.u64.wrap (x * 2 ^ (min (7 * ((i : Nat) : Int)).toNat IntKind.u64.bits)) = x * 128 ^ i := by
  have e : min (7 * ((i : Nat) : Int)).toNat IntKind.u64.bits = 7 * i := by show min _ 64 = _; omega
  rw [e, ← pow7]
  have h2 : (128 : Int) ^ i ≤ 128 ^ 8 := pow_mono hi
  have h3 : (0 : Int) < 128 ^ i := Int.pow_pos (by decide)
  have h4 : x * 128 ^ i ≤ 127 * 128 ^ i := Int.mul_le_mul_of_nonneg_right (by omega) (by omega)
  exact wu64 (Int.mul_nonneg h0 (by omega)) (by omega)
theorem or7 {v x : Int} {i : Nat} (h0 : 0 ≤ v) (h1 : v < 128 ^ i) (h2 : 0 ≤ x) (h3 : x < 128) (hi : i ≤ 8) : IntKind.u64.wrap (((v % 2 ^ IntKind.u64.bits).toNat ||| ((x * 128 ^ i) % 2 ^ IntKind.u64.bits).toNat : Nat) : Int) = v + x * 128 ^ i := by
  have g2 : (128 : Int) ^ i ≤ 128 ^ 8 := pow_mono hi
  have g3 : (0 : Int) < 128 ^ i := Int.pow_pos (by decide)
  have g4 : x * 128 ^ i ≤ 127 * 128 ^ i := Int.mul_le_mul_of_nonneg_right (by omega) (by omega)
  have e1 : ((2 ^ (7 * i) * x.toNat : Nat) : Int) = x * 128 ^ i := by
    rw [Int.natCast_mul, pow7c, show ((x.toNat : Nat) : Int) = x from by omega, Int.mul_comm]
  have e2 : ((v.toNat : Nat) : Int) = v := by omega
  have hb : ((2 ^ (7 * i) * x.toNat + v.toNat : Nat) : Int) = v + x * 128 ^ i := by rw [Int.natCast_add, e1, e2, Int.add_comm]
  have h := or_low (k := .u64) (a := 7 * i) (x := v.toNat) (v := x.toNat) (by have := pow7c i; omega) (by show _ < 18446744073709551616; omega) (wu64 (by omega) (by omega))
  rw [hb, e1, e2, Nat.or_comm] at h
  exact h

theorem gbyte_err {bs : List Int} {p : Nat} (h : (gbyte bs p).2.2 ≠ 0) : (gbyte bs p).1 = 0 ∧ (gbyte bs p).2.1 = p := by
  unfold gbyte at h ⊢; split <;> simp_all
theorem gbyte_props {bs : List Int} (hb : Byt bs) {p : Nat} (hp : p ≤ bs.length) : 0 ≤ (gbyte bs p).1 ∧ (gbyte bs p).1 < 256 ∧ (gbyte bs p).2.1 ≤ bs.length := by
  have := byt_gd hb p
  unfold gbyte; split
  · exact ⟨this.1, this.2, by show p + 1 ≤ _; omega⟩
  · exact ⟨by simp, by simp, hp⟩
theorem gbytes_err {bs : List Int} {p : Nat} {k : Int} (h : (gbytes bs p k).2.2 ≠ 0) : (gbytes bs p k).1 = [] ∧ (gbytes bs p k).2.1 = p := by
  unfold gbytes at h ⊢; split
  · exact ⟨rfl, rfl⟩
  · split
    · exact ⟨rfl, rfl⟩
    · simp_all
theorem gbytes_props {bs : List Int} {p : Nat} {k : Int} (hp : p ≤ bs.length) : (gbytes bs p k).2.1 ≤ bs.length := by
  unfold gbytes; split
  · exact hp
  · split
    · exact hp
    · show p + k.toNat ≤ _; omega
theorem gword_err {bs : List Int} {p : Nat} (h : (gword bs p).2.2 ≠ 0) : (gword bs p).1 = 0 ∧ (gword bs p).2.1 = p := by
  unfold gword at h ⊢; split <;> simp_all
theorem gword_props {bs : List Int} (hb : Byt bs) {p : Nat} (hp : p ≤ bs.length) : 0 ≤ (gword bs p).1 ∧ (gword bs p).1 < 4294967296 ∧ (gword bs p).2.1 ≤ bs.length := by
  have := wval_fit (byt_take (byt_drop hb p) 4) (by rw [List.length_take]; omega)
  unfold gword; split
  · exact ⟨by simp, by simp, hp⟩
  · exact ⟨this.1, this.2, by show p + 4 ≤ _; omega⟩
theorem gnum_err' {bs : List Int} {p : Nat} {most : Int} (hp : p ≤ bs.length) (h : (gnum bs p most).2.2 ≠ 0) : (gnum bs p most).1 = 0 ∧ (gnum bs p most).2.1 = p := by
  unfold gnum at h ⊢
  split
  · exact ⟨rfl, rfl⟩
  · split
    · exact ⟨rfl, rfl⟩
    · rename_i h1 h2
      rw [if_neg h1, if_neg h2] at h
      exact absurd h h1
theorem gnum_props {bs : List Int} {p : Nat} {most : Int} (hp : p ≤ bs.length) : 0 ≤ (gnum bs p most).1 ∧ (gnum bs p most).1 ≤ 4611686018427387903 ∧ (gnum bs p most).2.1 ≤ bs.length := by
  have h := gvar_props bs p hp
  unfold gnum
  split
  · exact ⟨by simp, by simp, hp⟩
  · split
    · exact ⟨by simp, by simp, hp⟩
    · exact ⟨h.1, h.2.1, h.2.2.1⟩
end Go.Proofs.Ytflmjdnhjbiobaa
