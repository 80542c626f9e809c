/-
  Layer 17: arithmetic of bits in 64-bit words.
-/
import Derived.Test.YtilegaokfamfnaaOa
set_option linter.unusedVariables false
namespace Go.Proofs.Ytilegaokfamfnaa
open Go.Fw

theorem bits64 : (2 ^ IntKind.u64.bits : Int) = 18446744073709551616 := by decide
theorem cpow (k : Nat) : ((2 : Int) ^ k) = ((2 ^ k : Nat) : Int) := by simp
theorem pw_bd {k : Nat} (h : k ≤ 11) : 1 ≤ 2 ^ k ∧ 2 ^ k ≤ 2048 := by
  have h1 : 2 ^ k ≤ 2 ^ 11 := Nat.pow_le_pow_right (by decide) h
  exact ⟨Nat.one_le_two_pow, by omega⟩
theorem pw_bd8 {k : Nat} (h : k ≤ 8) : 1 ≤ 2 ^ k ∧ 2 ^ k ≤ 256 := by
  have h1 : 2 ^ k ≤ 2 ^ 8 := Nat.pow_le_pow_right (by decide) h
  exact ⟨Nat.one_le_two_pow, by omega⟩
theorem shr_n {X k : Nat} {i : Int} (hi : i = (k : Int)) (hk : k ≤ 64) : ((X : Nat) : Int) / 2 ^ (min i.toNat IntKind.u64.bits) = ((X / 2 ^ k : Nat) : Int) := by
  rw [show min i.toNat IntKind.u64.bits = k from by show min _ 64 = _; omega, cpow, Int.natCast_ediv]
theorem shl_n {X k : Nat} {i : Int} (hi : i = (k : Int)) (hk : k ≤ 64) (h : X * 2 ^ k < 18446744073709551616) : IntKind.u64.wrap (((X : Nat) : Int) * 2 ^ (min i.toNat IntKind.u64.bits)) = ((X * 2 ^ k : Nat) : Int) := by
  rw [show min i.toNat IntKind.u64.bits = k from by show min _ 64 = _; omega, cpow, ← Int.natCast_mul]
  exact wu64 (by omega) (by omega)
theorem shl_one {k : Nat} {i : Int} (hi : i = (k : Int)) (hk : k < 64) : IntKind.u64.wrap (1 * 2 ^ (min i.toNat IntKind.u64.bits)) = ((2 ^ k : Nat) : Int) := by
  have h : 2 ^ k ≤ 2 ^ 63 := Nat.pow_le_pow_right (by decide) (by omega)
  have := shl_n (X := 1) hi (by omega) (by omega)
  simpa using this
theorem and_mask {X k : Nat} (hX : X < 18446744073709551616) (hk : k < 64) : IntKind.u64.wrap ((((((X : Nat) : Int) % 2 ^ IntKind.u64.bits).toNat &&& ((((2 ^ k : Nat) : Int) - 1) % 2 ^ IntKind.u64.bits).toNat : Nat)) : Int) = ((X % 2 ^ k : Nat) : Int) := by
  have h : 2 ^ k ≤ 2 ^ 63 := Nat.pow_le_pow_right (by decide) (by omega)
  have h1 : 1 ≤ 2 ^ k := Nat.one_le_two_pow
  rw [bits64, show (((X : Nat) : Int) % 18446744073709551616).toNat = X from by omega, show ((((2 ^ k : Nat) : Int) - 1) % 18446744073709551616).toNat = 2 ^ k - 1 from by omega, Nat.and_two_pow_sub_one_eq_mod]
  have h2 : X % 2 ^ k ≤ X := Nat.mod_le _ _
  exact wu64 (by omega) (by omega)
theorem or_add {A X g : Nat} (hA : A < 2 ^ g) (h : A + X * 2 ^ g < 18446744073709551616) : IntKind.u64.wrap ((((((A : Nat) : Int) % 2 ^ IntKind.u64.bits).toNat ||| (((X * 2 ^ g : Nat) : Int) % 2 ^ IntKind.u64.bits).toNat : Nat)) : Int) = ((A + X * 2 ^ g : Nat) : Int) := by
  rw [bits64, show (((A : Nat) : Int) % 18446744073709551616).toNat = A from by omega, show (((X * 2 ^ g : Nat) : Int) % 18446744073709551616).toNat = X * 2 ^ g from by omega]
  have e : A ||| X * 2 ^ g = A + X * 2 ^ g := by
    have := Nat.shiftLeft_add_eq_or_of_lt hA X
    rw [Nat.shiftLeft_eq] at this
    rw [Nat.or_comm, ← this, Nat.add_comm]
  rw [e]
  exact wu64 (by omega) (by omega)
theorem byte_bits {W p k : Nat} (h : p % 8 + k ≤ 8) : W / 256 ^ (p / 8) % 256 / 2 ^ (p % 8) % 2 ^ k = W / 2 ^ p % 2 ^ k := by
  have e : (256 : Nat) = 2 ^ (p % 8) * 2 ^ (8 - p % 8) := by rw [← Nat.pow_add, show p % 8 + (8 - p % 8) = 8 from by omega]
  rw [p256]
  conv => lhs; rw [e, Nat.mod_mul_right_div_self, Nat.div_div_eq_div_mul, ← Nat.pow_add, show 8 * (p / 8) + p % 8 = p from by omega]
  exact Nat.mod_mod_of_dvd _ (Nat.pow_dvd_pow 2 (by omega))
theorem bits_join (W a g k : Nat) : W / 2 ^ a % 2 ^ g + W / 2 ^ (a + g) % 2 ^ k * 2 ^ g = W / 2 ^ a % 2 ^ (g + k) := by
  rw [Nat.pow_add 2 g k, Nat.mod_mul, Nat.div_div_eq_div_mul, ← Nat.pow_add, Nat.mul_comm (2 ^ g)]
theorem md_lt (X k : Nat) : X % 2 ^ k < 2 ^ k := Nat.mod_lt _ (Nat.pow_pos (by decide))
theorem mul_lt64 {X k g : Nat} (h : g + k ≤ 64) (hX : X < 2 ^ k) : X * 2 ^ g < 18446744073709551616 := by
  have h1 : X * 2 ^ g < 2 ^ k * 2 ^ g := Nat.mul_lt_mul_of_pos_right hX (Nat.pow_pos (by decide))
  rw [← Nat.pow_add] at h1
  have h2 : 2 ^ (k + g) ≤ 2 ^ 64 := Nat.pow_le_pow_right (by decide) (by omega)
  omega
theorem lt64 {X k : Nat} (h : k ≤ 64) (hX : X < 2 ^ k) : X < 18446744073709551616 := by
  have := mul_lt64 (g := 0) (by omega) hX
  simpa using this
theorem blk3 {w : World} {b : Nat} {x y : Value} {k : IntKind} {v v' : Int} (h : Blk w b [x, y, .int k v]) (e : v = v') : Blk w b [x, y, .int k v'] := e ▸ h
theorem blkI {w : World} {b : Nat} {k : IntKind} {v v' : Int} (h : Blk w b [.int k v]) (e : v = v') : Blk w b [.int k v'] := e ▸ h
end Go.Proofs.Ytilegaokfamfnaa
