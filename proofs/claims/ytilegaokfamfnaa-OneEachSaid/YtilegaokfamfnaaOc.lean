/-
  Layer 17: bits in a row.
-/
import Derived.Test.YtilegaokfamfnaaOb
set_option linter.unusedVariables false
namespace Go.Proofs.Ytilegaokfamfnaa
open Go.Fw

theorem encB_one (x : Bool) : ∀ u ∈ encB x, u.oneCell' = true := by
  intro u hu
  simp only [encB, List.mem_cons, List.not_mem_nil, or_false] at hu
  subst hu; rfl
def bl (V n : Nat) : List Bool := tabn n fun i => decide (V / 2 ^ i % 2 = 1)
theorem bl_len (V n : Nat) : (bl V n).length = n := tabn_len _ _
theorem bl_get {V n i : Nat} (h : i < n) : (bl V n).getD i false = decide (V / 2 ^ i % 2 = 1) := tabn_get _ _ h
theorem bl_succ (V n : Nat) : bl V (n + 1) = bl V n ++ [decide (V / 2 ^ n % 2 = 1)] := tabn_succ _ _
theorem bl_zero (V : Nat) : bl V 0 = [] := rfl
theorem bl_congr {V V' n : Nat} (h : ∀ i, i < n → V / 2 ^ i % 2 = V' / 2 ^ i % 2) : bl V n = bl V' n := tabn_congr fun i hi => by rw [h i hi]
theorem bl_app (V p : Nat) : ∀ q, bl V p ++ bl (V / 2 ^ p) q = bl V (p + q)
  | 0 => by rw [bl_zero, List.append_nil]; rfl
  | q + 1 => by
    rw [bl_succ, ← List.append_assoc, bl_app V p q, show p + (q + 1) = (p + q) + 1 from rfl, bl_succ, Nat.div_div_eq_div_mul, ← Nat.pow_add]
theorem bit_mod {V n i : Nat} (h : i < n) : V % 2 ^ n / 2 ^ i % 2 = V / 2 ^ i % 2 := by
  have e : 2 ^ n = 2 ^ i * 2 ^ (n - i) := by rw [← Nat.pow_add]; congr 1; omega
  rw [e, Nat.mod_mul_right_div_self]
  exact Nat.mod_mod_of_dvd _ ⟨2 ^ (n - i - 1), by rw [← Nat.pow_succ']; congr 1; omega⟩
theorem bl_mod (V n : Nat) : bl (V % 2 ^ n) n = bl V n := bl_congr fun i hi => bit_mod hi
theorem bl_take {V n k : Nat} (h : k ≤ n) : (bl V n).take k = bl V k := by
  unfold bl tabn
  rw [← List.map_take, List.take_range, show min k n = k from by omega]
theorem bl_enc {V x L k : Nat} (hV : V < 2 ^ L) : bl V L ++ bl x k = bl (V + x * 2 ^ L) (L + k) := by
  rw [← bl_app]
  congr 1
  · rw [← bl_mod, ← bl_mod (V + x * 2 ^ L), Nat.add_mul_mod_self_right]
  · rw [Nat.add_mul_div_right _ _ (Nat.pow_pos (by decide)), Nat.div_eq_of_lt hV, Nat.zero_add]
theorem bl_close {V L : Nat} (hV : V < 2 ^ L) : bl V L ++ [true] = bl (V + 2 ^ L) (L + 1) := by
  have := bl_enc (x := 1) (k := 1) hV
  rw [Nat.one_mul] at this
  rw [← this]; rfl
theorem bl_byte {b : List Int} (h : Byt b) {k : Nat} (hk : k < b.length) : bl (wn b) (8 * k) ++ bl (b.getD k 0).toNat 8 = bl (wn b) (8 * (k + 1)) := by
  rw [show 8 * (k + 1) = 8 * k + 8 from by omega, ← bl_app, wn_get h hk, Int.toNat_natCast, p256]
  congr 1
  exact bl_mod (wn b / 2 ^ (8 * k)) 8
/-! ### bytes of bits -/
theorem bt_pow : ∀ q : Nat, q < 8 → ([1, 2, 4, 8, 16, 32, 64, 128] : List Int).getD q 0 = ((2 ^ q : Nat) : Int) := by decide
theorem mod_bit (V i : Nat) : V % 2 ^ (i + 1) = V % 2 ^ i + V / 2 ^ i % 2 * 2 ^ i := by
  rw [Nat.pow_succ, Nat.mod_mul, Nat.mul_comm (2 ^ i)]
theorem ub_pad {V i : Nat} (h : i % 8 = 0) : ub (V % 2 ^ i) (i / 8) ++ [0] = ub (V % 2 ^ i) (i / 8 + 1) := by
  rw [show ub (V % 2 ^ i) (i / 8 + 1) = ub (V % 2 ^ i) (i / 8) ++ [((V % 2 ^ i / 256 ^ (i / 8) % 256 : Nat) : Int)] from tabn_succ _ _, p256, show 8 * (i / 8) = i from by omega, Nat.div_eq_of_lt (Nat.mod_lt _ (Nat.pow_pos (by decide)))]
  rfl
theorem ub_bit {V i m : Nat} (hm : m = i / 8 + 1) (hb : V / 2 ^ i % 2 = 1) : (ub (V % 2 ^ i) m).set (i / 8) ((V % 2 ^ i / 256 ^ (i / 8) % 256 : Nat) + (2 ^ (i % 8) : Nat) : Int) = ub (V % 2 ^ (i + 1)) m := by
  unfold ub
  refine tabn_set _ _ (by omega) _ fun j hj => ?_
  have hlt : V % 2 ^ i < 2 ^ i := Nat.mod_lt _ (Nat.pow_pos (by decide))
  rw [mod_bit, hb, Nat.one_mul]
  by_cases hji : j = i / 8
  · subst hji
    rw [if_pos rfl, p256]
    have e : 2 ^ i = 2 ^ (8 * (i / 8)) * 2 ^ (i % 8) := by rw [← Nat.pow_add]; congr 1; omega
    have h1 : V % 2 ^ i / 2 ^ (8 * (i / 8)) < 2 ^ (i % 8) := by
      rw [Nat.div_lt_iff_lt_mul (Nat.pow_pos (by decide)), Nat.mul_comm, ← e]; exact hlt
    have h3 : (V % 2 ^ i + 2 ^ i) / 2 ^ (8 * (i / 8)) = V % 2 ^ i / 2 ^ (8 * (i / 8)) + 2 ^ (i % 8) := by
      conv => lhs; rw [show V % 2 ^ i + 2 ^ i = V % 2 ^ i + 2 ^ (8 * (i / 8)) * 2 ^ (i % 8) from by rw [← e]]
      exact Nat.add_mul_div_left _ _ (Nat.pow_pos (by decide))
    have h2 : 2 ^ (i % 8 + 1) ≤ 2 ^ 8 := Nat.pow_le_pow_right (by decide) (by omega)
    rw [Nat.pow_succ] at h2
    have h4 : V % 2 ^ i / 2 ^ (8 * (i / 8)) % 256 = V % 2 ^ i / 2 ^ (8 * (i / 8)) := Nat.mod_eq_of_lt (by omega)
    have h5 : (V % 2 ^ i / 2 ^ (8 * (i / 8)) + 2 ^ (i % 8)) % 256 = V % 2 ^ i / 2 ^ (8 * (i / 8)) + 2 ^ (i % 8) := Nat.mod_eq_of_lt (by omega)
    rw [h3, h5, h4]
    exact Int.natCast_add _ _
  · rw [if_neg hji]
    have e : 2 ^ i = 256 ^ j * (256 * 2 ^ (i - 8 * j - 8)) := by
      rw [← Nat.mul_assoc, ← Nat.pow_succ, p256, ← Nat.pow_add]; congr 1; omega
    have h3 : (V % 2 ^ i + 2 ^ i) / 256 ^ j = V % 2 ^ i / 256 ^ j + 256 * 2 ^ (i - 8 * j - 8) := by
      conv => lhs; rw [show V % 2 ^ i + 2 ^ i = V % 2 ^ i + 256 ^ j * (256 * 2 ^ (i - 8 * j - 8)) from by rw [← e]]
      exact Nat.add_mul_div_left _ _ (Nat.pow_pos (by decide))
    rw [h3, Nat.add_mul_mod_self_left]
theorem ub_nobit {V i : Nat} (hb : ¬ V / 2 ^ i % 2 = 1) : V % 2 ^ (i + 1) = V % 2 ^ i := by
  rw [mod_bit, show V / 2 ^ i % 2 = 0 from by omega]; omega
/-! ### the last set bit; windows -/
theorem top_bit {W q : Nat} (h : W < 2 ^ q) (hq : 0 < q) (hb : W / 2 ^ (q - 1) % 2 = 1) : 2 ^ (q - 1) ≤ W := by
  rcases Nat.lt_or_ge W (2 ^ (q - 1)) with h1 | h1
  · rw [Nat.div_eq_of_lt h1] at hb; omega
  · exact h1
theorem no_bit {W q : Nat} (h : W < 2 ^ q) (hq : 0 < q) (hb : ¬ W / 2 ^ (q - 1) % 2 = 1) : W < 2 ^ (q - 1) := by
  rcases Nat.lt_or_ge W (2 ^ (q - 1)) with h1 | h1
  · exact h1
  · have e : 2 ^ q = 2 ^ (q - 1) * 2 := by rw [← Nat.pow_succ]; congr 1; omega
    have h2 : 1 ≤ W / 2 ^ (q - 1) := (Nat.le_div_iff_mul_le (Nat.pow_pos (by decide))).2 (by omega)
    have h3 : W / 2 ^ (q - 1) < 2 := (Nat.div_lt_iff_lt_mul (Nat.pow_pos (by decide))).2 (by omega)
    omega
theorem wd_succ {W t i : Nat} (h : i < t) : wd W t (i + 1) = 2 * wd W t i + W / 2 ^ (t - 1 - i) % 2 := by
  unfold wd
  have e : W / 2 ^ (t - i) = W / 2 ^ (t - 1 - i) / 2 := by
    rw [Nat.div_div_eq_div_mul, ← Nat.pow_succ]; congr 2; omega
  rw [e, show t - (i + 1) = t - 1 - i from by omega, Nat.pow_succ, Nat.mul_comm (2 ^ i), Nat.mod_mul]; omega
end Go.Proofs.Ytilegaokfamfnaa
