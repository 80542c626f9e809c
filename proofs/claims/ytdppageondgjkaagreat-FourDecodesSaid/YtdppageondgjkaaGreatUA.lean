/-
  Several texts of this project, put together.
-/
import Derived.Test.YtdppageondgjkaaGreatFA
set_option maxRecDepth 100000
namespace Go.Proofs.YtdppageondgjkaaGreat.Nu
def vb : Nat → Int → List Int
  | 0, _ => []
  | f + 1, n => if n < 128 then [n] else (n % 128 + 128) :: vb f (n / 128)
def vi (n : Int) : List Int := vb 10 n
def word (n : Int) : List Int := [n % 256, n / 256 % 256, n / 65536 % 256, n / 16777216]
theorem vb_small {f : Nat} {m : Int} (h : m < 128) : vb (f + 1) m = [m] := by simp [vb, h]
theorem vb_big {f : Nat} {m : Int} (h : 128 ≤ m) : vb (f + 1) m = (m % 128 + 128) :: vb f (m / 128) := by
  have : ¬ m < 128 := by omega
  simp [vb, this]
theorem pow_step {f : Nat} {m : Int} (h : m < 128 ^ (f + 1)) : m / 128 < 128 ^ f := by
  rw [Int.pow_succ] at h
  omega
theorem vb_len : ∀ (f : Nat) (n : Int), (vb f n).length ≤ f
  | 0, _ => by simp [vb]
  | f + 1, n => by
    simp only [vb]
    split
    · simp
    have := vb_len f (n / 128); simp; omega
theorem vi_len (n : Int) : (vi n).length ≤ 10 := vb_len 10 n
theorem or128N : ∀ x : Nat, x < 256 → x ||| 128 = x % 128 + 128 := by decide +kernel
theorem or128 {x : Int} : IntKind.u8.wrap (((x % 256 % 2 ^ IntKind.u8.bits).toNat ||| (128 % 2 ^ IntKind.u8.bits : Int).toNat : Nat) : Int) = x % 128 + 128 := by
  have e : (2 ^ IntKind.u8.bits : Int) = 256 := by decide
  rw [e]
  have e2 : (128 % 256 : Int).toNat = 128 := by decide
  rw [e2, or128N _ (by omega), Fw.wu8 (by omega) (by omega)]
  omega
theorem drop_getD {l : List Int} {k : Nat} {x : Int} {r : List Int} (h : l.drop k = x :: r) : l.getD k 0 = x ∧ l.drop (k + 1) = r ∧ k < l.length := by
  have hk : k < l.length := by
    rcases Nat.lt_or_ge k l.length with h1 | h1
    · exact h1
    rw [List.drop_eq_nil_of_le h1] at h; cases h
  rw [List.drop_eq_getElem_cons hk] at h
  simp only [List.cons.injEq] at h
  refine ⟨?_, h.2, hk⟩
  rw [List.getD_eq_getElem?_getD, List.getElem?_eq_getElem hk]
  exact h.1
theorem drop_last {l : List Int} {k : Nat} {x : Int} (h : l.drop k = [x]) : l.length = k + 1 := by
  obtain ⟨_, h2, h3⟩ := drop_getD h
  have := List.length_drop (i := k + 1) (l := l)
  rw [h2] at this
  simp at this
  omega
theorem take_getD {l : List Int} {i : Nat} (h : i < l.length) : l.take (i + 1) = l.take i ++ [l.getD i 0] := by
  rw [List.take_succ_eq_append_getElem h, List.getD_eq_getElem?_getD, List.getElem?_eq_getElem h]; rfl
theorem drop_all {l : List Int} {p n : Nat} (h : l.length = n) : (l.drop p).take (n - p) = l.drop p := List.take_of_length_le (by simp; omega)
theorem gd_drop {l : List Int} {p i : Nat} : (l.drop p).getD i 0 = l.getD (p + i) 0 := by simp [List.getD_eq_getElem?_getD]
theorem gd_take {l : List Int} {k i : Nat} (h : i < k) : (l.take k).getD i 0 = l.getD i 0 := by simp [List.getD_eq_getElem?_getD, h]
theorem byt_gd {l : List Int} (h : Fw.Byt l) (i : Nat) : 0 ≤ l.getD i 0 ∧ l.getD i 0 < 256 := by
  rw [List.getD_eq_getElem?_getD]
  rcases Nat.lt_or_ge i l.length with h1 | h1
  · rw [List.getElem?_eq_getElem h1]; exact h _ (List.getElem_mem _)
  rw [List.getElem?_eq_none h1]; simp
theorem byt_take {l : List Int} (h : Fw.Byt l) (k : Nat) : Fw.Byt (l.take k) := fun x hx => h x (List.mem_of_mem_take hx)
theorem byt_drop {l : List Int} (h : Fw.Byt l) (k : Nat) : Fw.Byt (l.drop k) := fun x hx => h x (List.mem_of_mem_drop hx)
theorem drop_cons {l : List Int} {j : Nat} (h : j < l.length) : l.drop j = l.getD j 0 :: l.drop (j + 1) := by
  rw [List.drop_eq_getElem_cons h, List.getD_eq_getElem?_getD, List.getElem?_eq_getElem h]; rfl
def val : List Int → Int
  | [] => 0
  | x :: xs => x % 128 + 128 * val xs
def run : Nat → List Int → Nat
  | 0, _ => 0
  | _ + 1, [] => 0
  | f + 1, x :: xs => if 128 ≤ x then run f xs + 1 else 0
theorem val_bound : ∀ l : List Int, 0 ≤ val l ∧ val l < 128 ^ l.length
  | [] => by simp [val]
  | x :: xs => by
    have h1 := val_bound xs
    simp only [val, List.length_cons, Int.pow_succ]
    omega
theorem val_snoc : ∀ (l : List Int) (x : Int), val (l ++ [x]) = val l + x % 128 * 128 ^ l.length
  | [], x => by simp [val]
  | y :: ys, x => by
    have h := val_snoc ys x
    simp only [List.cons_append, val, h, List.length_cons, Int.pow_succ, Int.mul_add]
    rw [show x % 128 * (128 ^ ys.length * 128) = 128 * (x % 128 * 128 ^ ys.length) from by rw [← Int.mul_assoc, Int.mul_comm]]
    omega
theorem run_eq : ∀ (f k : Nat) (l : List Int), k ≤ f → k ≤ l.length → (∀ i, i < k → 128 ≤ l.getD i 0) → (k = f ∨ k = l.length ∨ l.getD k 0 < 128) → run f l = k
  | 0, k, l, h, _, _, _ => by simp [run]; omega
  | f + 1, k, [], _, h, _, _ => by simp at h; simp [run, h]
  | f + 1, 0, x :: xs, _, _, _, h => by
    simp at h
    simp [run]; omega
  | f + 1, k + 1, x :: xs, h1, h2, h3, h4 => by
    have hx := h3 0 (by omega)
    simp at hx
    have := run_eq f k xs (by omega) (by simpa using h2) (fun i hi => by simpa using h3 (i + 1) (by omega)) (by simpa using h4)
    simp [run, hx, this]
theorem run_le : ∀ (f : Nat) (l : List Int), run f l ≤ f ∧ run f l ≤ l.length
  | 0, l => by simp [run]
  | f + 1, [] => by simp [run]
  | f + 1, x :: xs => by
    have := run_le f xs
    simp only [run]
    split <;> simp <;> omega
def gbyte (bs : List Int) (p : Nat) : Int × Nat × Int := if p < bs.length then (bs.getD p 0, p + 1, 0) else (0, p, 3)
def gbytes (bs : List Int) (p : Nat) (k : Int) : List Int × Nat × Int := if k < 0 then ([], p, 2) else if bs.length - p < k then ([], p, 3) else ((bs.drop p).take k.toNat, p + k.toNat, 0)
def gvar (bs : List Int) (p : Nat) : Int × Nat × Int :=
  let r := bs.drop p
  let k := run 9 r
  if k = 9 then (0, p, 18) else if r.length ≤ k then (0, p, 3) else if 0 < k ∧ r.getD k 0 = 0 then (0, p, 5) else
  if 4611686018427387903 < val (r.take (k + 1)) then (0, p, 18) else (val (r.take (k + 1)), p + k + 1, 0)
def gnum (bs : List Int) (p : Nat) (most : Int) : Int × Nat × Int :=
  if (gvar bs p).2.2 ≠ 0 then (0, p, (gvar bs p).2.2) else if max most 0 < (gvar bs p).1 then (0, p, 18) else gvar bs p
theorem gvar_props (bs : List Int) (p : Nat) (hp : p ≤ bs.length) : 0 ≤ (gvar bs p).1 ∧ (gvar bs p).1 ≤ 4611686018427387903 ∧ (gvar bs p).2.1 ≤ bs.length ∧ p ≤ (gvar bs p).2.1 ∧ 0 ≤ (gvar bs p).2.2 ∧ (gvar bs p).2.2 ≤ 18 ∧ ((gvar bs p).2.2 ≠ 0 → (gvar bs p).1 = 0 ∧ (gvar bs p).2.1 = p) := by
  have h1 := run_le 9 (bs.drop p)
  have h2 := val_bound ((bs.drop p).take (run 9 (bs.drop p) + 1))
  have h3 : (bs.drop p).length = bs.length - p := List.length_drop
  simp only [gvar]
  split
  · exact ⟨by simp, by simp, hp, Nat.le_refl _, by simp, by simp, fun _ => ⟨rfl, rfl⟩⟩
  split
  · exact ⟨by simp, by simp, hp, Nat.le_refl _, by simp, by simp, fun _ => ⟨rfl, rfl⟩⟩
  split
  · exact ⟨by simp, by simp, hp, Nat.le_refl _, by simp, by simp, fun _ => ⟨rfl, rfl⟩⟩
  split
  · exact ⟨by simp, by simp, hp, Nat.le_refl _, by simp, by simp, fun _ => ⟨rfl, rfl⟩⟩
  rename_i a1 a2 a3 a4
  exact ⟨h2.1, by show _ ≤ _; omega, by show p + _ + 1 ≤ _; omega, by show p ≤ p + _ + 1; omega, by simp, by simp, fun h => absurd rfl h⟩
theorem gvar_run {bs : List Int} {p k : Nat} (hp : p + k ≤ bs.length) (hk : k ≤ 9) (hall : ∀ i, i < k → 128 ≤ bs.getD (p + i) 0) (he : k = 9 ∨ p + k = bs.length ∨ bs.getD (p + k) 0 < 128) : run 9 (bs.drop p) = k :=
  run_eq 9 k _ hk (by rw [List.length_drop]; omega) (fun i hi => by rw [gd_drop]; exact hall i hi) (by rw [gd_drop, List.length_drop]; omega)
theorem gvar_long {bs : List Int} {p k : Nat} (hp : p + k ≤ bs.length) (hk : k ≤ 9) (hall : ∀ i, i < k → 128 ≤ bs.getD (p + i) 0) (he : k = 9) : gvar bs p = (0, p, 18) := by
  have := gvar_run hp hk hall (.inl he)
  simp [gvar, this, he]
theorem gvar_short {bs : List Int} {p k : Nat} (hp : p + k = bs.length) (hk : k < 9) (hall : ∀ i, i < k → 128 ≤ bs.getD (p + i) 0) : gvar bs p = (0, p, 3) := by
  have := gvar_run (by omega) (by omega) hall (.inr (.inl hp))
  have h2 : ¬ k = 9 := by omega
  have h3 : bs.length - p ≤ k := by omega
  simp [gvar, this, h2, h3]
theorem gvar_min {bs : List Int} {p k : Nat} (hp : p + k < bs.length) (hk : k < 9) (hall : ∀ i, i < k → 128 ≤ bs.getD (p + i) 0) (h0 : 0 < k) (hz : bs.getD (p + k) 0 = 0) : gvar bs p = (0, p, 5) := by
  have := gvar_run (by omega) (by omega) hall (.inr (.inr (by omega)))
  have h2 : ¬ k = 9 := by omega
  have h3 : ¬ bs.length - p ≤ k := by omega
  simp only [gvar, this, List.length_drop, gd_drop, h2, h3, if_false]
  rw [if_pos ⟨h0, hz⟩]
theorem gvar_else {bs : List Int} {p k : Nat} (hp : p + k < bs.length) (hk : k < 9) (hall : ∀ i, i < k → 128 ≤ bs.getD (p + i) 0) (hx : bs.getD (p + k) 0 < 128) (hz : ¬ (0 < k ∧ bs.getD (p + k) 0 = 0)) :
    gvar bs p = if 4611686018427387903 < val ((bs.drop p).take (k + 1)) then (0, p, 18) else (val ((bs.drop p).take (k + 1)), p + k + 1, 0) := by
  have := gvar_run (by omega) (by omega) hall (.inr (.inr hx))
  have h2 : ¬ k = 9 := by omega
  have h3 : ¬ bs.length - p ≤ k := by omega
  simp only [gvar, this, List.length_drop, gd_drop, h2, h3, if_false]
  rw [if_neg hz]
theorem val_round {bs : List Int} {p k j : Nat} (hp : p + k < bs.length) (hj : j ≤ k) : val (((bs.drop p).take (k + 1)).drop j) = bs.getD (p + j) 0 % 128 + 128 * val (((bs.drop p).take (k + 1)).drop (j + 1)) := by
  rw [drop_cons (by rw [List.length_take, List.length_drop]; omega), gd_take (by omega), gd_drop]; rfl
theorem pow_mono {b m n : Nat} (h : m ≤ n) (hb : 0 < b := by decide) : (b : Int) ^ m ≤ (b : Int) ^ n := by
  rw [← Int.natCast_pow, ← Int.natCast_pow]
  exact Int.ofNat_le.2 (Nat.pow_le_pow_right hb h)
theorem val_fit {l : List Int} (h : l.length ≤ 9) : 0 ≤ val l ∧ val l < 9223372036854775808 := by
  have := val_bound l
  have h2 : (128 : Int) ^ l.length ≤ 128 ^ 9 := pow_mono h
  omega
theorem val_end {bs : List Int} {p k : Nat} : val (((bs.drop p).take (k + 1)).drop (k + 1)) = 0 := by
  rw [List.drop_eq_nil_of_le (by rw [List.length_take]; omega)]; rfl
theorem val_next {bs : List Int} {p k j : Nat} (hp : p + k < bs.length) (h0 : 0 < j) (hj : j ≤ k + 1) (hk : k < 9) : val (((bs.drop p).take (k + 1)).drop (j - 1)) = bs.getD (p + (j - 1)) 0 % 128 + 128 * val (((bs.drop p).take (k + 1)).drop j) ∧
    val (((bs.drop p).take (k + 1)).drop (j - 1)) < 9223372036854775808 ∧ 0 ≤ val (((bs.drop p).take (k + 1)).drop j) := by
  have h := val_round (j := j - 1) hp (by omega)
  rw [show j - 1 + 1 = j from by omega] at h
  exact ⟨h, (val_fit (by rw [List.length_drop, List.length_take]; omega)).2, (val_bound _).1⟩
theorem gbytes_neg {bs : List Int} {p : Nat} {k : Int} (h : k < 0) : gbytes bs p k = ([], p, 2) := by simp [gbytes, h]
theorem gbytes_long {bs : List Int} {p : Nat} {k : Int} (h : 0 ≤ k) (h2 : bs.length - p < k) : gbytes bs p k = ([], p, 3) := by
  rw [gbytes, if_neg (by omega), if_pos h2]
theorem gbytes_ok {bs : List Int} {p : Nat} {k : Int} (h : 0 ≤ k) (h2 : k ≤ bs.length - p) : gbytes bs p k = ((bs.drop p).take k.toNat, p + k.toNat, 0) := by
  rw [gbytes, if_neg (by omega), if_neg (by omega)]
theorem gnum_err {bs : List Int} {p : Nat} {most : Int} (h : (gvar bs p).2.2 ≠ 0) : gnum bs p most = (0, p, (gvar bs p).2.2) := by simp [gnum, h]
theorem gnum_lim {bs : List Int} {p : Nat} {most : Int} (h : (gvar bs p).2.2 = 0) (h2 : max most 0 < (gvar bs p).1) : gnum bs p most = (0, p, 18) := by simp [gnum, h, h2]
theorem gnum_ok {bs : List Int} {p : Nat} {most : Int} (h : (gvar bs p).2.2 = 0) (h2 : ¬ max most 0 < (gvar bs p).1) : gnum bs p most = gvar bs p := by
  rw [gnum, if_neg (by simp [h]), if_neg h2]
open Go.Fw
theorem or_low {k : IntKind} {a x : Nat} {v : Nat} (hx : x < 2 ^ a) (hv : 2 ^ a * v + x < 2 ^ k.bits) (hk : k.wrap ((2 ^ a * v + x : Nat) : Int) = ((2 ^ a * v + x : Nat) : Int)) :
    k.wrap (((((2 ^ a * v : Nat) : Int) % 2 ^ k.bits).toNat ||| (((x : Nat) : Int) % 2 ^ k.bits).toNat : Nat) : Int) = ((2 ^ a * v + x : Nat) : Int) := by
  have e1 : (((2 ^ a * v : Nat) : Int) % 2 ^ k.bits).toNat = 2 ^ a * v := by
    rw [show (2 : Int) ^ k.bits = ((2 ^ k.bits : Nat) : Int) from by simp, ← Int.natCast_emod, Int.toNat_natCast]
    exact Nat.mod_eq_of_lt (by omega)
  have e2 : (((x : Nat) : Int) % 2 ^ k.bits).toNat = x := by
    rw [show (2 : Int) ^ k.bits = ((2 ^ k.bits : Nat) : Int) from by simp, ← Int.natCast_emod, Int.toNat_natCast]
    exact Nat.mod_eq_of_lt (by omega)
  rw [e1, e2, ← Nat.two_pow_add_eq_or_of_lt hx, hk]
theorem and127N : ∀ x : Nat, x < 256 → x &&& 127 = x % 128 := by decide +kernel
theorem and127 {x : Int} : IntKind.u8.wrap (((x % 2 ^ IntKind.u8.bits).toNat &&& (127 % 2 ^ IntKind.u8.bits : Int).toNat : Nat) : Int) = x % 128 := by
  have e : (2 ^ IntKind.u8.bits : Int) = 256 := by decide
  rw [e]
  have e2 : (127 % 256 : Int).toNat = 127 := by decide
  rw [e2, and127N _ (by omega), wu8 (by omega) (by omega)]
  omega
theorem pow7 (i : Nat) : (128 : Int) ^ i = 2 ^ (7 * i) := by rw [Int.pow_mul]; rfl
theorem pow7c (i : Nat) : ((2 ^ (7 * i) : Nat) : Int) = 128 ^ i := by rw [pow7]; simp
theorem shl7 {x : Int} {i : Nat} (h0 : 0 ≤ x) (h1 : x < 128) (hi : i ≤ 8) : IntKind.u64.wrap (x * 2 ^ (min (7 * ((i : Nat) : Int)).toNat IntKind.u64.bits)) = x * 128 ^ i := by
  have e : min (7 * ((i : Nat) : Int)).toNat IntKind.u64.bits = 7 * i := by show min _ 64 = _; omega
  rw [e, ← pow7]
  have h2 : (128 : Int) ^ i ≤ 128 ^ 8 := pow_mono hi
  have h3 : (0 : Int) < 128 ^ i := Int.pow_pos (by decide)
  have h4 : x * 128 ^ i ≤ 127 * 128 ^ i := Int.mul_le_mul_of_nonneg_right (by omega) (by omega)
  exact wu64 (Int.mul_nonneg h0 (by omega)) (by omega)
theorem or7 {v x : Int} {i : Nat} (h0 : 0 ≤ v) (h1 : v < 128 ^ i) (h2 : 0 ≤ x) (h3 : x < 128) (hi : i ≤ 8) : IntKind.u64.wrap (((v % 2 ^ IntKind.u64.bits).toNat ||| ((x * 128 ^ i) % 2 ^ IntKind.u64.bits).toNat : Nat) : Int) = v + x * 128 ^ i := by
  have g2 : (128 : Int) ^ i ≤ 128 ^ 8 := pow_mono hi
  have g3 : (0 : Int) < 128 ^ i := Int.pow_pos (by decide)
  have g4 : x * 128 ^ i ≤ 127 * 128 ^ i := Int.mul_le_mul_of_nonneg_right (by omega) (by omega)
  have e1 : ((2 ^ (7 * i) * x.toNat : Nat) : Int) = x * 128 ^ i := by
    rw [Int.natCast_mul, pow7c, show ((x.toNat : Nat) : Int) = x from by omega, Int.mul_comm]
  have e2 : ((v.toNat : Nat) : Int) = v := by omega
  have hb : ((2 ^ (7 * i) * x.toNat + v.toNat : Nat) : Int) = v + x * 128 ^ i := by rw [Int.natCast_add, e1, e2, Int.add_comm]
  have h := or_low (k := .u64) (a := 7 * i) (x := v.toNat) (v := x.toNat) (by have := pow7c i; omega) (by show _ < 18446744073709551616; omega) (wu64 (by omega) (by omega))
  rw [hb, e1, e2, Nat.or_comm] at h
  exact h
theorem gbyte_err {bs : List Int} {p : Nat} (h : (gbyte bs p).2.2 ≠ 0) : (gbyte bs p).1 = 0 ∧ (gbyte bs p).2.1 = p := by
  unfold gbyte at h ⊢; split <;> simp_all
theorem gbytes_err {bs : List Int} {p : Nat} {k : Int} (h : (gbytes bs p k).2.2 ≠ 0) : (gbytes bs p k).1 = [] ∧ (gbytes bs p k).2.1 = p := by
  unfold gbytes at h ⊢; split
  · exact ⟨rfl, rfl⟩
  split
  · exact ⟨rfl, rfl⟩
  simp_all
theorem gbytes_props {bs : List Int} {p : Nat} {k : Int} (hp : p ≤ bs.length) : (gbytes bs p k).2.1 ≤ bs.length := by
  unfold gbytes; split
  · exact hp
  split
  · exact hp
  show p + k.toNat ≤ _; omega
theorem gnum_err' {bs : List Int} {p : Nat} {most : Int} (hp : p ≤ bs.length) (h : (gnum bs p most).2.2 ≠ 0) : (gnum bs p most).1 = 0 ∧ (gnum bs p most).2.1 = p := by
  unfold gnum at h ⊢
  split
  · exact ⟨rfl, rfl⟩
  split
  · exact ⟨rfl, rfl⟩
  rename_i h1 h2
  rw [if_neg h1, if_neg h2] at h
  exact absurd h h1
theorem gnum_props {bs : List Int} {p : Nat} {most : Int} (hp : p ≤ bs.length) : 0 ≤ (gnum bs p most).1 ∧ (gnum bs p most).1 ≤ 4611686018427387903 ∧ (gnum bs p most).2.1 ≤ bs.length := by
  have h := gvar_props bs p hp
  unfold gnum
  split
  · exact ⟨by simp, by simp, hp⟩
  split
  · exact ⟨by simp, by simp, hp⟩
  exact ⟨h.1, h.2.1, h.2.2.1⟩
theorem val_more {bs : List Int} {p k : Nat} (hp : p + k < bs.length) : val ((bs.drop p).take (k + 1)) = val ((bs.drop p).take k) + bs.getD (p + k) 0 % 128 * 128 ^ k := by
  rw [take_getD (by rw [List.length_drop]; omega), val_snoc, gd_drop, List.length_take, List.length_drop, Nat.min_eq_left (by omega)]
theorem val_take {bs : List Int} {p k : Nat} (hk : k ≤ 8) : 0 ≤ val ((bs.drop p).take k) ∧ val ((bs.drop p).take k) < 128 ^ k := by
  have h := val_bound ((bs.drop p).take k)
  have h2 : (128 : Int) ^ ((bs.drop p).take k).length ≤ 128 ^ k := pow_mono (by rw [List.length_take]; omega)
  omega
theorem gbyte_end {bs : List Int} {p : Nat} (h : ¬ p < bs.length) : gbyte bs p = (0, p, 3) := by simp [gbyte, h]
theorem gbyte_in {bs : List Int} {p : Nat} (h : p < bs.length) : gbyte bs p = (bs.getD p 0, p + 1, 0) := by simp [gbyte, h]
theorem gbytes_len2 {bs : List Int} {p : Nat} {k : Int} : (gbytes bs p k).1.length ≤ bs.length := by
  unfold gbytes; split
  · simp
  split
  · simp
  simp only [List.length_take, List.length_drop]; omega
end Go.Proofs.YtdppageondgjkaaGreat.Nu
