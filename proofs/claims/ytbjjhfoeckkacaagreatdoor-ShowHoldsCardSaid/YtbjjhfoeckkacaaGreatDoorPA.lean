/-
  Several texts of this project, put together.
-/
import Derived.Test.YtbjjhfoeckkacaaGreatDoorFA
set_option maxRecDepth 100000
set_option maxHeartbeats 16000000
namespace Go.Proofs.YtbjjhfoeckkacaaGreatDoor
def vb : Nat → Int → List Int
  | 0, _ => []
  | f + 1, n => if n < 128 then [n] else (n % 128 + 128) :: vb f (n / 128)
def vi (n : Int) : List Int := vb 10 n
def word (n : Int) : List Int := [n % 256, n / 256 % 256, n / 65536 % 256, n / 16777216]
theorem vb_small {f : Nat} {m : Int} (h : m < 128) : vb (f + 1) m = [m] := by simp [vb, h]
theorem vb_big {f : Nat} {m : Int} (h : 128 ≤ m) : vb (f + 1) m = (m % 128 + 128) :: vb f (m / 128) := by
  have : ¬ m < 128 := by omega
  simp [vb, this]
theorem pow_step {f : Nat} {m : Int} (h : m < 128 ^ (f + 1)) : m / 128 < 128 ^ f := by
  rw [Int.pow_succ] at h
  omega
theorem take_getD {l : List Int} {i : Nat} (h : i < l.length) : l.take (i + 1) = l.take i ++ [l.getD i 0] := by
  rw [List.take_succ_eq_append_getElem h, List.getD_eq_getElem?_getD, List.getElem?_eq_getElem h]; rfl
end Go.Proofs.YtbjjhfoeckkacaaGreatDoor
namespace Go.Proofs.YtbjjhfoeckkacaaGreatDoor
theorem gd_drop {l : List Int} {p i : Nat} : (l.drop p).getD i 0 = l.getD (p + i) 0 := by simp [List.getD_eq_getElem?_getD]
theorem gd_take {l : List Int} {k i : Nat} (h : i < k) : (l.take k).getD i 0 = l.getD i 0 := by simp [List.getD_eq_getElem?_getD, h]
theorem Yi {l : List Int} (h : Fw.Byt l) (i : Nat) : 0 ≤ l.getD i 0 ∧ l.getD i 0 < 256 := by
  rw [List.getD_eq_getElem?_getD]
  rcases Nat.lt_or_ge i l.length with h1 | h1
  · rw [List.getElem?_eq_getElem h1]; exact h _ (List.getElem_mem _)
  · rw [List.getElem?_eq_none h1]; simp
theorem ZU {l : List Int} (h : Fw.Byt l) (k : Nat) : Fw.Byt (l.take k) := fun x hx => h x (List.mem_of_mem_take hx)
theorem ZL {l : List Int} (h : Fw.Byt l) (k : Nat) : Fw.Byt (l.drop k) := fun x hx => h x (List.mem_of_mem_drop hx)
theorem Yq {l r : List Int} (h : Fw.Byt l) (h2 : Fw.Byt r) : Fw.Byt (l ++ r) := fun x hx => (List.mem_append.1 hx).elim (h x) (h2 x)
theorem drop_cons {l : List Int} {j : Nat} (h : j < l.length) : l.drop j = l.getD j 0 :: l.drop (j + 1) := by
  rw [List.drop_eq_getElem_cons h, List.getD_eq_getElem?_getD, List.getElem?_eq_getElem h]; rfl
def wval : List Int → Int
  | [] => 0
  | x :: xs => x + 256 * wval xs
def val : List Int → Int
  | [] => 0
  | x :: xs => x % 128 + 128 * val xs
def run : Nat → List Int → Nat
  | 0, _ => 0
  | _ + 1, [] => 0
  | f + 1, x :: xs => if 128 ≤ x then run f xs + 1 else 0
theorem wval_bound : ∀ l : List Int, Fw.Byt l → 0 ≤ wval l ∧ wval l < 256 ^ l.length
  | [], _ => by simp [wval]
  | x :: xs, h => by
    have h1 := wval_bound xs fun y hy => h y (List.mem_cons_of_mem _ hy)
    have h2 := h x List.mem_cons_self
    simp only [wval, List.length_cons, Int.pow_succ]
    omega
theorem val_bound : ∀ l : List Int, 0 ≤ val l ∧ val l < 128 ^ l.length
  | [] => by simp [val]
  | x :: xs => by
    have h1 := val_bound xs
    simp only [val, List.length_cons, Int.pow_succ]
    omega
theorem val_snoc : ∀ (l : List Int) (x : Int), val (l ++ [x]) = val l + x % 128 * 128 ^ l.length
  | [], x => by simp [val]
  | y :: ys, x => by
    have h := val_snoc ys x
    simp only [List.cons_append, val, h, List.length_cons, Int.pow_succ, Int.mul_add]
    rw [show x % 128 * (128 ^ ys.length * 128) = 128 * (x % 128 * 128 ^ ys.length) from by rw [← Int.mul_assoc, Int.mul_comm]]
    omega
theorem run_eq : ∀ (f k : Nat) (l : List Int), k ≤ f → k ≤ l.length → (∀ i, i < k → 128 ≤ l.getD i 0) → (k = f ∨ k = l.length ∨ l.getD k 0 < 128) → run f l = k
  | 0, k, l, h, _, _, _ => by simp [run]; omega
  | f + 1, k, [], _, h, _, _ => by simp at h; simp [run, h]
  | f + 1, 0, x :: xs, _, _, _, h => by
    simp at h
    simp [run]; omega
  | f + 1, k + 1, x :: xs, h1, h2, h3, h4 => by
    have hx := h3 0 (by omega)
    simp at hx
    have := run_eq f k xs (by omega) (by simpa using h2) (fun i hi => by simpa using h3 (i + 1) (by omega)) (by simpa using h4)
    simp [run, hx, this]
theorem run_le : ∀ (f : Nat) (l : List Int), run f l ≤ f ∧ run f l ≤ l.length
  | 0, l => by simp [run]
  | f + 1, [] => by simp [run]
  | f + 1, x :: xs => by
    have := run_le f xs
    simp only [run]
    split <;> simp <;> omega
def YJ (bs : List Int) (p : Nat) : Int × Nat × Int := if p < bs.length then (bs.getD p 0, p + 1, 0) else (0, p, 3)
def ZW (bs : List Int) (p : Nat) (k : Int) : List Int × Nat × Int := if k < 0 then ([], p, 2) else if bs.length - p < k then ([], p, 3) else ((bs.drop p).take k.toNat, p + k.toNat, 0)
def ZE (bs : List Int) (p : Nat) : Int × Nat × Int := if bs.length < p + 4 then (0, p, 3) else (wval ((bs.drop p).take 4), p + 4, 0)
def ZN (bs : List Int) (p : Nat) : Int × Nat × Int :=
  let r := bs.drop p
  let k := run 9 r
  if k = 9 then (0, p, 18) else if r.length ≤ k then (0, p, 3) else if 0 < k ∧ r.getD k 0 = 0 then (0, p, 5) else
  if 4611686018427387903 < val (r.take (k + 1)) then (0, p, 18) else (val (r.take (k + 1)), p + k + 1, 0)
def gnum (bs : List Int) (p : Nat) (most : Int) : Int × Nat × Int :=
  if (ZN bs p).2.2 ≠ 0 then (0, p, (ZN bs p).2.2) else if max most 0 < (ZN bs p).1 then (0, p, 18) else ZN bs p
theorem Yw (bs : List Int) (p : Nat) (hp : p ≤ bs.length) : 0 ≤ (ZN bs p).1 ∧ (ZN bs p).1 ≤ 4611686018427387903 ∧ (ZN bs p).2.1 ≤ bs.length ∧ p ≤ (ZN bs p).2.1 ∧ 0 ≤ (ZN bs p).2.2 ∧ (ZN bs p).2.2 ≤ 18 ∧ ((ZN bs p).2.2 ≠ 0 → (ZN bs p).1 = 0 ∧ (ZN bs p).2.1 = p) := by
  have h1 := run_le 9 (bs.drop p)
  have h2 := val_bound ((bs.drop p).take (run 9 (bs.drop p) + 1))
  have h3 : (bs.drop p).length = bs.length - p := List.length_drop
  simp only [ZN]
  split
  · exact ⟨by simp, by simp, hp, Nat.le_refl _, by simp, by simp, fun _ => ⟨rfl, rfl⟩⟩
  · split
    · exact ⟨by simp, by simp, hp, Nat.le_refl _, by simp, by simp, fun _ => ⟨rfl, rfl⟩⟩
    · split
      · exact ⟨by simp, by simp, hp, Nat.le_refl _, by simp, by simp, fun _ => ⟨rfl, rfl⟩⟩
      · split
        · exact ⟨by simp, by simp, hp, Nat.le_refl _, by simp, by simp, fun _ => ⟨rfl, rfl⟩⟩
        · rename_i a1 a2 a3 a4
          exact ⟨h2.1, by show _ ≤ _; omega, by show p + _ + 1 ≤ _; omega, by show p ≤ p + _ + 1; omega, by simp, by simp, fun h => absurd rfl h⟩
theorem gvar_run {bs : List Int} {p k : Nat} (hp : p + k ≤ bs.length) (hk : k ≤ 9) (hall : ∀ i, i < k → 128 ≤ bs.getD (p + i) 0) (he : k = 9 ∨ p + k = bs.length ∨ bs.getD (p + k) 0 < 128) : run 9 (bs.drop p) = k :=
  run_eq 9 k _ hk (by rw [List.length_drop]; omega) (fun i hi => by rw [gd_drop]; exact hall i hi) (by rw [gd_drop, List.length_drop]; omega)
theorem gvar_long {bs : List Int} {p k : Nat} (hp : p + k ≤ bs.length) (hk : k ≤ 9) (hall : ∀ i, i < k → 128 ≤ bs.getD (p + i) 0) (he : k = 9) : ZN bs p = (0, p, 18) := by
  have := gvar_run hp hk hall (.inl he)
  simp [ZN, this, he]
theorem gvar_short {bs : List Int} {p k : Nat} (hp : p + k = bs.length) (hk : k < 9) (hall : ∀ i, i < k → 128 ≤ bs.getD (p + i) 0) : ZN bs p = (0, p, 3) := by
  have := gvar_run (by omega) (by omega) hall (.inr (.inl hp))
  have h2 : ¬ k = 9 := by omega
  have h3 : bs.length - p ≤ k := by omega
  simp [ZN, this, h2, h3]
theorem gvar_min {bs : List Int} {p k : Nat} (hp : p + k < bs.length) (hk : k < 9) (hall : ∀ i, i < k → 128 ≤ bs.getD (p + i) 0) (h0 : 0 < k) (hz : bs.getD (p + k) 0 = 0) : ZN bs p = (0, p, 5) := by
  have := gvar_run (by omega) (by omega) hall (.inr (.inr (by omega)))
  have h2 : ¬ k = 9 := by omega
  have h3 : ¬ bs.length - p ≤ k := by omega
  simp only [ZN, this, List.length_drop, gd_drop, h2, h3, if_false]
  rw [if_pos ⟨h0, hz⟩]
theorem gvar_else {bs : List Int} {p k : Nat} (hp : p + k < bs.length) (hk : k < 9) (hall : ∀ i, i < k → 128 ≤ bs.getD (p + i) 0) (hx : bs.getD (p + k) 0 < 128) (hz : ¬ (0 < k ∧ bs.getD (p + k) 0 = 0)) :
    ZN bs p = if 4611686018427387903 < val ((bs.drop p).take (k + 1)) then (0, p, 18) else (val ((bs.drop p).take (k + 1)), p + k + 1, 0) := by
  have := gvar_run (by omega) (by omega) hall (.inr (.inr hx))
  have h2 : ¬ k = 9 := by omega
  have h3 : ¬ bs.length - p ≤ k := by omega
  simp only [ZN, this, List.length_drop, gd_drop, h2, h3, if_false]
  rw [if_neg hz]
theorem val_round {bs : List Int} {p k j : Nat} (hp : p + k < bs.length) (hj : j ≤ k) : val (((bs.drop p).take (k + 1)).drop j) = bs.getD (p + j) 0 % 128 + 128 * val (((bs.drop p).take (k + 1)).drop (j + 1)) := by
  rw [drop_cons (by rw [List.length_take, List.length_drop]; omega), gd_take (by omega), gd_drop]; rfl
theorem wval_round {bs : List Int} {p j : Nat} (hp : p + 4 ≤ bs.length) (hj : j < 4) : wval (((bs.drop p).take 4).drop j) = bs.getD (p + j) 0 + 256 * wval (((bs.drop p).take 4).drop (j + 1)) := by
  rw [drop_cons (by rw [List.length_take, List.length_drop]; omega), gd_take (by omega), gd_drop]; rfl
theorem pow_mono {b m n : Nat} (h : m ≤ n) (hb : 0 < b := by decide) : (b : Int) ^ m ≤ (b : Int) ^ n := by
  rw [← Int.natCast_pow, ← Int.natCast_pow]
  exact Int.ofNat_le.2 (Nat.pow_le_pow_right hb h)
theorem val_fit {l : List Int} (h : l.length ≤ 9) : 0 ≤ val l ∧ val l < 9223372036854775808 := by
  have := val_bound l
  have h2 : (128 : Int) ^ l.length ≤ 128 ^ 9 := pow_mono h
  omega
theorem wval_fit {l : List Int} (hb : Fw.Byt l) (h : l.length ≤ 4) : 0 ≤ wval l ∧ wval l < 4294967296 := by
  have := wval_bound l hb
  have h2 : (256 : Int) ^ l.length ≤ 256 ^ 4 := pow_mono h
  omega
theorem val_end {bs : List Int} {p k : Nat} : val (((bs.drop p).take (k + 1)).drop (k + 1)) = 0 := by
  rw [List.drop_eq_nil_of_le (by rw [List.length_take]; omega)]; rfl
theorem wval_end {bs : List Int} {p : Nat} : wval (((bs.drop p).take 4).drop 4) = 0 := by
  rw [List.drop_eq_nil_of_le (by rw [List.length_take]; omega)]; rfl
theorem val_next {bs : List Int} {p k j : Nat} (hp : p + k < bs.length) (h0 : 0 < j) (hj : j ≤ k + 1) (hk : k < 9) : val (((bs.drop p).take (k + 1)).drop (j - 1)) = bs.getD (p + (j - 1)) 0 % 128 + 128 * val (((bs.drop p).take (k + 1)).drop j) ∧
    val (((bs.drop p).take (k + 1)).drop (j - 1)) < 9223372036854775808 ∧ 0 ≤ val (((bs.drop p).take (k + 1)).drop j) := by
  have h := val_round (j := j - 1) hp (by omega)
  rw [show j - 1 + 1 = j from by omega] at h
  exact ⟨h, (val_fit (by rw [List.length_drop, List.length_take]; omega)).2, (val_bound _).1⟩
theorem wval_next {bs : List Int} {p j : Nat} (hb : Fw.Byt bs) (hp : p + 4 ≤ bs.length) (h0 : 0 < j) (hj : j ≤ 4) : wval (((bs.drop p).take 4).drop (j - 1)) = bs.getD (p + (j - 1)) 0 + 256 * wval (((bs.drop p).take 4).drop j) ∧
    wval (((bs.drop p).take 4).drop (j - 1)) < 4294967296 ∧ 0 ≤ wval (((bs.drop p).take 4).drop j) := by
  have h := wval_round (j := j - 1) hp (by omega)
  rw [show j - 1 + 1 = j from by omega] at h
  exact ⟨h, (wval_fit (ZL (ZU (ZL hb _) _) _) (by rw [List.length_drop, List.length_take]; omega)).2, (wval_bound _ (ZL (ZU (ZL hb _) _) _)).1⟩
theorem gbytes_neg {bs : List Int} {p : Nat} {k : Int} (h : k < 0) : ZW bs p k = ([], p, 2) := by simp [ZW, h]
theorem YP {bs : List Int} {p : Nat} {k : Int} (h : 0 ≤ k) (h2 : bs.length - p < k) : ZW bs p k = ([], p, 3) := by
  rw [ZW, if_neg (by omega), if_pos h2]
theorem YR {bs : List Int} {p : Nat} {k : Int} (h : 0 ≤ k) (h2 : k ≤ bs.length - p) : ZW bs p k = ((bs.drop p).take k.toNat, p + k.toNat, 0) := by
  rw [ZW, if_neg (by omega), if_neg (by omega)]
theorem gnum_err {bs : List Int} {p : Nat} {most : Int} (h : (ZN bs p).2.2 ≠ 0) : gnum bs p most = (0, p, (ZN bs p).2.2) := by simp [gnum, h]
theorem gnum_lim {bs : List Int} {p : Nat} {most : Int} (h : (ZN bs p).2.2 = 0) (h2 : max most 0 < (ZN bs p).1) : gnum bs p most = (0, p, 18) := by simp [gnum, h, h2]
theorem gnum_ok {bs : List Int} {p : Nat} {most : Int} (h : (ZN bs p).2.2 = 0) (h2 : ¬ max most 0 < (ZN bs p).1) : gnum bs p most = ZN bs p := by
  rw [gnum, if_neg (by simp [h]), if_neg h2]
end Go.Proofs.YtbjjhfoeckkacaaGreatDoor
namespace Go.Proofs.YtbjjhfoeckkacaaGreatDoor
open Go.Fw
theorem or_low {k : IntKind} {a x : Nat} {v : Nat} (hx : x < 2 ^ a) (hv : 2 ^ a * v + x < 2 ^ k.bits) (hk : k.wrap ((2 ^ a * v + x : Nat) : Int) = ((2 ^ a * v + x : Nat) : Int)) :
    k.wrap (((((2 ^ a * v : Nat) : Int) % 2 ^ k.bits).toNat ||| ((x : Int) % 2 ^ k.bits).toNat : Nat) : Int) = ((2 ^ a * v + x : Nat) : Int) := by
  have e1 : (((2 ^ a * v : Nat) : Int) % 2 ^ k.bits).toNat = 2 ^ a * v := by
    rw [show (2 : Int) ^ k.bits = ((2 ^ k.bits : Nat) : Int) from by simp, ← Int.natCast_emod, Int.toNat_natCast]
    exact Nat.mod_eq_of_lt (by omega)
  have e2 : ((x : Int) % 2 ^ k.bits).toNat = x := by
    rw [show (2 : Int) ^ k.bits = ((2 ^ k.bits : Nat) : Int) from by simp, ← Int.natCast_emod, Int.toNat_natCast]
    exact Nat.mod_eq_of_lt (by omega)
  rw [e1, e2, ← Nat.two_pow_add_eq_or_of_lt hx, hk]
theorem and127N : ∀ x : Nat, x < 256 → x &&& 127 = x % 128 := by decide +kernel
theorem and127 {x : Int} : IntKind.u8.wrap (((x % 2 ^ IntKind.u8.bits).toNat &&& (127 % 2 ^ IntKind.u8.bits : Int).toNat : Nat) : Int) = x % 128 := by
  have e : (2 ^ IntKind.u8.bits : Int) = 256 := by decide
  rw [e]
  have e2 : (127 % 256 : Int).toNat = 127 := by decide
  rw [e2, and127N _ (by omega), wu8 (by omega) (by omega)]
  omega
theorem shl8 {v : Int} (h0 : 0 ≤ v) (h1 : v < 16777216) : IntKind.u32.wrap (v * 2 ^ (min (8 : Int).toNat IntKind.u32.bits)) = 256 * v := by
  have e : (2 : Int) ^ (min (8 : Int).toNat IntKind.u32.bits) = 256 := by decide
  rw [e, wu32 (by omega) (by omega), Int.mul_comm]
theorem or8 {v x : Int} (h0 : 0 ≤ v) (h1 : v < 16777216) (h2 : 0 ≤ x) (h3 : x < 256) : IntKind.u32.wrap ((((256 * v) % 2 ^ IntKind.u32.bits).toNat ||| (x % 2 ^ IntKind.u32.bits).toNat : Nat) : Int) = 256 * v + x := by
  have h := or_low (k := .u32) (a := 8) (x := x.toNat) (v := v.toNat) (by show _ < 256; omega) (by show 256 * _ + _ < 4294967296; omega) (wu32 (by omega) (by show ((256 * _ + _ : Nat) : Int) < _; omega))
  rw [show ((2 ^ 8 * v.toNat : Nat) : Int) = 256 * v from by omega, show ((x.toNat : Nat) : Int) = x from by omega, show ((2 ^ 8 * v.toNat + x.toNat : Nat) : Int) = 256 * v + x from by omega] at h
  exact h
theorem pow7 (i : Nat) : (128 : Int) ^ i = 2 ^ (7 * i) := by rw [Int.pow_mul]; rfl
theorem pow7c (i : Nat) : ((2 ^ (7 * i) : Nat) : Int) = 128 ^ i := by rw [pow7]; simp
theorem shl7 {x : Int} {i : Nat} (h0 : 0 ≤ x) (h1 : x < 128) (hi : i ≤ 8) : IntKind.u64.wrap (x * 2 ^ (min (7 * (i : Int)).toNat IntKind.u64.bits)) = x * 128 ^ i := by
  have e : min (7 * (i : Int)).toNat IntKind.u64.bits = 7 * i := by show min _ 64 = _; omega
  rw [e, ← pow7]
  have h2 : (128 : Int) ^ i ≤ 128 ^ 8 := pow_mono hi
  have h3 : (0 : Int) < 128 ^ i := Int.pow_pos (by decide)
  have h4 : x * 128 ^ i ≤ 127 * 128 ^ i := Int.mul_le_mul_of_nonneg_right (by omega) (by omega)
  exact wu64 (Int.mul_nonneg h0 (by omega)) (by omega)
theorem or7 {v x : Int} {i : Nat} (h0 : 0 ≤ v) (h1 : v < 128 ^ i) (h2 : 0 ≤ x) (h3 : x < 128) (hi : i ≤ 8) : IntKind.u64.wrap (((v % 2 ^ IntKind.u64.bits).toNat ||| ((x * 128 ^ i) % 2 ^ IntKind.u64.bits).toNat : Nat) : Int) = v + x * 128 ^ i := by
  have g2 : (128 : Int) ^ i ≤ 128 ^ 8 := pow_mono hi
  have g3 : (0 : Int) < 128 ^ i := Int.pow_pos (by decide)
  have g4 : x * 128 ^ i ≤ 127 * 128 ^ i := Int.mul_le_mul_of_nonneg_right (by omega) (by omega)
  have e1 : ((2 ^ (7 * i) * x.toNat : Nat) : Int) = x * 128 ^ i := by
    rw [Int.natCast_mul, pow7c, show ((x.toNat : Nat) : Int) = x from by omega, Int.mul_comm]
  have e2 : ((v.toNat : Nat) : Int) = v := by omega
  have hb : ((2 ^ (7 * i) * x.toNat + v.toNat : Nat) : Int) = v + x * 128 ^ i := by rw [Int.natCast_add, e1, e2, Int.add_comm]
  have h := or_low (k := .u64) (a := 7 * i) (x := v.toNat) (v := x.toNat) (by have := pow7c i; omega) (by show _ < 18446744073709551616; omega) (wu64 (by omega) (by omega))
  rw [hb, e1, e2, Nat.or_comm] at h
  exact h
theorem gbyte_err {bs : List Int} {p : Nat} (h : (YJ bs p).2.2 ≠ 0) : (YJ bs p).1 = 0 ∧ (YJ bs p).2.1 = p := by
  unfold YJ at h ⊢; split <;> simp_all
theorem gbytes_err {bs : List Int} {p : Nat} {k : Int} (h : (ZW bs p k).2.2 ≠ 0) : (ZW bs p k).1 = [] ∧ (ZW bs p k).2.1 = p := by
  unfold ZW at h ⊢; split
  · exact ⟨rfl, rfl⟩
  · split
    · exact ⟨rfl, rfl⟩
    · simp_all
theorem gword_err {bs : List Int} {p : Nat} (h : (ZE bs p).2.2 ≠ 0) : (ZE bs p).1 = 0 ∧ (ZE bs p).2.1 = p := by
  unfold ZE at h ⊢; split <;> simp_all
theorem gword_props {bs : List Int} (hb : Byt bs) {p : Nat} (hp : p ≤ bs.length) : 0 ≤ (ZE bs p).1 ∧ (ZE bs p).1 < 4294967296 ∧ (ZE bs p).2.1 ≤ bs.length := by
  have := wval_fit (ZU (ZL hb p) 4) (by rw [List.length_take]; omega)
  unfold ZE; split
  · exact ⟨by simp, by simp, hp⟩
  · exact ⟨this.1, this.2, by show p + 4 ≤ _; omega⟩
end Go.Proofs.YtbjjhfoeckkacaaGreatDoor
namespace Go.Proofs.YtbjjhfoeckkacaaGreatDoor
open Go.Fw
theorem gbytes_len {bs : List Int} {p : Nat} {k : Int} : (ZW bs p k).1.length ≤ k.toNat := by
  unfold ZW; split
  · simp
  · split
    · simp
    · simp only [List.length_take]; omega
theorem gbytes_byt {bs : List Int} {p : Nat} {k : Int} (hb : Byt bs) : Byt (ZW bs p k).1 := by
  unfold ZW; split
  · exact ZO
  · split
    · exact ZO
    · exact ZU (ZL hb _) _
theorem gword_of {bs : List Int} {p : Nat} (hp : p ≤ bs.length) : ZE bs p = (wval (ZW bs p 4).1, (ZW bs p 4).2.1, (ZW bs p 4).2.2) := by
  unfold ZE ZW
  by_cases h : bs.length < p + 4
  · rw [if_pos h, if_neg (by omega), if_pos (by omega)]; rfl
  · rw [if_neg h, if_neg (by omega), if_neg (by omega)]; rfl
theorem wval_back {xs : List Int} (hb : Byt xs) {m j : Nat} (hm : xs.length = m) (hm4 : m ≤ 4) (hj : j < m) :
    wval (xs.drop (m - (j + 1))) = 256 * wval (xs.drop (m - j)) + xs.getD (m - 1 - j) 0 ∧ 0 ≤ wval (xs.drop (m - j)) ∧ wval (xs.drop (m - j)) < 16777216 ∧ 0 ≤ xs.getD (m - 1 - j) 0 ∧ xs.getD (m - 1 - j) 0 < 256 := by
  have h1 : xs.drop (m - (j + 1)) = xs.getD (m - 1 - j) 0 :: xs.drop (m - j) := by
    rw [drop_cons (by omega), show m - (j + 1) = m - 1 - j from by omega, show m - 1 - j + 1 = m - j from by omega]
  have h2 := wval_bound (xs.drop (m - j)) (ZL hb _)
  have h3 : (256 : Int) ^ (xs.drop (m - j)).length ≤ 256 ^ 3 := pow_mono (by rw [List.length_drop]; omega)
  have h4 := Yi hb (m - 1 - j)
  rw [h1]
  simp only [wval]
  omega
theorem val_more {bs : List Int} {p k : Nat} (hp : p + k < bs.length) : val ((bs.drop p).take (k + 1)) = val ((bs.drop p).take k) + bs.getD (p + k) 0 % 128 * 128 ^ k := by
  rw [take_getD (by rw [List.length_drop]; omega), val_snoc, gd_drop, List.length_take, List.length_drop, Nat.min_eq_left (by omega)]
theorem val_take {bs : List Int} {p k : Nat} (hk : k ≤ 8) : 0 ≤ val ((bs.drop p).take k) ∧ val ((bs.drop p).take k) < 128 ^ k := by
  have h := val_bound ((bs.drop p).take k)
  have h2 : (128 : Int) ^ ((bs.drop p).take k).length ≤ 128 ^ k := pow_mono (by rw [List.length_take]; omega)
  omega
theorem gbyte_end {bs : List Int} {p : Nat} (h : ¬ p < bs.length) : YJ bs p = (0, p, 3) := by simp [YJ, h]
theorem gbyte_in {bs : List Int} {p : Nat} (h : p < bs.length) : YJ bs p = (bs.getD p 0, p + 1, 0) := by simp [YJ, h]
end Go.Proofs.YtbjjhfoeckkacaaGreatDoor
namespace Go.Proofs.YtbjjhfoeckkacaaGreatDoor
open Go.Fw
theorem gword_le {bs : List Int} (hb : Byt bs) (p : Nat) : 0 ≤ (ZE bs p).1 ∧ (ZE bs p).1 < 4294967296 := by
  have := wval_fit (ZU (ZL hb p) 4) (by rw [List.length_take]; omega)
  unfold ZE; split
  · simp
  · exact this
end Go.Proofs.YtbjjhfoeckkacaaGreatDoor
namespace Go.Proofs.YtbjjhfoeckkacaaGreatDoor
open Go.Fw
def Vr : List Int → Prop
  | [] => False
  | [x] => 0 ≤ x ∧ x < 128
  | x :: y :: ys => 128 ≤ x ∧ x < 256 ∧ Vr (y :: ys) ∧ y :: ys ≠ [0]
theorem vr_ne {l : List Int} (h : Vr l) : 0 < l.length := by cases l <;> simp_all [Vr]
theorem vr_vb : ∀ (f : Nat) (n : Int), 0 ≤ n → n < 128 ^ f → 0 < f → Vr (vb f n) ∧ val (vb f n) = n
  | 0, _, _, _, h => absurd h (by omega)
  | f + 1, n, h0, h1, _ => by
    by_cases h : n < 128
    · rw [vb_small h]; refine ⟨⟨h0, h⟩, ?_⟩; simp only [val]; omega
    · have h2 := pow_step h1
      have hf : 0 < f := by
        cases f with
        | zero => simp at h2; omega
        | succ f => omega
      obtain ⟨i1, i2⟩ := vr_vb f (n / 128) (by omega) h2 hf
      rw [vb_big (by omega)]
      cases hl : vb f (n / 128) with
      | nil => rw [hl] at i1; exact absurd i1 (by simp [Vr])
      | cons y ys =>
        rw [hl] at i1 i2
        refine ⟨⟨by omega, by omega, i1, fun he => ?_⟩, ?_⟩
        · rw [he] at i2; simp [val] at i2; omega
        · rw [val, i2]; omega
theorem vb_of_vr : ∀ (l : List Int) (f : Nat), Vr l → l.length ≤ f → vb f (val l) = l ∧ 0 ≤ val l ∧ (l ≠ [0] → 1 ≤ val l)
  | [], _, h, _ => absurd h (by simp [Vr])
  | [x], f, h, hf => by
    obtain ⟨h0, h1⟩ := h
    have e : val [x] = x := by simp only [val]; omega
    obtain ⟨g, rfl⟩ : ∃ g, f = g + 1 := ⟨f - 1, by simp at hf; omega⟩
    rw [e, vb_small h1]
    exact ⟨rfl, h0, fun h => by
      rcases Int.lt_or_le 0 x with h3 | h3
      · omega
      · exact absurd (by rw [show x = 0 from by omega]) h⟩
  | x :: y :: ys, f, h, hf => by
    obtain ⟨h0, h1, h2, h3⟩ := h
    obtain ⟨g, rfl⟩ : ∃ g, f = g + 1 := ⟨f - 1, by simp at hf; omega⟩
    obtain ⟨i1, i2, i3⟩ := vb_of_vr (y :: ys) g h2 (by simp at hf ⊢; omega)
    have i3 := i3 h3
    have e : val (x :: y :: ys) = x % 128 + 128 * val (y :: ys) := rfl
    rw [e, vb_big (by omega), show (x % 128 + 128 * val (y :: ys)) / 128 = val (y :: ys) from by omega, i1, show (x % 128 + 128 * val (y :: ys)) % 128 + 128 = x from by omega]
    exact ⟨rfl, by omega, fun _ => by omega⟩
theorem vr_run : ∀ (l : List Int) (g : Nat) (r : List Int), Vr l → l.length ≤ g + 1 → run g (l ++ r) + 1 = l.length ∧ (l ++ r).getD (l.length - 1) 0 < 128 ∧ (1 < l.length → (l ++ r).getD (l.length - 1) 0 ≠ 0)
  | [], _, _, h, _ => absurd h (by simp [Vr])
  | [x], g, r, h, _ => by
    obtain ⟨h0, h1⟩ := h
    cases g with
    | zero => simp [run, h1]
    | succ g =>
      have : ¬ 128 ≤ x := by omega
      simp [run, this, h1]
  | x :: y :: ys, g, r, h, hg => by
    obtain ⟨h0, h1, h2, h3⟩ := h
    obtain ⟨g', rfl⟩ : ∃ g', g = g' + 1 := ⟨g - 1, by simp at hg; omega⟩
    obtain ⟨i1, i2, i3⟩ := vr_run (y :: ys) g' r h2 (by simp at hg ⊢; omega)
    refine ⟨?_, ?_, fun _ => ?_⟩
    · simp only [List.cons_append, run, if_pos h0, List.length_cons] at i1 ⊢; omega
    · simpa using i2
    · cases ys with
      | nil =>
        simp only [List.cons_append, List.nil_append, List.length_cons, List.length_nil]
        intro h5; simp at h5; exact h3 (by rw [h5])
      | cons z zs => simpa using i3 (by simp)
theorem run_vr : ∀ (g : Nat) (r : List Int), Byt r → run g r < g → run g r < r.length → (0 < run g r → r.getD (run g r) 0 ≠ 0) → Vr (r.take (run g r + 1))
  | 0, _, _, h, _, _ => absurd h (by omega)
  | g + 1, [], _, _, h, _ => by simp at h
  | g + 1, x :: xs, hb, h1, h2, h3 => by
    have hx := hb x List.mem_cons_self
    by_cases h : 128 ≤ x
    · simp only [run, if_pos h] at h1 h2 h3 ⊢
      simp only [List.length_cons] at h2
      have h3 := h3 (by omega)
      have ih := run_vr g xs (fun y hy => hb y (List.mem_cons_of_mem _ hy)) (by omega) (by omega) (fun _ => by simpa using h3)
      rw [List.take_succ_cons]
      cases hl : xs.take (run g xs + 1) with
      | nil => rw [hl] at ih; exact absurd ih (by simp [Vr])
      | cons y ys =>
        rw [hl] at ih
        refine ⟨h, hx.2, ih, fun he => ?_⟩
        rw [← hl] at he
        have hlen := congrArg List.length he
        simp only [List.length_take, List.length_cons, List.length_nil] at hlen
        have hr : run g xs = 0 := by omega
        rw [hr] at he h3
        cases xs with
        | nil => simp at he
        | cons z zs => simp at he h3; exact h3 he
    · simp only [run, if_neg h, List.take_succ_cons, List.take_zero]
      exact ⟨hx.1, by omega⟩
theorem vr_size : ∀ (l : List Int), Vr l → 0 ≤ val l ∧ val l < 128 ^ l.length ∧ (2 ≤ l.length → 128 ^ (l.length - 1) ≤ val l)
  | l, h => ⟨(val_bound l).1, (val_bound l).2, fun h2 => by
    have key : ∀ (l : List Int), Vr l → l ≠ [0] → (128 : Int) ^ (l.length - 1) ≤ val l := by
      intro l
      induction l with
      | nil => intro h; exact absurd h (by simp [Vr])
      | cons x xs ih =>
        intro h hne
        cases xs with
        | nil =>
          obtain ⟨h0, h1⟩ := h
          have : x ≠ 0 := fun he => hne (by rw [he])
          simp only [List.length_cons, List.length_nil, val]
          simp; omega
        | cons y ys =>
          obtain ⟨h0, h1, h2, h3⟩ := h
          have := ih h2 h3
          have e : val (x :: y :: ys) = x % 128 + 128 * val (y :: ys) := rfl
          simp only [List.length_cons, Nat.add_sub_cancel] at this ⊢
          rw [e, Int.pow_succ]; omega
    exact key l h fun he => by rw [he] at h2; simp at h2⟩
theorem vi_vr {n : Int} (h0 : 0 ≤ n) (h1 : n < 18446744073709551616) : Vr (vi n) ∧ val (vi n) = n := vr_vb 10 n h0 (by omega) (by omega)
theorem vi_of {l : List Int} (h : Vr l) (hl : l.length ≤ 10) : vi (val l) = l := (vb_of_vr l 10 h hl).1
theorem vi_9 {n : Int} (h0 : 0 ≤ n) (h1 : n ≤ 4611686018427387903) : (vi n).length ≤ 9 ∧ 0 < (vi n).length := by
  have h := vi_vr h0 (by omega)
  refine ⟨?_, vr_ne h.1⟩
  rcases Nat.lt_or_ge 9 (vi n).length with h2 | h2
  · have h3 := (vr_size _ h.1).2.2 (by omega)
    have h4 : (128 : Int) ^ 9 ≤ 128 ^ ((vi n).length - 1) := pow_mono (by omega)
    rw [h.2] at h3; omega
  · exact h2
theorem gvar_vi {bs rest : List Int} {p : Nat} {n : Int} (h0 : 0 ≤ n) (h1 : n ≤ 4611686018427387903) (hd : bs.drop p = vi n ++ rest) : ZN bs p = (n, p + (vi n).length, 0) := by
  have hv := vi_vr h0 (by omega)
  have h9 := vi_9 h0 h1
  obtain ⟨i1, i2, i3⟩ := vr_run (vi n) 9 rest hv.1 (by omega)
  simp only [ZN, hd]
  rw [if_neg (by omega), if_neg (by rw [List.length_append]; omega), show run 9 (vi n ++ rest) = (vi n).length - 1 from by omega, if_neg (fun h => i3 (by omega) h.2), show (vi n).length - 1 + 1 = (vi n).length from by omega, List.take_left, hv.2, if_neg (by omega)]
  simp; omega
theorem gvar_once {bs : List Int} {p : Nat} (hb : Byt bs) (h : (ZN bs p).2.2 = 0) : (bs.drop p).take ((ZN bs p).2.1 - p) = vi (ZN bs p).1 ∧ (ZN bs p).2.1 = p + (vi (ZN bs p).1).length := by
  have hr := run_vr 9 (bs.drop p) (ZL hb p)
  have hl := run_le 9 (bs.drop p)
  generalize hk : run 9 (bs.drop p) = k at hr hl
  simp only [ZN, hk] at h ⊢
  by_cases c1 : k = 9
  · rw [if_pos c1] at h; simp at h
  rw [if_neg c1] at h ⊢
  by_cases c2 : (bs.drop p).length ≤ k
  · rw [if_pos c2] at h; simp at h
  rw [if_neg c2] at h ⊢
  by_cases c3 : 0 < k ∧ (bs.drop p).getD k 0 = 0
  · rw [if_pos c3] at h; simp at h
  rw [if_neg c3] at h ⊢
  by_cases c4 : 4611686018427387903 < val ((bs.drop p).take (k + 1))
  · rw [if_pos c4] at h; simp at h
  rw [if_neg c4]
  have hv := hr (by omega) (by omega) (fun a b => c3 ⟨a, b⟩)
  have hvi := vi_of hv (by rw [List.length_take]; omega)
  have hlen : ((bs.drop p).take (k + 1)).length = k + 1 := by rw [List.length_take]; omega
  simp only
  rw [hvi, hlen]
  exact ⟨by congr 1; omega, by omega⟩
end Go.Proofs.YtbjjhfoeckkacaaGreatDoor
namespace Go.Proofs.YtbjjhfoeckkacaaGreatDoor
open Go.Fw
theorem gbytes_len2 {bs : List Int} {p : Nat} {k : Int} : (ZW bs p k).1.length ≤ bs.length := by
  unfold ZW; split
  · simp
  · split
    · simp
    · simp only [List.length_take, List.length_drop]; omega
end Go.Proofs.YtbjjhfoeckkacaaGreatDoor
