/-
  Layer 1: a word's bytes one after another, and what is read back out of bytes.
-/
import Derived.Test.YtflmjdnhjbiobaaPa
namespace Go.Proofs.Ytflmjdnhjbiobaa

theorem word_take {n : Int} (h0 : 0 ≤ n) (h1 : n < 4294967296) {k : Nat} (hk : k < 4) : (word n).take (k + 1) = (word n).take k ++ [n / 256 ^ k % 256] := by
  match k, hk with
  | 0, _ => simp [word]
  | 1, _ => simp [word]
  | 2, _ => simp [word]
  | 3, _ =>
    have : n / 16777216 % 256 = n / 16777216 := by omega
    simp [word, this]
theorem word_sh {n : Int} (h0 : 0 ≤ n) (h1 : n < 4294967296) {k : Nat} (hk : k < 4) : 0 ≤ n / 256 ^ k ∧ n / 256 ^ k < 4294967296 := by
  match k, hk with
  | 0, _ => simp; omega
  | 1, _ => simp; omega
  | 2, _ => simp; omega
  | 3, _ => simp; omega
theorem word_step {n : Int} {k : Nat} : Value.int .u32 (n / 256 ^ k / 256) = .int .u32 (n / 256 ^ (k + 1)) := by
  rw [Int.pow_succ, Int.ediv_ediv_of_nonneg (by exact Int.pow_nonneg (by omega))]

theorem drop_all {l : List Int} {p n : Nat} (h : l.length = n) : (l.drop p).take (n - p) = l.drop p := List.take_of_length_le (by simp; omega)
theorem gd_drop {l : List Int} {p i : Nat} : (l.drop p).getD i 0 = l.getD (p + i) 0 := by simp [List.getD_eq_getElem?_getD]
theorem gd_take {l : List Int} {k i : Nat} (h : i < k) : (l.take k).getD i 0 = l.getD i 0 := by simp [List.getD_eq_getElem?_getD, h]
theorem byt_gd {l : List Int} (h : Fw.Byt l) (i : Nat) : 0 ≤ l.getD i 0 ∧ l.getD i 0 < 256 := by
  rw [List.getD_eq_getElem?_getD]
  rcases Nat.lt_or_ge i l.length with h1 | h1
  · rw [List.getElem?_eq_getElem h1]; exact h _ (List.getElem_mem _)
  · rw [List.getElem?_eq_none h1]; simp
theorem byt_take {l : List Int} (h : Fw.Byt l) (k : Nat) : Fw.Byt (l.take k) := fun x hx => h x (List.mem_of_mem_take hx)
theorem byt_drop {l : List Int} (h : Fw.Byt l) (k : Nat) : Fw.Byt (l.drop k) := fun x hx => h x (List.mem_of_mem_drop hx)
theorem byt_app {l r : List Int} (h : Fw.Byt l) (h2 : Fw.Byt r) : Fw.Byt (l ++ r) := fun x hx => (List.mem_append.1 hx).elim (h x) (h2 x)
theorem drop_cons {l : List Int} {j : Nat} (h : j < l.length) : l.drop j = l.getD j 0 :: l.drop (j + 1) := by
  rw [List.drop_eq_getElem_cons h, List.getD_eq_getElem?_getD, List.getElem?_eq_getElem h]; rfl

def wval : List Int → Int
  | [] => 0
  | x :: xs => x + 256 * wval xs
def val : List Int → Int
  | [] => 0
  | x :: xs => x % 128 + 128 * val xs
/-- how many of the first bytes say that another one follows -/
def run : Nat → List Int → Nat
  | 0, _ => 0
  | _ + 1, [] => 0
  | f + 1, x :: xs => if 128 ≤ x then run f xs + 1 else 0
theorem wval_bound : ∀ l : List Int, Fw.Byt l → 0 ≤ wval l ∧ wval l < 256 ^ l.length
  | [], _ => by simp [wval]
  | x :: xs, h => by
    have h1 := wval_bound xs fun y hy => h y (List.mem_cons_of_mem _ hy)
    have h2 := h x List.mem_cons_self
    simp only [wval, List.length_cons, Int.pow_succ]
    omega
theorem val_bound : ∀ l : List Int, 0 ≤ val l ∧ val l < 128 ^ l.length
  | [] => by simp [val]
  | x :: xs => by
    have h1 := val_bound xs
    simp only [val, List.length_cons, Int.pow_succ]
    omega
theorem val_snoc : ∀ (l : List Int) (x : Int), val (l ++ [x]) = val l + x % 128 * 128 ^ l.length
  | [], x => by simp [val]
  | y :: ys, x => by
    have h := val_snoc ys x
    simp only [List.cons_append, val, h, List.length_cons, Int.pow_succ, Int.mul_add]
    rw [show x % 128 * (128 ^ ys.length * 128) = 128 * (x % 128 * 128 ^ ys.length) from by rw [← Int.mul_assoc, Int.mul_comm]]
    omega
theorem run_eq : ∀ (f k : Nat) (l : List Int), k ≤ f → k ≤ l.length → (∀ i, i < k → 128 ≤ l.getD i 0) → (k = f ∨ k = l.length ∨ l.getD k 0 < 128) → run f l = k
  | 0, k, l, h, _, _, _ => by simp [run]; omega
  | f + 1, k, [], _, h, _, _ => by simp at h; simp [run, h]
  | f + 1, 0, x :: xs, _, _, _, h => by
    simp at h
    simp [run]; omega
  | f + 1, k + 1, x :: xs, h1, h2, h3, h4 => by
    have hx := h3 0 (by omega)
    simp at hx
    have := run_eq f k xs (by omega) (by simpa using h2) (fun i hi => by simpa using h3 (i + 1) (by omega)) (by simpa using h4)
    simp [run, hx, this]
theorem run_le : ∀ (f : Nat) (l : List Int), run f l ≤ f ∧ run f l ≤ l.length
  | 0, l => by simp [run]
  | f + 1, [] => by simp [run]
  | f + 1, x :: xs => by
    have := run_le f xs
    simp only [run]
    split <;> simp <;> omega
theorem run_all : ∀ (f : Nat) (l : List Int) (i : Nat), i < run f l → 128 ≤ l.getD i 0
  | 0, l, i, h => by simp [run] at h
  | f + 1, [], i, h => by simp [run] at h
  | f + 1, x :: xs, i, h => by
    simp only [run] at h
    split at h
    · cases i with
      | zero => simpa
      | succ i => simpa using run_all f xs i (by omega)
    · omega

def gbyte (bs : List Int) (p : Nat) : Int × Nat × Int := if p < bs.length then (bs.getD p 0, p + 1, 0) else (0, p, 3)
def gbytes (bs : List Int) (p : Nat) (k : Int) : List Int × Nat × Int := if k < 0 then ([], p, 2) else if bs.length - p < k then ([], p, 3) else ((bs.drop p).take k.toNat, p + k.toNat, 0)
def gword (bs : List Int) (p : Nat) : Int × Nat × Int := if bs.length < p + 4 then (0, p, 3) else (wval ((bs.drop p).take 4), p + 4, 0)
def gvar (bs : List Int) (p : Nat) : Int × Nat × Int :=
  let r := bs.drop p
  let k := run 9 r
  if k = 9 then (0, p, 18) else if r.length ≤ k then (0, p, 3) else if 0 < k ∧ r.getD k 0 = 0 then (0, p, 5) else
  if 4611686018427387903 < val (r.take (k + 1)) then (0, p, 18) else (val (r.take (k + 1)), p + k + 1, 0)
def gnum (bs : List Int) (p : Nat) (most : Int) : Int × Nat × Int :=
  if (gvar bs p).2.2 ≠ 0 then (0, p, (gvar bs p).2.2) else if max most 0 < (gvar bs p).1 then (0, p, 18) else gvar bs p

theorem gvar_props (bs : List Int) (p : Nat) (hp : p ≤ bs.length) : 0 ≤ (gvar bs p).1 ∧ (gvar bs p).1 ≤ 4611686018427387903 ∧ (gvar bs p).2.1 ≤ bs.length ∧ p ≤ (gvar bs p).2.1 ∧ 0 ≤ (gvar bs p).2.2 ∧ (gvar bs p).2.2 ≤ 18 ∧ ((gvar bs p).2.2 ≠ 0 → (gvar bs p).1 = 0 ∧ (gvar bs p).2.1 = p) := by
  have h1 := run_le 9 (bs.drop p)
  have h2 := val_bound ((bs.drop p).take (run 9 (bs.drop p) + 1))
  have h3 : (bs.drop p).length = bs.length - p := List.length_drop
  simp only [gvar]
  split
  · exact ⟨by simp, by simp, hp, Nat.le_refl _, by simp, by simp, fun _ => ⟨rfl, rfl⟩⟩
  · split
    · exact ⟨by simp, by simp, hp, Nat.le_refl _, by simp, by simp, fun _ => ⟨rfl, rfl⟩⟩
    · split
      · exact ⟨by simp, by simp, hp, Nat.le_refl _, by simp, by simp, fun _ => ⟨rfl, rfl⟩⟩
      · split
        · exact ⟨by simp, by simp, hp, Nat.le_refl _, by simp, by simp, fun _ => ⟨rfl, rfl⟩⟩
        · rename_i a1 a2 a3 a4
          exact ⟨h2.1, by show _ ≤ _; omega, by show p + _ + 1 ≤ _; omega, by show p ≤ p + _ + 1; omega, by simp, by simp, fun h => absurd rfl h⟩
/-- what the first loop of Get has found -/
theorem gvar_run {bs : List Int} {p k : Nat} (hp : p + k ≤ bs.length) (hk : k ≤ 9) (hall : ∀ i, i < k → 128 ≤ bs.getD (p + i) 0) (he : k = 9 ∨ p + k = bs.length ∨ bs.getD (p + k) 0 < 128) : run 9 (bs.drop p) = k :=
  run_eq 9 k _ hk (by rw [List.length_drop]; omega) (fun i hi => by rw [gd_drop]; exact hall i hi) (by rw [gd_drop, List.length_drop]; omega)
theorem gvar_long {bs : List Int} {p k : Nat} (hp : p + k ≤ bs.length) (hk : k ≤ 9) (hall : ∀ i, i < k → 128 ≤ bs.getD (p + i) 0) (he : k = 9) : gvar bs p = (0, p, 18) := by
  have := gvar_run hp hk hall (.inl he)
  simp [gvar, this, he]
theorem gvar_short {bs : List Int} {p k : Nat} (hp : p + k = bs.length) (hk : k < 9) (hall : ∀ i, i < k → 128 ≤ bs.getD (p + i) 0) : gvar bs p = (0, p, 3) := by
  have := gvar_run (by omega) (by omega) hall (.inr (.inl hp))
  have h2 : ¬ k = 9 := by omega
  have h3 : bs.length - p ≤ k := by omega
  simp [gvar, this, h2, h3]
theorem gvar_min {bs : List Int} {p k : Nat} (hp : p + k < bs.length) (hk : k < 9) (hall : ∀ i, i < k → 128 ≤ bs.getD (p + i) 0) (h0 : 0 < k) (hz : bs.getD (p + k) 0 = 0) : gvar bs p = (0, p, 5) := by
  have := gvar_run (by omega) (by omega) hall (.inr (.inr (by omega)))
  have h2 : ¬ k = 9 := by omega
  have h3 : ¬ bs.length - p ≤ k := by omega
  simp only [gvar, this, List.length_drop, gd_drop, h2, h3, if_false]
  rw [if_pos ⟨h0, hz⟩]
theorem gvar_else {bs : List Int} {p k : Nat} (hp : p + k < bs.length) (hk : k < 9) (hall : ∀ i, i < k → 128 ≤ bs.getD (p + i) 0) (hx : bs.getD (p + k) 0 < 128) (hz : ¬ (0 < k ∧ bs.getD (p + k) 0 = 0)) :
    gvar bs p = if 4611686018427387903 < val ((bs.drop p).take (k + 1)) then (0, p, 18) else (val ((bs.drop p).take (k + 1)), p + k + 1, 0) := by
  have := gvar_run (by omega) (by omega) hall (.inr (.inr hx))
  have h2 : ¬ k = 9 := by omega
  have h3 : ¬ bs.length - p ≤ k := by omega
  simp only [gvar, this, List.length_drop, gd_drop, h2, h3, if_false]
  rw [if_neg hz]
/-- a round of Get's second loop -/
theorem val_round {bs : List Int} {p k j : Nat} (hp : p + k < bs.length) (hj : j ≤ k) : val (((bs.drop p).take (k + 1)).drop j) = bs.getD (p + j) 0 % 128 + 128 * val (((bs.drop p).take (k + 1)).drop (j + 1)) := by
  rw [drop_cons (by rw [List.length_take, List.length_drop]; omega), gd_take (by omega), gd_drop]; rfl
theorem wval_round {bs : List Int} {p j : Nat} (hp : p + 4 ≤ bs.length) (hj : j < 4) : wval (((bs.drop p).take 4).drop j) = bs.getD (p + j) 0 + 256 * wval (((bs.drop p).take 4).drop (j + 1)) := by
  rw [drop_cons (by rw [List.length_take, List.length_drop]; omega), gd_take (by omega), gd_drop]; rfl
theorem pow_mono {b m n : Nat} (h : m ≤ n) (hb : 0 < b := by decide) : (b : Int) ^ m ≤ (b : Int) ^ n := by
  rw [← Int.natCast_pow, ← Int.natCast_pow]
  exact Int.ofNat_le.2 (Nat.pow_le_pow_right hb h)
theorem val_fit {l : List Int} (h : l.length ≤ 9) : 0 ≤ val l ∧ val l < 9223372036854775808 := by
  have := val_bound l
  have h2 : (128 : Int) ^ l.length ≤ 128 ^ 9 := pow_mono h
  omega
theorem wval_fit {l : List Int} (hb : Fw.Byt l) (h : l.length ≤ 4) : 0 ≤ wval l ∧ wval l < 4294967296 := by
  have := wval_bound l hb
  have h2 : (256 : Int) ^ l.length ≤ 256 ^ 4 := pow_mono h
  omega
theorem val_end {bs : List Int} {p k : Nat} : val (((bs.drop p).take (k + 1)).drop (k + 1)) = 0 := by
  rw [List.drop_eq_nil_of_le (by rw [List.length_take]; omega)]; rfl
theorem wval_end {bs : List Int} {p : Nat} : wval (((bs.drop p).take 4).drop 4) = 0 := by
  rw [List.drop_eq_nil_of_le (by rw [List.length_take]; omega)]; rfl
theorem val_next {bs : List Int} {p k j : Nat} (hp : p + k < bs.length) (h0 : 0 < j) (hj : j ≤ k + 1) (hk : k < 9) : val (((bs.drop p).take (k + 1)).drop (j - 1)) = bs.getD (p + (j - 1)) 0 % 128 + 128 * val (((bs.drop p).take (k + 1)).drop j) ∧
    val (((bs.drop p).take (k + 1)).drop (j - 1)) < 9223372036854775808 ∧ 0 ≤ val (((bs.drop p).take (k + 1)).drop j) := by
  have h := val_round (j := j - 1) hp (by omega)
  rw [show j - 1 + 1 = j from by omega] at h
  exact ⟨h, (val_fit (by rw [List.length_drop, List.length_take]; omega)).2, (val_bound _).1⟩
theorem wval_next {bs : List Int} {p j : Nat} (hb : Fw.Byt bs) (hp : p + 4 ≤ bs.length) (h0 : 0 < j) (hj : j ≤ 4) : wval (((bs.drop p).take 4).drop (j - 1)) = bs.getD (p + (j - 1)) 0 + 256 * wval (((bs.drop p).take 4).drop j) ∧
    wval (((bs.drop p).take 4).drop (j - 1)) < 4294967296 ∧ 0 ≤ wval (((bs.drop p).take 4).drop j) := by
  have h := wval_round (j := j - 1) hp (by omega)
  rw [show j - 1 + 1 = j from by omega] at h
  exact ⟨h, (wval_fit (byt_drop (byt_take (byt_drop hb _) _) _) (by rw [List.length_drop, List.length_take]; omega)).2, (wval_bound _ (byt_drop (byt_take (byt_drop hb _) _) _)).1⟩
theorem gbytes_neg {bs : List Int} {p : Nat} {k : Int} (h : k < 0) : gbytes bs p k = ([], p, 2) := by simp [gbytes, h]
theorem gbytes_long {bs : List Int} {p : Nat} {k : Int} (h : 0 ≤ k) (h2 : bs.length - p < k) : gbytes bs p k = ([], p, 3) := by
  rw [gbytes, if_neg (by omega), if_pos h2]
theorem gbytes_ok {bs : List Int} {p : Nat} {k : Int} (h : 0 ≤ k) (h2 : k ≤ bs.length - p) : gbytes bs p k = ((bs.drop p).take k.toNat, p + k.toNat, 0) := by
  rw [gbytes, if_neg (by omega), if_neg (by omega)]
theorem gnum_err {bs : List Int} {p : Nat} {most : Int} (h : (gvar bs p).2.2 ≠ 0) : gnum bs p most = (0, p, (gvar bs p).2.2) := by simp [gnum, h]
theorem gnum_lim {bs : List Int} {p : Nat} {most : Int} (h : (gvar bs p).2.2 = 0) (h2 : max most 0 < (gvar bs p).1) : gnum bs p most = (0, p, 18) := by simp [gnum, h, h2]
theorem gnum_ok {bs : List Int} {p : Nat} {most : Int} (h : (gvar bs p).2.2 = 0) (h2 : ¬ max most 0 < (gvar bs p).1) : gnum bs p most = gvar bs p := by
  rw [gnum, if_neg (by simp [h]), if_neg h2]
end Go.Proofs.Ytflmjdnhjbiobaa
