/-
  Layer 17: streams of code words as numbers.
-/
import Derived.Test.YtilegaokfamfnaaEb
set_option linter.unusedVariables false
namespace Go.Proofs.Ytilegaokfamfnaa
open Go.Fw

/-! ### a byte list's number -/
def wn : List Int → Nat
  | [] => 0
  | x :: l => x.toNat + 256 * wn l
def ub (W n : Nat) : List Int := tabn n fun i => ((W / 256 ^ i % 256 : Nat) : Int)
theorem ub_len (W n : Nat) : (ub W n).length = n := tabn_len _ _
theorem ub_get {W n i : Nat} (h : i < n) : (ub W n).getD i 0 = ((W / 256 ^ i % 256 : Nat) : Int) := tabn_get _ _ h
theorem ub_byt (W n : Nat) : Byt (ub W n) := by
  intro x hx
  unfold ub tabn at hx
  rw [List.mem_map] at hx
  obtain ⟨i, _, rfl⟩ := hx
  omega
theorem ub_succ (W n : Nat) : ub W (n + 1) = ((W % 256 : Nat) : Int) :: ub (W / 256) n := by
  unfold ub tabn
  rw [List.range_succ_eq_map, List.map_cons, List.map_map]
  refine List.cons_eq_cons.2 ⟨by rw [Nat.pow_zero, Nat.div_one], ?_⟩
  apply List.map_congr_left
  intro i _
  simp only [Function.comp]
  rw [Nat.div_div_eq_div_mul, Nat.pow_succ, Nat.mul_comm]
theorem ub_wn : ∀ {b : List Int}, Byt b → ub (wn b) b.length = b
  | [], _ => rfl
  | x :: b, h => by
    have hx := h x (List.mem_cons_self ..)
    have ih := ub_wn (b := b) (fun y hy => h y (List.mem_cons_of_mem _ hy))
    rw [List.length_cons, ub_succ, show wn (x :: b) = x.toNat + 256 * wn b from rfl, show (x.toNat + 256 * wn b) % 256 = x.toNat from by omega, show (x.toNat + 256 * wn b) / 256 = wn b from by omega, ih]
    congr 1; omega
theorem wn_ub : ∀ (n W : Nat), wn (ub W n) = W % 256 ^ n
  | 0, W => by show 0 = _; rw [Nat.pow_zero, Nat.mod_one]
  | n + 1, W => by
    rw [ub_succ, wn, wn_ub n, Nat.pow_succ, Nat.mul_comm, Nat.mul_comm (256 ^ n), Nat.mod_mul, Int.toNat_natCast, Nat.mul_comm]
theorem wn_lt : ∀ {b : List Int}, Byt b → wn b < 256 ^ b.length
  | [], _ => by decide
  | x :: b, h => by
    have hx := h x (List.mem_cons_self ..)
    have ih := wn_lt (b := b) (fun y hy => h y (List.mem_cons_of_mem _ hy))
    rw [List.length_cons, Nat.pow_succ, wn]; omega
theorem wn_get {b : List Int} (h : Byt b) {i : Nat} (hi : i < b.length) : b.getD i 0 = ((wn b / 256 ^ i % 256 : Nat) : Int) := by
  conv => lhs; rw [← ub_wn h]
  exact ub_get hi
theorem p256 (i : Nat) : 256 ^ i = 2 ^ (8 * i) := by rw [Nat.pow_mul]
theorem wn_last : ∀ {b : List Int}, 0 < b.length → wn b = wn (b.take (b.length - 1)) + 256 ^ (b.length - 1) * (b.getD (b.length - 1) 0).toNat
  | [], h => by simp at h
  | [x], _ => by simp [wn]
  | x :: y :: b, _ => by
    have ih := wn_last (b := y :: b) (by simp)
    have e : (x :: y :: b).length - 1 = ((y :: b).length - 1) + 1 := by simp
    rw [e, List.take_succ_cons, List.getD_cons_succ]
    show x.toNat + 256 * wn (y :: b) = x.toNat + 256 * wn ((y :: b).take ((y :: b).length - 1)) + _
    rw [ih, Nat.pow_succ]
    generalize 256 ^ ((y :: b).length - 1) = p
    generalize ((y :: b).getD ((y :: b).length - 1) 0).toNat = q
    rw [Nat.mul_add, ← Nat.mul_assoc, Nat.mul_comm p 256]; omega
/-! ### the closing mark -/
def l8 (x : Int) : Nat := Nat.log2 x.toNat + 1
def Cl (b : List Int) : Prop := 0 < b.length ∧ b.getD (b.length - 1) 0 ≠ 0
instance (b : List Int) : Decidable (Cl b) := inferInstanceAs (Decidable (0 < b.length ∧ b.getD (b.length - 1) 0 ≠ 0))
def tbt (b : List Int) : Nat := 8 * (b.length - 1) + (l8 (b.getD (b.length - 1) 0) - 1)
theorem l8_bd {x : Int} (h0 : 0 < x) (h1 : x < 256) : 1 ≤ l8 x ∧ l8 x ≤ 8 ∧ 2 ^ (l8 x - 1) ≤ x.toNat ∧ x.toNat < 2 ^ l8 x := by
  have hx : x.toNat ≠ 0 := by omega
  have h2 := Nat.log2_self_le hx
  have h3 := @Nat.lt_log2_self x.toNat
  have h4 : Nat.log2 x.toNat < 8 := (Nat.log2_lt hx).2 (by omega)
  unfold l8
  exact ⟨by omega, by omega, by simpa using h2, h3⟩
theorem byt_get {b : List Int} (h : Byt b) (i : Nat) : 0 ≤ b.getD i 0 ∧ b.getD i 0 < 256 := by
  rw [List.getD_eq_getElem?_getD]
  cases e : b[i]? with
  | none => simp
  | some x => have := h x (List.mem_of_getElem? e); simpa using this
theorem cl_bd {b : List Int} (h : Byt b) (hc : Cl b) : 2 ^ tbt b ≤ wn b ∧ wn b < 2 ^ (tbt b + 1) ∧ tbt b / 8 + 1 = b.length ∧ tbt b < 8 * b.length := by
  have hg := byt_get h (b.length - 1)
  have hl := hc.1
  have h8 := l8_bd (x := b.getD (b.length - 1) 0) (by have := hc.2; omega) hg.2
  have hw := wn_last hl
  have hlt := wn_lt (b := b.take (b.length - 1)) (fun y hy => h y (List.mem_of_mem_take hy))
  rw [List.length_take, show min (b.length - 1) b.length = b.length - 1 from by omega] at hlt
  rw [p256] at hlt hw
  have e1 : tbt b = 8 * (b.length - 1) + (l8 (b.getD (b.length - 1) 0) - 1) := rfl
  have e2 : tbt b + 1 = 8 * (b.length - 1) + l8 (b.getD (b.length - 1) 0) := by omega
  generalize hx : (b.getD (b.length - 1) 0).toNat = x at *
  generalize l8 (b.getD (b.length - 1) 0) = q at *
  generalize hp : 2 ^ (8 * (b.length - 1)) = p at *
  refine ⟨?_, ?_, by omega, by omega⟩
  · rw [e1, Nat.pow_add, hp]
    have : p * 2 ^ (q - 1) ≤ p * x := Nat.mul_le_mul_left _ h8.2.2.1
    omega
  · rw [e2, Nat.pow_add, hp]
    have : p * (x + 1) ≤ p * 2 ^ q := Nat.mul_le_mul_left _ h8.2.2.2
    rw [Nat.mul_add] at this; omega
theorem tb_uniq {a b W : Nat} (h1 : 2 ^ a ≤ W) (h2 : W < 2 ^ (a + 1)) (h3 : 2 ^ b ≤ W) (h4 : W < 2 ^ (b + 1)) : a = b := by
  have h5 : a < b + 1 := (Nat.pow_lt_pow_iff_right (by decide)).1 (Nat.lt_of_le_of_lt h1 h4)
  have h6 : b < a + 1 := (Nat.pow_lt_pow_iff_right (by decide)).1 (Nat.lt_of_le_of_lt h3 h2)
  omega
theorem ub_close {W L : Nat} (h1 : 2 ^ L ≤ W) (h2 : W < 2 ^ (L + 1)) : Cl (ub W (L / 8 + 1)) ∧ wn (ub W (L / 8 + 1)) = W ∧ tbt (ub W (L / 8 + 1)) = L := by
  have hW : W < 256 ^ (L / 8 + 1) := by
    rw [p256]; exact Nat.lt_of_lt_of_le h2 (Nat.pow_le_pow_right (by decide) (by omega))
  have hwn : wn (ub W (L / 8 + 1)) = W := by rw [wn_ub]; exact Nat.mod_eq_of_lt hW
  have hc : Cl (ub W (L / 8 + 1)) := by
    refine ⟨by rw [ub_len]; omega, ?_⟩
    rw [ub_len, show L / 8 + 1 - 1 = L / 8 from rfl, ub_get (by omega)]
    have h3 : 256 ^ (L / 8) ≤ W := by
      rw [p256]; exact Nat.le_trans (Nat.pow_le_pow_right (by decide) (by omega)) h1
    have h4 : 0 < W / 256 ^ (L / 8) := Nat.div_pos h3 (Nat.pow_pos (by decide))
    have h5 : W / 256 ^ (L / 8) < 256 := (Nat.div_lt_iff_lt_mul (Nat.pow_pos (by decide))).2 (by rw [Nat.pow_succ] at hW; omega)
    rw [Nat.mod_eq_of_lt h5]; omega
  refine ⟨hc, hwn, ?_⟩
  have h3 := cl_bd (ub_byt _ _) hc
  rw [hwn] at h3
  exact tb_uniq h3.1 h3.2.1 h1 h2
/-! ### one code word -/
def wd (W t n : Nat) : Nat := W / 2 ^ (t - n) % 2 ^ n
theorem wd_lt (W t n : Nat) : wd W t n < 2 ^ n := Nat.mod_lt _ (Nat.pow_pos (by decide))
theorem wd_div {W t n x : Nat} (h1 : x ≤ n) (h2 : n ≤ t) : wd W t n / 2 ^ (n - x) = wd W t x := by
  unfold wd
  rw [show 2 ^ n = 2 ^ (n - x) * 2 ^ x from by rw [← Nat.pow_add]; congr 1; omega, Nat.mod_mul_right_div_self, Nat.div_div_eq_div_mul, ← Nat.pow_add]
  congr 2; congr 1; omega
def nd (l : List Int) (W t : Nat) : Int × Int × Int := dec l ((wd W t (min t 11) : Nat) : Int) ((min t 11 : Nat) : Int)
theorem wd11 (W t : Nat) : wd W t (min t 11) < 2048 := by
  have := wd_lt W t (min t 11)
  have h : 2 ^ (min t 11) ≤ 2 ^ 11 := Nat.pow_le_pow_right (by decide) (by omega)
  omega
theorem va_wd (W t : Nat) : Va ((wd W t (min t 11) : Nat) : Int) ((min t 11 : Nat) : Int) := by
  refine ⟨by omega, Or.inr ?_⟩
  rw [show min ((min t 11 : Nat) : Int).toNat IntKind.u64.bits = min t 11 from by show min _ 64 = _; omega]
  have := wd_lt W t (min t 11)
  have e : ((2 : Int) ^ (min t 11)) = ((2 ^ (min t 11) : Nat) : Int) := by simp
  rw [e, ← Int.natCast_ediv, Nat.div_eq_of_lt this]; rfl
theorem win_wd {l : List Int} (hr : Rt l) {W t j : Nat} (hj : 0 < l.getD j 0) (hle : l.getD j 0 ≤ ((min t 11 : Nat) : Int)) :
    win ((wd W t (min t 11) : Nat) : Int) ((min t 11 : Nat) : Int) / kw (l.getD j 0) = ((wd W t (l.getD j 0).toNat : Nat) : Int) := by
  have hg := hr.1.gd j
  rw [win_div (by omega) hj hle hg.2, show (((min t 11 : Nat) : Int) - l.getD j 0).toNat = min t 11 - (l.getD j 0).toNat from by omega, ← wd_div (W := W) (n := min t 11) (x := (l.getD j 0).toNat) (by omega) (by omega), Int.natCast_ediv, Int.natCast_pow]
  rfl
theorem nd_at {l : List Int} (hr : Rt l) {W t c : Nat} (hc : c < l.length) (h0 : 0 < l.getD c 0) (ht : (l.getD c 0).toNat ≤ t) (h : ((wd W t (l.getD c 0).toNat : Nat) : Int) = (cd l c).2) :
    nd l W t = ((c : Int), l.getD c 0, 0) := by
  have hg := hr.1.gd c
  have h11 := wd11 W t
  have hv := va_wd W t
  have hwb := win_bd (by omega) (by omega) hv
  have hb : Beg l (win ((wd W t (min t 11) : Nat) : Int) ((min t 11 : Nat) : Int)) c := ⟨hc, h0, by rw [win_wd hr h0 (by omega)]; exact h⟩
  unfold nd
  rw [dec_sel hr (by omega) (by omega) hv, sel_eq hr hwb.1 hwb.2 hb, if_pos (by omega)]
theorem nd_inv {l : List Int} (hr : Rt l) {W t : Nat} (h : (nd l W t).2.2 = 0) :
    ∃ c : Nat, c < l.length ∧ 0 < l.getD c 0 ∧ (l.getD c 0).toNat ≤ min t 11 ∧ nd l W t = ((c : Int), l.getD c 0, 0) ∧ ((wd W t (l.getD c 0).toNat : Nat) : Int) = (cd l c).2 := by
  have h11 := wd11 W t
  have hv := va_wd W t
  have hwb := win_bd (by omega) (by omega) hv
  have hb := sel_beg hr hwb.1 hwb.2
  have hd := dec_sel hr (by omega) (by omega) hv
  unfold nd at h ⊢
  rw [hd] at h ⊢
  by_cases hle : l.getD (sel l (win ((wd W t (min t 11) : Nat) : Int) ((min t 11 : Nat) : Int))) 0 ≤ ((min t 11 : Nat) : Int)
  · rw [if_pos hle]
    exact ⟨_, hb.1, hb.2.1, by omega, rfl, by rw [← win_wd hr hb.2.1 hle]; exact hb.2.2⟩
  · rw [if_neg hle] at h; cases h
theorem nd_err {l : List Int} (hr : Rt l) {W t : Nat} (h : (nd l W t).2.2 ≠ 0) : nd l W t = (0, 0, 3) := by
  have h11 := wd11 W t
  have hv := va_wd W t
  have hd := dec_sel hr (by omega) (by omega) hv
  unfold nd at h ⊢
  rw [hd] at h ⊢
  split
  · next hle => rw [if_pos hle] at h; exact absurd rfl h
  · rfl
theorem nd_rng {l : List Int} (hr : Rt l) {W t : Nat} (h : (nd l W t).2.2 = 0) : 0 ≤ (nd l W t).1 ∧ (nd l W t).1 < 256 ∧ 1 ≤ (nd l W t).2.1 ∧ (nd l W t).2.1 ≤ t ∧ (nd l W t).2.1 ≤ 11 := by
  obtain ⟨c, h1, h2, h3, h4, h5⟩ := nd_inv hr h
  rw [h4]; have := hr.2.1; have := hr.1.gd c; simp only; omega
theorem nd_zero {l : List Int} (hr : Rt l) (W : Nat) : (nd l W 0).2.2 ≠ 0 := fun h => by
  have := nd_rng hr h; omega
/-! ### code words in a row -/
def st (l : List Int) (W t : Nat) : Nat → Nat
  | 0 => t
  | k + 1 => st l W t k - (nd l W (st l W t k)).2.1.toNat
def ym (l : List Int) (W t k : Nat) : Int := (nd l W (st l W t k)).1
def gd (l : List Int) (W t k : Nat) : Prop := (nd l W (st l W t k)).2.2 = 0
instance (l : List Int) (W t k : Nat) : Decidable (gd l W t k) := inferInstanceAs (Decidable (_ = _))
theorem st_le {l : List Int} (W t : Nat) : ∀ k, st l W t k ≤ t
  | 0 => Nat.le_refl _
  | k + 1 => by have := st_le (l := l) W t k; rw [st]; omega
theorem st_go {l : List Int} (hr : Rt l) {W t : Nat} : ∀ {k : Nat}, (∀ j, j < k → gd l W t j) → st l W t k + k ≤ t
  | 0, _ => by rw [st]; omega
  | k + 1, h => by
    have ih := st_go hr (k := k) (fun j hj => h j (by omega))
    have := nd_rng hr (h k (by omega))
    rw [st]; omega
/-- how many code words follow one another -/
def nb (l : List Int) (W t : Nat) : Nat := ((List.range (t + 1)).find? fun j => decide (¬ gd l W t j)).getD 0
theorem nb_spec {l : List Int} (hr : Rt l) (W t : Nat) : (∀ j, j < nb l W t → gd l W t j) ∧ ¬ gd l W t (nb l W t) ∧ nb l W t ≤ t := by
  unfold nb
  cases hf : (List.range (t + 1)).find? fun j => decide (¬ gd l W t j) with
  | none =>
    rw [List.find?_eq_none] at hf
    have hall : ∀ j, j < t + 1 → gd l W t j := fun j hj => by
      have := hf j (List.mem_range.2 hj); simpa using this
    have := st_go hr hall; omega
  | some k =>
    rw [List.find?_range_eq_some] at hf
    obtain ⟨h1, h2, h3⟩ := hf
    refine ⟨fun j hj => by have := h3 j hj; simpa using this, by simpa using h1, ?_⟩
    have := List.mem_range.1 h2
    show k ≤ t; omega
theorem nb_eq {l : List Int} (hr : Rt l) {W t k : Nat} (h1 : ∀ j, j < k → gd l W t j) (h2 : ¬ gd l W t k) : nb l W t = k := by
  obtain ⟨h3, h4, _⟩ := nb_spec hr W t
  rcases Nat.lt_trichotomy (nb l W t) k with h | h | h
  · exact absurd (h1 _ h) h4
  · exact h
  · exact absurd (h3 _ h) h2
theorem nb_stop {l : List Int} (hr : Rt l) {W t k : Nat} (h1 : ∀ j, j < k → gd l W t j) (h2 : st l W t k = 0) : nb l W t = k :=
  nb_eq hr h1 (by unfold gd; rw [h2]; exact nd_zero hr W)
def yms (l : List Int) (W t n : Nat) : List Int := tabn n (ym l W t)
def sts (l : List Int) (W t n : Nat) : List Int := tabn n fun k => ((st l W t (k + 1) : Nat) : Int)
theorem yms_len (l : List Int) (W t n : Nat) : (yms l W t n).length = n := tabn_len _ _
theorem sts_len (l : List Int) (W t n : Nat) : (sts l W t n).length = n := tabn_len _ _
theorem yms_succ (l : List Int) (W t n : Nat) : yms l W t (n + 1) = yms l W t n ++ [ym l W t n] := tabn_succ _ _
theorem sts_succ (l : List Int) (W t n : Nat) : sts l W t (n + 1) = sts l W t n ++ [((st l W t (n + 1) : Nat) : Int)] := tabn_succ _ _
theorem yms_byt {l : List Int} (hr : Rt l) {W t n : Nat} (h : ∀ j, j < n → gd l W t j) : Byt (yms l W t n) := by
  intro x hx
  unfold yms tabn at hx
  rw [List.mem_map] at hx
  obtain ⟨i, hi, rfl⟩ := hx
  have := nd_rng hr (h i (List.mem_range.1 hi))
  unfold ym; omega
/-! ### code words written -/
def eL (l : List Int) : List Int → Nat
  | [] => 0
  | c :: b => eL l b + (l.getD c.toNat 0).toNat
def eV (l : List Int) : List Int → Nat
  | [] => 0
  | c :: b => eV l b + (cd l c.toNat).2.toNat * 2 ^ eL l b
def Hs (l : List Int) (b : List Int) : Prop := ∀ c ∈ b, c.toNat < l.length ∧ l.getD c.toNat 0 ≠ 0
instance (l b : List Int) : Decidable (Hs l b) := inferInstanceAs (Decidable (∀ c ∈ b, _))
theorem Hs.tail {l : List Int} {c : Int} {b : List Int} (h : Hs l (c :: b)) : Hs l b := fun x hx => h x (List.mem_cons_of_mem _ hx)
theorem Hs.head {l : List Int} {c : Int} {b : List Int} (hr : Rt l) (h : Hs l (c :: b)) : c.toNat < l.length ∧ 0 < l.getD c.toNat 0 ∧ l.getD c.toNat 0 ≤ 11 := by
  have h1 := h c (List.mem_cons_self ..)
  have h2 := hr.1.gd c.toNat
  omega
theorem Hs.drop {l : List Int} {b : List Int} (h : Hs l b) (k : Nat) : Hs l (b.drop k) := fun x hx => h x (List.mem_of_mem_drop hx)
theorem eL_app (l : List Int) : ∀ a b : List Int, eL l (a ++ b) = eL l a + eL l b
  | [], b => by rw [List.nil_append, eL]; omega
  | c :: a, b => by rw [List.cons_append, eL, eL, eL_app l a b]; omega
theorem eL_le {l : List Int} (hr : Rt l) : ∀ b : List Int, eL l b ≤ 11 * b.length
  | [] => by simp [eL]
  | c :: b => by have := eL_le hr b; have := hr.1.gd c.toNat; rw [eL, List.length_cons]; omega
theorem bits_lt {l : List Int} (hr : Rt l) {c : Nat} (h1 : c < l.length) (h2 : 0 < l.getD c 0) : (cd l c).2.toNat < 2 ^ (l.getD c 0).toNat ∧ 0 ≤ (cd l c).2 := by
  have h := cd_bd hr h1 h2
  have e : ((2 : Int) ^ (l.getD c 0).toNat) = ((2 ^ (l.getD c 0).toNat : Nat) : Int) := by simp
  rw [e] at h
  omega
theorem eV_lt {l : List Int} (hr : Rt l) : ∀ {b : List Int}, Hs l b → eV l b < 2 ^ eL l b
  | [], _ => by simp [eV, eL]
  | c :: b, h => by
    have ih := eV_lt hr h.tail
    have hh := h.head hr
    have hb := (bits_lt hr hh.1 hh.2.1).1
    rw [eV, eL, Nat.pow_add]
    have h2 : ((cd l c.toNat).2.toNat + 1) * 2 ^ eL l b ≤ 2 ^ (l.getD c.toNat 0).toNat * 2 ^ eL l b := Nat.mul_le_mul_right _ hb
    rw [Nat.add_mul, Nat.one_mul] at h2
    rw [Nat.mul_comm (2 ^ eL l b)]; omega
def cv (l b : List Int) : Nat := eV l b + 2 ^ eL l b
theorem cv_bd {l : List Int} (hr : Rt l) {b : List Int} (h : Hs l b) : 2 ^ eL l b ≤ cv l b ∧ cv l b < 2 ^ (eL l b + 1) ∧ cv l b % 2 ^ eL l b = eV l b := by
  have := eV_lt hr h
  unfold cv
  refine ⟨by omega, by rw [Nat.pow_succ]; omega, ?_⟩
  rw [Nat.add_mod_right]; exact Nat.mod_eq_of_lt this
def out (l b : List Int) : List Int := ub (cv l b) (eL l b / 8 + 1)
theorem out_len (l b : List Int) : (out l b).length = eL l b / 8 + 1 := ub_len _ _
theorem out_byt (l b : List Int) : Byt (out l b) := ub_byt _ _
theorem mod_step {W a x v c : Nat} (h : W % 2 ^ (a + x) = v + c * 2 ^ a) (hv : v < 2 ^ a) : W % 2 ^ a = v ∧ W / 2 ^ a % 2 ^ x = c := by
  have hp : 0 < 2 ^ a := Nat.pow_pos (by decide)
  constructor
  · have h1 : W % 2 ^ (a + x) % 2 ^ a = W % 2 ^ a := Nat.mod_mod_of_dvd _ (by rw [Nat.pow_add]; exact Nat.dvd_mul_right ..)
    rw [← h1, h, Nat.add_mul_mod_self_right, Nat.mod_eq_of_lt hv]
  · rw [Nat.pow_add] at h
    have h1 := Nat.mod_mul_right_div_self W (2 ^ a) (2 ^ x)
    rw [h, Nat.add_mul_div_right _ _ hp, Nat.div_eq_of_lt hv, Nat.zero_add] at h1
    exact h1.symm
theorem drop_cons' {b : List Int} {k : Nat} (h : k < b.length) : b.drop k = b.getD k 0 :: b.drop (k + 1) := by
  rw [List.drop_eq_getElem_cons h, List.getD_eq_getElem?_getD, List.getElem?_eq_getElem h]; rfl
/-- what was written is read -/
theorem dec_enc {l : List Int} (hr : Rt l) {b : List Int} (hb : Byt b) (h : Hs l b) {W : Nat} (hW : W % 2 ^ eL l b = eV l b) :
    ∀ k, k ≤ b.length → st l W (eL l b) k = eL l (b.drop k) ∧ W % 2 ^ eL l (b.drop k) = eV l (b.drop k) ∧ ∀ j, j < k → gd l W (eL l b) j ∧ ym l W (eL l b) j = b.getD j 0
  | 0, _ => ⟨rfl, by simpa using hW, fun j hj => absurd hj (by omega)⟩
  | k + 1, hk => by
    obtain ⟨h1, h2, h3⟩ := dec_enc hr hb h hW k (by omega)
    have hd := drop_cons' (b := b) (k := k) (by omega)
    have hsf : Hs l (b.getD k 0 :: b.drop (k + 1)) := by rw [← hd]; exact h.drop k
    have hh := hsf.head hr
    have hg := byt_get hb k
    rw [hd, eL, eV] at h2
    have hms := mod_step h2 (eV_lt hr hsf.tail)
    have hbt := bits_lt hr hh.1 hh.2.1
    have hn : nd l W (st l W (eL l b) k) = ((((b.getD k 0).toNat : Nat) : Int), l.getD (b.getD k 0).toNat 0, 0) := by
      rw [h1, hd, eL]
      refine nd_at hr hh.1 hh.2.1 (by omega) ?_
      unfold wd
      rw [Nat.add_sub_cancel, hms.2]; omega
    refine ⟨?_, hms.1, fun j hj => ?_⟩
    · rw [st, hn, h1, hd, eL]; simp
    · by_cases hjk : j = k
      · subst hjk
        refine ⟨?_, ?_⟩
        · unfold gd; rw [hn]
        · unfold ym; rw [hn]; simp only; omega
      · exact h3 j (by omega)
theorem yms_enc {l : List Int} (hr : Rt l) {b : List Int} (hb : Byt b) (h : Hs l b) {W : Nat} (hW : W % 2 ^ eL l b = eV l b) : yms l W (eL l b) b.length = b := by
  obtain ⟨_, _, h3⟩ := dec_enc hr hb h hW b.length (Nat.le_refl _)
  apply List.ext_getElem?
  intro i
  unfold yms tabn
  rw [List.getElem?_map]
  by_cases hi : i < b.length
  · have h4 := (h3 i hi).2
    rw [List.getElem?_range hi, Option.map_some, h4, List.getD_eq_getElem?_getD, List.getElem?_eq_getElem hi]; rfl
  · rw [List.getElem?_eq_none (by simpa using Nat.le_of_not_lt hi), List.getElem?_eq_none (Nat.le_of_not_lt hi)]; rfl
theorem nb_enc {l : List Int} (hr : Rt l) {b : List Int} (hb : Byt b) (h : Hs l b) {W : Nat} (hW : W % 2 ^ eL l b = eV l b) : nb l W (eL l b) = b.length ∧ st l W (eL l b) b.length = 0 := by
  obtain ⟨h1, _, h3⟩ := dec_enc hr hb h hW b.length (Nat.le_refl _)
  rw [List.drop_length, eL] at h1
  exact ⟨nb_stop hr (fun j hj => (h3 j hj).1) h1, h1⟩
theorem st_pos_lt {l : List Int} (hr : Rt l) {W t k n : Nat} (hk : k < n) (h : ∀ j, j < n → gd l W t j) : 0 < st l W t k := by
  have := nd_rng hr (h k hk); unfold gd at *; omega
/-- what was read writes the same bits -/
theorem enc_dec {l : List Int} (hr : Rt l) {W t n : Nat} (h : ∀ j, j < n → gd l W t j) (h0 : st l W t n = 0) :
    ∀ m k, k + m = n → eL l ((yms l W t n).drop k) = st l W t k ∧ eV l ((yms l W t n).drop k) = W % 2 ^ st l W t k ∧ Hs l ((yms l W t n).drop k)
  | 0, k, hk => by
    have e : k = n := by omega
    subst e
    rw [List.drop_of_length_le (by rw [yms_len]; omega), h0, Nat.pow_zero, Nat.mod_one]
    exact ⟨rfl, rfl, fun c hc => absurd hc (by simp)⟩
  | m + 1, k, hk => by
    obtain ⟨i1, i2, i3⟩ := enc_dec hr h h0 m (k + 1) (by omega)
    rw [drop_cons' (by rw [yms_len]; omega), show (yms l W t n).getD k 0 = ym l W t k from tabn_get _ _ (by omega)]
    obtain ⟨c, c1, c2, c3, c4, c5⟩ := nd_inv hr (h k (by omega))
    have hy : ym l W t k = (c : Int) := by unfold ym; rw [c4]
    have hs : st l W t k = st l W t (k + 1) + (l.getD c 0).toNat := by rw [st, c4]; simp only; omega
    rw [hy, eL, eV, Int.toNat_natCast, i1, i2]
    refine ⟨hs.symm, ?_, ?_⟩
    · rw [hs, Nat.pow_add, Nat.mod_mul]
      have : wd W (st l W t k) (l.getD c 0).toNat = W / 2 ^ st l W t (k + 1) % 2 ^ (l.getD c 0).toNat := by unfold wd; rw [hs, Nat.add_sub_cancel]
      rw [← this, ← c5, Int.toNat_natCast, Nat.mul_comm (2 ^ _)]
    · intro x hx
      rcases List.mem_cons.1 hx with rfl | hx
      · rw [Int.toNat_natCast]; exact ⟨c1, by omega⟩
      · exact i3 x hx
theorem out_dec {l : List Int} (hr : Rt l) {b : List Int} (hb : Byt b) (hc : Cl b) {n : Nat} (h : ∀ j, j < n → gd l (wn b) (tbt b) j) (h0 : st l (wn b) (tbt b) n = 0) :
    out l (yms l (wn b) (tbt b) n) = b ∧ Hs l (yms l (wn b) (tbt b) n) := by
  obtain ⟨h1, h2, h3⟩ := enc_dec hr h h0 n 0 (by omega)
  have hcl := cl_bd hb hc
  rw [List.drop_zero] at h1 h2 h3
  refine ⟨?_, h3⟩
  unfold out cv
  rw [h1, h2, show st l (wn b) (tbt b) 0 = tbt b from rfl, hcl.2.2.1]
  have e : wn b % 2 ^ tbt b + 2 ^ tbt b = wn b := by
    have h5 := hcl.2.1
    rw [Nat.pow_succ] at h5
    rw [Nat.mod_eq_sub_mod hcl.1, Nat.mod_eq_of_lt (by omega)]; omega
  rw [e, ub_wn hb]
theorem out_cl {l : List Int} (hr : Rt l) {b : List Int} (h : Hs l b) : Cl (out l b) ∧ wn (out l b) = cv l b ∧ tbt (out l b) = eL l b := by
  have := cv_bd hr h
  exact ub_close this.1 this.2.1
end Go.Proofs.Ytilegaokfamfnaa
