/-
  Canonical codes: lengths, trees, the first code words, the code words; the order of assignment.
-/
import Derived.Test.YtilegaokfamfnaaFk
set_option linter.unusedVariables false
namespace Go.Proofs.Ytilegaokfamfnaa
open Go.Fw

/-- the weight of a code length -/
def kw (x : Int) : Int := if 0 < x then 2 ^ (11 - x).toNat else 0
def ks : List Int → Int
  | [] => 0
  | x :: l => kw x + ks l
def mc : List Int → Int
  | [] => 0
  | x :: l => (if 0 < x then 1 else 0) + mc l
/-- lengths within bounds -/
def Bd (l : List Int) : Prop := ∀ x ∈ l, 0 ≤ x ∧ x ≤ 11
instance (l : List Int) : Decidable (Bd l) := inferInstanceAs (Decidable (∀ x ∈ l, 0 ≤ x ∧ x ≤ 11))
/-- a tree -/
def Rt (l : List Int) : Prop := Bd l ∧ l.length ≤ 256 ∧ 1 < mc l ∧ ks l = 2048
instance (l : List Int) : Decidable (Rt l) := inferInstanceAs (Decidable (Bd l ∧ l.length ≤ 256 ∧ 1 < mc l ∧ ks l = 2048))

theorem ks_app : ∀ l m : List Int, ks (l ++ m) = ks l + ks m
  | [], m => by simp [ks]
  | x :: l, m => by simp only [List.cons_append, ks, ks_app l m]; omega
theorem mc_app : ∀ l m : List Int, mc (l ++ m) = mc l + mc m
  | [], m => by simp [mc]
  | x :: l, m => by simp only [List.cons_append, mc, mc_app l m]; omega
theorem kw_tab {x : Int} (h0 : 0 < x) (h1 : x ≤ 11) : 1 ≤ kw x ∧ kw x ≤ 1024 := by
  have : x = 1 ∨ x = 2 ∨ x = 3 ∨ x = 4 ∨ x = 5 ∨ x = 6 ∨ x = 7 ∨ x = 8 ∨ x = 9 ∨ x = 10 ∨ x = 11 := by omega
  rcases this with rfl | rfl | rfl | rfl | rfl | rfl | rfl | rfl | rfl | rfl | rfl <;> decide
theorem kw_bd {x : Int} (h1 : 0 ≤ x ∧ x ≤ 11) : 0 ≤ kw x ∧ kw x ≤ 1024 := by
  by_cases h : 0 < x
  · have := kw_tab h h1.2; omega
  · simp [kw, h]
theorem Bd.nil : Bd [] := fun x h => by simp at h
theorem Bd.snoc {l : List Int} {x : Int} (h : Bd l) (hx : 0 ≤ x ∧ x ≤ 11) : Bd (l ++ [x]) := fun y hy => by
  rcases List.mem_append.1 hy with h1 | h1
  · exact h y h1
  · simp at h1; subst h1; exact hx
theorem Bd.gd {l : List Int} (h : Bd l) (i : Nat) : 0 ≤ l.getD i 0 ∧ l.getD i 0 ≤ 11 := by
  rcases Nat.lt_or_ge i l.length with h1 | h1
  · rw [List.getD_eq_getElem?_getD, List.getElem?_eq_getElem h1]; exact h _ (List.getElem_mem _)
  · rw [List.getD_eq_getElem?_getD, List.getElem?_eq_none h1]; simp
theorem ks_bd : ∀ {l : List Int}, Bd l → 0 ≤ ks l ∧ ks l ≤ 1024 * l.length
  | [], _ => by simp [ks]
  | x :: l, h => by
    have h1 := ks_bd (l := l) fun y hy => h y (List.mem_cons_of_mem _ hy)
    have h2 := kw_bd (h x List.mem_cons_self)
    simp only [ks, List.length_cons]; omega
theorem mc_bd : ∀ (l : List Int), 0 ≤ mc l ∧ mc l ≤ l.length
  | [] => by simp [mc]
  | x :: l => by
    have h1 := mc_bd l
    simp only [mc, List.length_cons]; split <;> omega
theorem tk1 {l : List Int} {k : Nat} (h : k < l.length) : l.take (k + 1) = l.take k ++ [l.getD k 0] := by
  rw [List.take_succ_eq_append_getElem h, List.getD_eq_getElem?_getD, List.getElem?_eq_getElem h]; rfl
theorem ks_take {l : List Int} {k : Nat} (h : k < l.length) : ks (l.take (k + 1)) = ks (l.take k) + kw (l.getD k 0) := by rw [tk1 h, ks_app]; simp [ks]
theorem mc_take {l : List Int} {k : Nat} (h : k < l.length) : mc (l.take (k + 1)) = mc (l.take k) + (if 0 < l.getD k 0 then 1 else 0) := by rw [tk1 h, mc_app]; simp [mc]
theorem Bd.take_step {l : List Int} {k : Nat} (hk : k < l.length) (h : Bd (l.take k)) (hx : 0 ≤ l.getD k 0 ∧ l.getD k 0 ≤ 11) : Bd (l.take (k + 1)) := by rw [tk1 hk]; exact h.snoc hx
theorem not_Rt_of {l : List Int} {k : Nat} (hk : k < l.length) (h : l.getD k 0 < 0 ∨ 11 < l.getD k 0) : ¬ Rt l := fun hr => by
  have := hr.1 (l.getD k 0) (by rw [List.getD_eq_getElem?_getD, List.getElem?_eq_getElem hk]; exact List.getElem_mem _)
  omega
theorem Bd.all {l : List Int} (h : Bd (l.take l.length)) : Bd l := by rwa [List.take_length] at h
theorem shl1 {x : Int} (h0 : 0 < x) (h1 : x ≤ 11) : IntKind.i64.wrap (1 * 2 ^ (min (11 - x).toNat IntKind.i64.bits)) = kw x := by
  have : x = 1 ∨ x = 2 ∨ x = 3 ∨ x = 4 ∨ x = 5 ∨ x = 6 ∨ x = 7 ∨ x = 8 ∨ x = 9 ∨ x = 10 ∨ x = 11 := by omega
  rcases this with rfl | rfl | rfl | rfl | rfl | rfl | rfl | rfl | rfl | rfl | rfl <;> decide
theorem shr2048 {x : Int} (h0 : 0 < x) (h1 : x ≤ 11) : (2048 : Int) / 2 ^ (min x.toNat IntKind.i64.bits) = kw x := by
  have : x = 1 ∨ x = 2 ∨ x = 3 ∨ x = 4 ∨ x = 5 ∨ x = 6 ∨ x = 7 ∨ x = 8 ∨ x = 9 ∨ x = 10 ∨ x = 11 := by omega
  rcases this with rfl | rfl | rfl | rfl | rfl | rfl | rfl | rfl | rfl | rfl | rfl <;> decide

/-! ### counts and first code words -/
/-- how many symbols have length n (n > 0) -/
def cn (l : List Int) (n : Nat) : Int := if n = 0 then 0 else ((l.filter fun x => decide (x = (n : Int))).length : Int)
theorem cn_nonneg (l : List Int) (n : Nat) : 0 ≤ cn l n := by unfold cn; split <;> omega
theorem cn_le (l : List Int) (n : Nat) : cn l n ≤ l.length := by
  unfold cn; split
  · omega
  · have := List.length_filter_le (fun x : Int => decide (x = (n : Int))) l; omega
theorem cn_app (l m : List Int) (n : Nat) : cn (l ++ m) n = cn l n + cn m n := by
  unfold cn; split
  · rfl
  · rw [List.filter_append, List.length_append]; omega
theorem cn_one (x : Int) (n : Nat) : cn [x] n = if 0 < n ∧ x = n then 1 else 0 := by
  unfold cn
  by_cases h0 : n = 0
  · simp [h0]
  · by_cases h1 : x = (n : Int)
    · simp [h0, h1, Nat.pos_of_ne_zero h0]
    · simp [h0, h1]
theorem cn_take {l : List Int} {k : Nat} (h : k < l.length) (n : Nat) : cn (l.take (k + 1)) n = cn (l.take k) n + if 0 < n ∧ l.getD k 0 = n then 1 else 0 := by
  rw [tk1 h, cn_app, cn_one]
theorem cn_take_le (l : List Int) (k n : Nat) : cn (l.take k) n ≤ cn l n := by
  have := cn_app (l.take k) (l.drop k) n
  rw [List.take_append_drop] at this
  have := cn_nonneg (l.drop k) n
  omega
def F (l : List Int) : Nat → Int
  | 0 => 0
  | n + 1 => 2 * (F l n + cn l n)
theorem F_nonneg (l : List Int) : ∀ n, 0 ≤ F l n
  | 0 => by simp [F]
  | n + 1 => by have := F_nonneg l n; have := cn_nonneg l n; simp only [F]; omega
/-- the weights up to length n -/
def K (l : List Int) : Nat → Int
  | 0 => 0
  | n + 1 => K l n + cn l (n + 1) * 2 ^ (11 - (n + 1))
theorem F_K (l : List Int) : ∀ n, n ≤ 11 → (F l n + cn l n) * 2 ^ (11 - n) = K l n
  | 0, _ => by simp [F, K, cn]
  | n + 1, h => by
    have ih := F_K l n (by omega)
    have e : (2 : Int) ^ (11 - n) = 2 * 2 ^ (11 - (n + 1)) := by rw [show 11 - n = (11 - (n + 1)) + 1 from by omega, Int.pow_succ, Int.mul_comm]
    rw [K, ← ih, e, F, Int.add_mul]
    congr 1
    rw [← Int.mul_assoc, Int.mul_comm (F l n + cn l n) 2]
theorem K_mono (l : List Int) : ∀ n, K l n ≤ K l (n + 1) := fun n => by
  have h1 := cn_nonneg l (n + 1)
  have h2 : (0 : Int) ≤ 2 ^ (11 - (n + 1)) := Int.le_of_lt (Int.pow_pos (by decide))
  have := Int.mul_nonneg h1 h2
  simp only [K]; omega
theorem K_le (l : List Int) : ∀ {m n : Nat}, m ≤ n → K l m ≤ K l n := by
  intro m n h
  induction h with
  | refl => exact Int.le_refl _
  | step _ ih => exact Int.le_trans ih (K_mono l _)
theorem K_cons (x : Int) (l : List Int) (hx : 0 ≤ x) : ∀ n, n ≤ 11 → K (x :: l) n = K l n + if 0 < x ∧ x ≤ n then kw x else 0
  | 0, _ => by
    have : ¬ (0 < x ∧ x ≤ ((0 : Nat) : Int)) := by omega
    rw [if_neg this]; simp [K]
  | n + 1, h => by
    have ih := K_cons x l hx n (by omega)
    have e : cn (x :: l) (n + 1) = cn [x] (n + 1) + cn l (n + 1) := cn_app [x] l (n + 1)
    rw [K, ih, e, cn_one, K]
    by_cases h1 : x = ((n + 1 : Nat) : Int)
    · have h2 : ¬ (0 < x ∧ x ≤ (n : Int)) := by omega
      have h3 : 0 < x ∧ x ≤ ((n + 1 : Nat) : Int) := by omega
      rw [if_neg h2, if_pos ⟨by omega, h1⟩, if_pos h3]
      have : kw x = 2 ^ (11 - (n + 1)) := by
        rw [kw, if_pos (by omega)]; congr 1; omega
      rw [this, Int.add_mul]; omega
    · have h9 : ¬ (0 < n + 1 ∧ x = ((n + 1 : Nat) : Int)) := fun h => h1 h.2
      rw [if_neg h9, Int.zero_add]
      by_cases h2 : 0 < x ∧ x ≤ (n : Int)
      · rw [if_pos h2, if_pos (show 0 < x ∧ x ≤ ((n + 1 : Nat) : Int) from by omega)]; omega
      · rw [if_neg h2, if_neg (show ¬ (0 < x ∧ x ≤ ((n + 1 : Nat) : Int)) from by omega)]; omega
theorem K_ks : ∀ {l : List Int}, Bd l → K l 11 = ks l
  | [], _ => by decide
  | x :: l, h => by
    have ih := K_ks (l := l) fun y hy => h y (List.mem_cons_of_mem _ hy)
    have hx := h x List.mem_cons_self
    rw [K_cons x l hx.1 11 (by omega), ih, ks]
    by_cases h1 : 0 < x
    · rw [if_pos ⟨h1, by omega⟩]; omega
    · rw [if_neg (fun h => h1 h.1), kw, if_neg h1]; omega
theorem F_le {l : List Int} (h : Rt l) {n : Nat} (hn : n ≤ 11) : F l n + cn l n ≤ 2 ^ n := by
  have h1 := F_K l n hn
  have h2 := K_le l hn
  rw [K_ks h.1, h.2.2.2] at h2
  have e : (2 : Int) ^ n * 2 ^ (11 - n) = 2048 := by
    rw [← Int.pow_add, show n + (11 - n) = 11 from by omega]; decide
  rw [← h1, ← e] at h2
  exact Int.le_of_mul_le_mul_right h2 (Int.pow_pos (by decide))
theorem F_le' {l : List Int} (h : Rt l) {n : Nat} (hn : n ≤ 11) : 0 ≤ F l n ∧ 0 ≤ cn l n ∧ F l n + cn l n ≤ 2048 := by
  have h1 := F_le h hn
  have h2 : (2 : Int) ^ n ≤ 2 ^ 11 := by
    rw [show (2 : Int) ^ 11 = 2 ^ n * 2 ^ (11 - n) from by rw [← Int.pow_add]; congr 1; omega]
    have h3 : (1 : Int) ≤ 2 ^ (11 - n) := Int.pow_pos (by decide)
    have h4 : (0 : Int) ≤ 2 ^ n := Int.le_of_lt (Int.pow_pos (by decide))
    have := Int.mul_le_mul_of_nonneg_left h3 h4
    omega
  exact ⟨F_nonneg l n, cn_nonneg l n, by omega⟩

/-! ### tables -/
def tab12 (f : Nat → Int) : List Int := (List.range 12).map f
theorem tab12_len (f : Nat → Int) : (tab12 f).length = 12 := by simp [tab12]
theorem tab12_get (f : Nat → Int) {i : Nat} (h : i < 12) : (tab12 f).getD i 0 = f i := by
  rw [List.getD_eq_getElem?_getD, tab12, List.getElem?_map, List.getElem?_range h]; rfl
theorem tab12_set (f : Nat → Int) {i : Nat} (h : i < 12) (v : Int) (g : Nat → Int) (hg : ∀ j, j < 12 → g j = if j = i then v else f j) : (tab12 f).set i v = tab12 g := by
  apply List.ext_getElem?
  intro j
  rcases Nat.lt_or_ge j 12 with hj | hj
  · rw [List.getElem?_set, tab12, tab12, List.getElem?_map, List.getElem?_map, List.getElem?_range hj]
    simp only [List.length_map, List.length_range, Option.map_some, hg j hj]
    by_cases hij : i = j
    · subst hij; simp [h]
    · rw [if_neg hij, if_neg (fun e => hij e.symm)]
  · rw [List.getElem?_eq_none (by simp [tab12]; omega), List.getElem?_eq_none (by simp [tab12]; omega)]
theorem tab12_congr {f g : Nat → Int} (h : ∀ i, i < 12 → f i = g i) : tab12 f = tab12 g := List.map_congr_left fun i hi => h i (List.mem_range.1 hi)
def tabn {α : Type} (n : Nat) (f : Nat → α) : List α := (List.range n).map f
theorem tabn_len {α : Type} (n : Nat) (f : Nat → α) : (tabn n f).length = n := by simp [tabn]
theorem tabn_get {α : Type} {n : Nat} (f : Nat → α) (d : α) {i : Nat} (h : i < n) : (tabn n f).getD i d = f i := by
  rw [List.getD_eq_getElem?_getD, tabn, List.getElem?_map, List.getElem?_range h]; rfl
theorem tabn_set {α : Type} {n : Nat} (f g : Nat → α) {i : Nat} (h : i < n) (v : α) (hg : ∀ j, j < n → g j = if j = i then v else f j) : (tabn n f).set i v = tabn n g := by
  apply List.ext_getElem?
  intro j
  rcases Nat.lt_or_ge j n with hj | hj
  · rw [List.getElem?_set, tabn, tabn, List.getElem?_map, List.getElem?_map, List.getElem?_range hj]
    simp only [List.length_map, List.length_range, Option.map_some, hg j hj]
    by_cases hij : i = j
    · subst hij; simp [h]
    · rw [if_neg hij, if_neg (fun e => hij e.symm)]
  · rw [List.getElem?_eq_none (by simp [tabn]; omega), List.getElem?_eq_none (by simp [tabn]; omega)]
theorem tabn_congr {α : Type} {n : Nat} {f g : Nat → α} (h : ∀ i, i < n → f i = g i) : tabn n f = tabn n g := by
  unfold tabn
  exact List.map_congr_left fun i hi => h i (List.mem_range.1 hi)
theorem tabn_rep {α : Type} (n : Nat) (x : α) : List.replicate n x = tabn n fun _ => x := by
  apply List.ext_getElem?
  intro j
  simp only [tabn, List.getElem?_replicate, List.getElem?_map]
  rcases Nat.lt_or_ge j n with hj | hj
  · rw [if_pos hj, List.getElem?_range hj]; rfl
  · rw [if_neg (by omega), List.getElem?_eq_none (by simpa using hj)]; rfl

/-! ### code words -/
/-- the code word of symbol i: its length and its bits -/
def cd (l : List Int) (i : Nat) : Int × Int := if 0 < l.getD i 0 then (l.getD i 0, F l (l.getD i 0).toNat + cn (l.take i) (l.getD i 0).toNat) else (0, 0)
def cds (l : List Int) : List (Int × Int) := tabn l.length (cd l)
def encC (x : Int × Int) : List Value := [.int .i64 x.1, .int .u32 x.2]
theorem encC_len (x : Int × Int) : (encC x).length = 2 := rfl
theorem encC_one (x : Int × Int) : ∀ u ∈ encC x, u.oneCell' = true := by
  intro u hu; simp [encC] at hu; rcases hu with rfl | rfl <;> rfl
theorem cds_len (l : List Int) : (cds l).length = l.length := tabn_len _ _
theorem cds_get {l : List Int} {i : Nat} (h : i < l.length) : (cds l).getD i (0, 0) = cd l i := tabn_get _ _ h
theorem rank_lt {l : List Int} (hb : Bd l) {i : Nat} (hi : i < l.length) (h0 : 0 < l.getD i 0) : cn (l.take i) (l.getD i 0).toNat + 1 ≤ cn l (l.getD i 0).toNat := by
  have h1 := cn_take hi (l.getD i 0).toNat
  rw [if_pos ⟨by omega, by omega⟩] at h1
  have := cn_take_le l (i + 1) (l.getD i 0).toNat
  omega
theorem cd_bd {l : List Int} (h : Rt l) {i : Nat} (hi : i < l.length) (h0 : 0 < l.getD i 0) : 0 ≤ (cd l i).2 ∧ (cd l i).2 < 2 ^ (l.getD i 0).toNat ∧ (cd l i).1 = l.getD i 0 ∧ (cd l i).2 < 2048 := by
  have h1 := h.1.gd i
  have h2 := F_le h (n := (l.getD i 0).toNat) (by omega)
  have h3 := rank_lt h.1 hi h0
  have h4 := F_nonneg l (l.getD i 0).toNat
  have h5 := cn_nonneg (l.take i) (l.getD i 0).toNat
  have h6 := F_le' h (n := (l.getD i 0).toNat) (by omega)
  rw [cd, if_pos h0]
  exact ⟨by show 0 ≤ _ + _; omega, by show _ + _ < _; omega, rfl, by show _ + _ < _; omega⟩
theorem cd_zero {l : List Int} {i : Nat} (h : ¬ 0 < l.getD i 0) : cd l i = (0, 0) := by rw [cd, if_neg h]
theorem cd_fst {l : List Int} (hb : Bd l) (i : Nat) : (cd l i).1 = l.getD i 0 := by
  have := hb.gd i
  unfold cd; split
  · rfl
  · show (0 : Int) = _; omega
end Go.Proofs.Ytilegaokfamfnaa
