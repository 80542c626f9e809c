/-
  Several texts of this project, put together.
-/
import Derived.Test.YtdppageondgjkaaGreatFB
set_option linter.unusedVariables false
set_option maxRecDepth 100000
namespace Go.Proofs.YtdppageondgjkaaGreat
open Go.Fw
def kw (x : Int) : Int := if 0 < x then 2 ^ (11 - x).toNat else 0
def ks : List Int → Int
  | [] => 0
  | x :: l => kw x + ks l
def mc : List Int → Int
  | [] => 0
  | x :: l => (if 0 < x then 1 else 0) + mc l
def Bd (l : List Int) : Prop := ∀ x ∈ l, 0 ≤ x ∧ x ≤ 11
instance (l : List Int) : Decidable (Bd l) := inferInstanceAs (Decidable (∀ x ∈ l, 0 ≤ x ∧ x ≤ 11))
def Rt (l : List Int) : Prop := Bd l ∧ l.length ≤ 256 ∧ 1 < mc l ∧ ks l = 2048
instance (l : List Int) : Decidable (Rt l) := inferInstanceAs (Decidable (Bd l ∧ l.length ≤ 256 ∧ 1 < mc l ∧ ks l = 2048))
theorem ks_app : ∀ l m : List Int, ks (l ++ m) = ks l + ks m
  | [], m => by simp [ks]
  | x :: l, m => by simp only [List.cons_append, ks, ks_app l m]; omega
theorem mc_app : ∀ l m : List Int, mc (l ++ m) = mc l + mc m
  | [], m => by simp [mc]
  | x :: l, m => by simp only [List.cons_append, mc, mc_app l m]; omega
theorem kw_tab {x : Int} (h0 : 0 < x) (h1 : x ≤ 11) : 1 ≤ kw x ∧ kw x ≤ 1024 := by
  have : x = 1 ∨ x = 2 ∨ x = 3 ∨ x = 4 ∨ x = 5 ∨ x = 6 ∨ x = 7 ∨ x = 8 ∨ x = 9 ∨ x = 10 ∨ x = 11 := by omega
  rcases this with rfl | rfl | rfl | rfl | rfl | rfl | rfl | rfl | rfl | rfl | rfl <;> decide
theorem kw_bd {x : Int} (h1 : 0 ≤ x ∧ x ≤ 11) : 0 ≤ kw x ∧ kw x ≤ 1024 := by
  by_cases h : 0 < x
  · have := kw_tab h h1.2; omega
  simp [kw, h]
theorem Bd.nil : Bd [] := fun x h => by simp at h
theorem Bd.snoc {l : List Int} {x : Int} (h : Bd l) (hx : 0 ≤ x ∧ x ≤ 11) : Bd (l ++ [x]) := fun y hy => by
  rcases List.mem_append.1 hy with h1 | h1
  · exact h y h1
  simp at h1; subst h1; exact hx
theorem Bd.gd {l : List Int} (h : Bd l) (i : Nat) : 0 ≤ l.getD i 0 ∧ l.getD i 0 ≤ 11 := by
  rcases Nat.lt_or_ge i l.length with h1 | h1
  · rw [List.getD_eq_getElem?_getD, List.getElem?_eq_getElem h1]; exact h _ (List.getElem_mem _)
  rw [List.getD_eq_getElem?_getD, List.getElem?_eq_none h1]; simp
theorem ks_bd : ∀ {l : List Int}, Bd l → 0 ≤ ks l ∧ ks l ≤ 1024 * l.length
  | [], _ => by simp [ks]
  | x :: l, h => by
    have h1 := ks_bd (l := l) fun y hy => h y (List.mem_cons_of_mem _ hy)
    have h2 := kw_bd (h x List.mem_cons_self)
    simp only [ks, List.length_cons]; omega
theorem mc_bd : ∀ (l : List Int), 0 ≤ mc l ∧ mc l ≤ l.length
  | [] => by simp [mc]
  | x :: l => by
    have h1 := mc_bd l
    simp only [mc, List.length_cons]; split <;> omega
theorem tk1 {l : List Int} {k : Nat} (h : k < l.length) : l.take (k + 1) = l.take k ++ [l.getD k 0] := by
  rw [List.take_succ_eq_append_getElem h, List.getD_eq_getElem?_getD, List.getElem?_eq_getElem h]; rfl
theorem ks_take {l : List Int} {k : Nat} (h : k < l.length) : ks (l.take (k + 1)) = ks (l.take k) + kw (l.getD k 0) := by rw [tk1 h, ks_app]; simp [ks]
theorem mc_take {l : List Int} {k : Nat} (h : k < l.length) : mc (l.take (k + 1)) = mc (l.take k) + (if 0 < l.getD k 0 then 1 else 0) := by rw [tk1 h, mc_app]; simp [mc]
theorem Bd.take_step {l : List Int} {k : Nat} (hk : k < l.length) (h : Bd (l.take k)) (hx : 0 ≤ l.getD k 0 ∧ l.getD k 0 ≤ 11) : Bd (l.take (k + 1)) := by rw [tk1 hk]; exact h.snoc hx
theorem not_Rt_of {l : List Int} {k : Nat} (hk : k < l.length) (h : l.getD k 0 < 0 ∨ 11 < l.getD k 0) : ¬ Rt l := fun hr => by
  have := hr.1 (l.getD k 0) (by rw [List.getD_eq_getElem?_getD, List.getElem?_eq_getElem hk]; exact List.getElem_mem _)
  omega
theorem shl1 {x : Int} (h0 : 0 < x) (h1 : x ≤ 11) : IntKind.i64.wrap (1 * 2 ^ (min (11 - x).toNat IntKind.i64.bits)) = kw x := by
  have : x = 1 ∨ x = 2 ∨ x = 3 ∨ x = 4 ∨ x = 5 ∨ x = 6 ∨ x = 7 ∨ x = 8 ∨ x = 9 ∨ x = 10 ∨ x = 11 := by omega
  rcases this with rfl | rfl | rfl | rfl | rfl | rfl | rfl | rfl | rfl | rfl | rfl <;> decide
theorem shr2048 {x : Int} (h0 : 0 < x) (h1 : x ≤ 11) : (2048 : Int) / 2 ^ (min x.toNat IntKind.i64.bits) = kw x := by
  have : x = 1 ∨ x = 2 ∨ x = 3 ∨ x = 4 ∨ x = 5 ∨ x = 6 ∨ x = 7 ∨ x = 8 ∨ x = 9 ∨ x = 10 ∨ x = 11 := by omega
  rcases this with rfl | rfl | rfl | rfl | rfl | rfl | rfl | rfl | rfl | rfl | rfl <;> decide
/-! ### counts and first code words -/
def cn (l : List Int) (n : Nat) : Int := if n = 0 then 0 else ((l.filter fun x => decide (x = (n : Int))).length : Int)
theorem cn_nonneg (l : List Int) (n : Nat) : 0 ≤ cn l n := by unfold cn; split <;> omega
theorem cn_le (l : List Int) (n : Nat) : cn l n ≤ l.length := by
  unfold cn; split
  · omega
  have := List.length_filter_le (fun x : Int => decide (x = (n : Int))) l; omega
theorem cn_app (l m : List Int) (n : Nat) : cn (l ++ m) n = cn l n + cn m n := by
  unfold cn; split
  · rfl
  rw [List.filter_append, List.length_append]; omega
theorem cn_one (x : Int) (n : Nat) : cn [x] n = if 0 < n ∧ x = n then 1 else 0 := by
  unfold cn
  by_cases h0 : n = 0
  · simp [h0]
  by_cases h1 : x = (n : Int)
  · simp [h0, h1, Nat.pos_of_ne_zero h0]
  simp [h0, h1]
theorem cn_take {l : List Int} {k : Nat} (h : k < l.length) (n : Nat) : cn (l.take (k + 1)) n = cn (l.take k) n + if 0 < n ∧ l.getD k 0 = n then 1 else 0 := by
  rw [tk1 h, cn_app, cn_one]
theorem cn_take_le (l : List Int) (k n : Nat) : cn (l.take k) n ≤ cn l n := by
  have := cn_app (l.take k) (l.drop k) n
  rw [List.take_append_drop] at this
  have := cn_nonneg (l.drop k) n
  omega
def F (l : List Int) : Nat → Int
  | 0 => 0
  | n + 1 => 2 * (F l n + cn l n)
theorem F_nonneg (l : List Int) : ∀ n, 0 ≤ F l n
  | 0 => by simp [F]
  | n + 1 => by have := F_nonneg l n; have := cn_nonneg l n; simp only [F]; omega
def K (l : List Int) : Nat → Int
  | 0 => 0
  | n + 1 => K l n + cn l (n + 1) * 2 ^ (11 - (n + 1))
theorem F_K (l : List Int) : ∀ n, n ≤ 11 → (F l n + cn l n) * 2 ^ (11 - n) = K l n
  | 0, _ => by simp [F, K, cn]
  | n + 1, h => by
    have ih := F_K l n (by omega)
    have e : (2 : Int) ^ (11 - n) = 2 * 2 ^ (11 - (n + 1)) := by rw [show 11 - n = (11 - (n + 1)) + 1 from by omega, Int.pow_succ, Int.mul_comm]
    rw [K, ← ih, e, F, Int.add_mul]
    congr 1
    rw [← Int.mul_assoc, Int.mul_comm (F l n + cn l n) 2]
theorem K_mono (l : List Int) : ∀ n, K l n ≤ K l (n + 1) := fun n => by
  have h1 := cn_nonneg l (n + 1)
  have h2 : (0 : Int) ≤ 2 ^ (11 - (n + 1)) := Int.le_of_lt (Int.pow_pos (by decide))
  have := Int.mul_nonneg h1 h2
  simp only [K]; omega
theorem K_le (l : List Int) : ∀ {m n : Nat}, m ≤ n → K l m ≤ K l n := by
  intro m n h
  induction h with
  | refl => exact Int.le_refl _
  | step _ ih => exact Int.le_trans ih (K_mono l _)
theorem K_cons (x : Int) (l : List Int) (hx : 0 ≤ x) : ∀ n, n ≤ 11 → K (x :: l) n = K l n + if 0 < x ∧ x ≤ n then kw x else 0
  | 0, _ => by
    have : ¬ (0 < x ∧ x ≤ ((0 : Nat) : Int)) := by omega
    rw [if_neg this]; simp [K]
  | n + 1, h => by
    have ih := K_cons x l hx n (by omega)
    have e : cn (x :: l) (n + 1) = cn [x] (n + 1) + cn l (n + 1) := cn_app [x] l (n + 1)
    rw [K, ih, e, cn_one, K]
    by_cases h1 : x = ((n + 1 : Nat) : Int)
    · have h2 : ¬ (0 < x ∧ x ≤ (n : Int)) := by omega
      have h3 : 0 < x ∧ x ≤ ((n + 1 : Nat) : Int) := by omega
      rw [if_neg h2, if_pos ⟨by omega, h1⟩, if_pos h3]
      have : kw x = 2 ^ (11 - (n + 1)) := by
        rw [kw, if_pos (by omega)]; congr 1; omega
      rw [this, Int.add_mul]; omega
    have h9 : ¬ (0 < n + 1 ∧ x = ((n + 1 : Nat) : Int)) := fun h => h1 h.2
    rw [if_neg h9, Int.zero_add]
    by_cases h2 : 0 < x ∧ x ≤ (n : Int)
    · rw [if_pos h2, if_pos (show 0 < x ∧ x ≤ ((n + 1 : Nat) : Int) from by omega)]; omega
    rw [if_neg h2, if_neg (show ¬ (0 < x ∧ x ≤ ((n + 1 : Nat) : Int)) from by omega)]; omega
theorem K_ks : ∀ {l : List Int}, Bd l → K l 11 = ks l
  | [], _ => by decide
  | x :: l, h => by
    have ih := K_ks (l := l) fun y hy => h y (List.mem_cons_of_mem _ hy)
    have hx := h x List.mem_cons_self
    rw [K_cons x l hx.1 11 (by omega), ih, ks]
    by_cases h1 : 0 < x
    · rw [if_pos ⟨h1, by omega⟩]; omega
    rw [if_neg (fun h => h1 h.1), kw, if_neg h1]; omega
theorem F_le {l : List Int} (h : Rt l) {n : Nat} (hn : n ≤ 11) : F l n + cn l n ≤ 2 ^ n := by
  have h1 := F_K l n hn
  have h2 := K_le l hn
  rw [K_ks h.1, h.2.2.2] at h2
  have e : (2 : Int) ^ n * 2 ^ (11 - n) = 2048 := by
    rw [← Int.pow_add, show n + (11 - n) = 11 from by omega]; decide
  rw [← h1, ← e] at h2
  exact Int.le_of_mul_le_mul_right h2 (Int.pow_pos (by decide))
theorem F_le' {l : List Int} (h : Rt l) {n : Nat} (hn : n ≤ 11) : 0 ≤ F l n ∧ 0 ≤ cn l n ∧ F l n + cn l n ≤ 2048 := by
  have h1 := F_le h hn
  have h2 : (2 : Int) ^ n ≤ 2 ^ 11 := by
    rw [show (2 : Int) ^ 11 = 2 ^ n * 2 ^ (11 - n) from by rw [← Int.pow_add]; congr 1; omega]
    have h3 : (1 : Int) ≤ 2 ^ (11 - n) := Int.pow_pos (by decide)
    have h4 : (0 : Int) ≤ 2 ^ n := Int.le_of_lt (Int.pow_pos (by decide))
    have := Int.mul_le_mul_of_nonneg_left h3 h4
    omega
  exact ⟨F_nonneg l n, cn_nonneg l n, by omega⟩
/-! ### tables -/
def tab12 (f : Nat → Int) : List Int := (List.range 12).map f
theorem tab12_len (f : Nat → Int) : (tab12 f).length = 12 := by simp [tab12]
theorem tab12_get (f : Nat → Int) {i : Nat} (h : i < 12) : (tab12 f).getD i 0 = f i := by
  rw [List.getD_eq_getElem?_getD, tab12, List.getElem?_map, List.getElem?_range h]; rfl
theorem tab12_set (f : Nat → Int) {i : Nat} (h : i < 12) (v : Int) (g : Nat → Int) (hg : ∀ j, j < 12 → g j = if j = i then v else f j) : (tab12 f).set i v = tab12 g := by
  apply List.ext_getElem?
  intro j
  rcases Nat.lt_or_ge j 12 with hj | hj
  · rw [List.getElem?_set, tab12, tab12, List.getElem?_map, List.getElem?_map, List.getElem?_range hj]
    simp only [List.length_map, List.length_range, Option.map_some, hg j hj]
    by_cases hij : i = j
    · subst hij; simp [h]
    rw [if_neg hij, if_neg (fun e => hij e.symm)]
  rw [List.getElem?_eq_none (by simp [tab12]; omega), List.getElem?_eq_none (by simp [tab12]; omega)]
theorem tab12_congr {f g : Nat → Int} (h : ∀ i, i < 12 → f i = g i) : tab12 f = tab12 g := List.map_congr_left fun i hi => h i (List.mem_range.1 hi)
def tabn {α : Type} (n : Nat) (f : Nat → α) : List α := (List.range n).map f
theorem tabn_len {α : Type} (n : Nat) (f : Nat → α) : (tabn n f).length = n := by simp [tabn]
theorem tabn_get {α : Type} {n : Nat} (f : Nat → α) (d : α) {i : Nat} (h : i < n) : (tabn n f).getD i d = f i := by
  rw [List.getD_eq_getElem?_getD, tabn, List.getElem?_map, List.getElem?_range h]; rfl
theorem tabn_set {α : Type} {n : Nat} (f g : Nat → α) {i : Nat} (h : i < n) (v : α) (hg : ∀ j, j < n → g j = if j = i then v else f j) : (tabn n f).set i v = tabn n g := by
  apply List.ext_getElem?
  intro j
  rcases Nat.lt_or_ge j n with hj | hj
  · rw [List.getElem?_set, tabn, tabn, List.getElem?_map, List.getElem?_map, List.getElem?_range hj]
    simp only [List.length_map, List.length_range, Option.map_some, hg j hj]
    by_cases hij : i = j
    · subst hij; simp [h]
    rw [if_neg hij, if_neg (fun e => hij e.symm)]
  rw [List.getElem?_eq_none (by simp [tabn]; omega), List.getElem?_eq_none (by simp [tabn]; omega)]
theorem tabn_congr {α : Type} {n : Nat} {f g : Nat → α} (h : ∀ i, i < n → f i = g i) : tabn n f = tabn n g := by
  unfold tabn
  exact List.map_congr_left fun i hi => h i (List.mem_range.1 hi)
theorem tabn_rep {α : Type} (n : Nat) (x : α) : List.replicate n x = tabn n fun _ => x := by
  apply List.ext_getElem?
  intro j
  simp only [tabn, List.getElem?_replicate, List.getElem?_map]
  rcases Nat.lt_or_ge j n with hj | hj
  · rw [if_pos hj, List.getElem?_range hj]; rfl
  rw [if_neg (by omega), List.getElem?_eq_none (by simpa using hj)]; rfl
/-! ### code words -/
def cd (l : List Int) (i : Nat) : Int × Int := if 0 < l.getD i 0 then (l.getD i 0, F l (l.getD i 0).toNat + cn (l.take i) (l.getD i 0).toNat) else (0, 0)
def cds (l : List Int) : List (Int × Int) := tabn l.length (cd l)
def encC (x : Int × Int) : List Value := [.int .i64 x.1, .int .u32 x.2]
theorem encC_len (x : Int × Int) : (encC x).length = 2 := rfl
theorem encC_one (x : Int × Int) : ∀ u ∈ encC x, u.oneCell' = true := by
  intro u hu; simp [encC] at hu; rcases hu with rfl | rfl <;> rfl
theorem cds_len (l : List Int) : (cds l).length = l.length := tabn_len _ _
theorem cds_get {l : List Int} {i : Nat} (h : i < l.length) : (cds l).getD i (0, 0) = cd l i := tabn_get _ _ h
theorem rank_lt {l : List Int} (hb : Bd l) {i : Nat} (hi : i < l.length) (h0 : 0 < l.getD i 0) : cn (l.take i) (l.getD i 0).toNat + 1 ≤ cn l (l.getD i 0).toNat := by
  have h1 := cn_take hi (l.getD i 0).toNat
  rw [if_pos ⟨by omega, by omega⟩] at h1
  have := cn_take_le l (i + 1) (l.getD i 0).toNat
  omega
theorem cd_bd {l : List Int} (h : Rt l) {i : Nat} (hi : i < l.length) (h0 : 0 < l.getD i 0) : 0 ≤ (cd l i).2 ∧ (cd l i).2 < 2 ^ (l.getD i 0).toNat ∧ (cd l i).1 = l.getD i 0 ∧ (cd l i).2 < 2048 := by
  have h1 := h.1.gd i
  have h2 := F_le h (n := (l.getD i 0).toNat) (by omega)
  have h3 := rank_lt h.1 hi h0
  have h4 := F_nonneg l (l.getD i 0).toNat
  have h5 := cn_nonneg (l.take i) (l.getD i 0).toNat
  have h6 := F_le' h (n := (l.getD i 0).toNat) (by omega)
  rw [cd, if_pos h0]
  exact ⟨by show 0 ≤ _ + _; omega, by show _ + _ < _; omega, rfl, by show _ + _ < _; omega⟩
theorem cd_zero {l : List Int} {i : Nat} (h : ¬ 0 < l.getD i 0) : cd l i = (0, 0) := by rw [cd, if_neg h]
theorem cd_fst {l : List Int} (hb : Bd l) (i : Nat) : (cd l i).1 = l.getD i 0 := by
  have := hb.gd i
  unfold cd; split
  · rfl
  show (0 : Int) = _; omega
def qrd (bits n : Int) (x : Int × Int) : Bool := decide (0 < x.1 ∧ x.1 ≤ n ∧ bits / 2 ^ (min (n - x.1).toNat IntKind.u64.bits) = x.2)
def Va (bits n : Int) : Prop := (0 ≤ n ∧ n ≤ 64) ∧ (n = 64 ∨ bits / 2 ^ (min n.toNat IntKind.u64.bits) = 0)
instance (bits n : Int) : Decidable (Va bits n) := inferInstanceAs (Decidable ((0 ≤ n ∧ n ≤ 64) ∧ (n = 64 ∨ bits / 2 ^ (min n.toNat IntKind.u64.bits) = 0)))
def dec (l : List Int) (bits n : Int) : Int × Int × Int :=
  if ¬ Rt l then (0, 0, 12) else if ¬ Va bits n then (0, 0, 2) else
  if fidx (qrd bits n) (cds l) < 0 then (0, 0, 3) else (fidx (qrd bits n) (cds l), ((cds l).getD (fidx (qrd bits n) (cds l)).toNat (0, 0)).1, 0)
theorem dec_no {l : List Int} (h : ¬ Rt l) (bits n : Int) : dec l bits n = (0, 0, 12) := if_pos h
theorem dec_arg {l : List Int} (h : Rt l) {bits n : Int} (h2 : ¬ Va bits n) : dec l bits n = (0, 0, 2) := by rw [dec, if_neg (by simpa using h), if_pos h2]
theorem dec_short {l : List Int} (h : Rt l) {bits n : Int} (h2 : Va bits n) (h3 : fidx (qrd bits n) (cds l) < 0) : dec l bits n = (0, 0, 3) := by
  rw [dec, if_neg (by simpa using h), if_neg (by simpa using h2), if_pos h3]
theorem dec_ok {l : List Int} (h : Rt l) {bits n : Int} (h2 : Va bits n) (h3 : ¬ fidx (qrd bits n) (cds l) < 0) : dec l bits n = (fidx (qrd bits n) (cds l), ((cds l).getD (fidx (qrd bits n) (cds l)).toNat (0, 0)).1, 0) := by
  rw [dec, if_neg (by simpa using h), if_neg (by simpa using h2), if_neg h3]
def Vc (c : Int × Int) : Prop := 1 ≤ c.1 ∧ c.1 ≤ 11 ∧ c.2 < 2 ^ c.1.toNat
instance (c : Int × Int) : Decidable (Vc c) := inferInstanceAs (Decidable (1 ≤ c.1 ∧ c.1 ≤ 11 ∧ c.2 < 2 ^ c.1.toNat))
def Pfx (a b : Int × Int) : Prop := Vc a ∧ Vc b ∧ a.1 ≤ b.1 ∧ b.2 / 2 ^ (min (b.1 - a.1).toNat IntKind.u32.bits) = a.2
instance (a b : Int × Int) : Decidable (Pfx a b) := inferInstanceAs (Decidable (Vc a ∧ Vc b ∧ a.1 ≤ b.1 ∧ b.2 / 2 ^ (min (b.1 - a.1).toNat IntKind.u32.bits) = a.2))
def mx : List Int → Int
  | [] => 0
  | x :: l => max x (mx l)
theorem mx_app (l m : List Int) (h : ∀ x ∈ m, 0 ≤ x) : mx (l ++ m) = max (mx l) (mx m) := by
  have h0 : ∀ m : List Int, 0 ≤ mx m := by
    intro m; induction m with
    | nil => simp [mx]
    | cons x m ih => simp only [mx]; omega
  induction l with
  | nil => have := h0 m; simp only [List.nil_append, mx]; omega
  | cons x l ih => simp only [List.cons_append, mx, ih]; omega
theorem mx_take {l : List Int} (h : Bd l) {k : Nat} (hk : k < l.length) : mx (l.take (k + 1)) = max (mx (l.take k)) (l.getD k 0) := by
  have := h.gd k
  rw [tk1 hk, mx_app _ _ (fun x hx => by simp at hx; rw [hx]; exact this.1)]
  simp only [mx]; omega
theorem mx_nonneg : ∀ l : List Int, 0 ≤ mx l
  | [] => by simp [mx]
  | x :: l => by have := mx_nonneg l; simp only [mx]; omega
theorem mx_le {l : List Int} (h : Bd l) : mx l ≤ 11 := by
  induction l with
  | nil => simp [mx]
  | cons x l ih =>
    have := ih fun y hy => h y (List.mem_cons_of_mem _ hy)
    have := h x List.mem_cons_self
    simp only [mx]; omega
theorem Rt.pos {l : List Int} (h : Rt l) : 0 < l.length := by
  have := mc_bd l
  have := h.2.2.1
  omega
def blk (l : List Int) (n : Nat) : Nat → List Int
  | 0 => []
  | i + 1 => blk l n i ++ if l.getD i 0 = (n : Int) then [(i : Int)] else []
theorem blk_len {l : List Int} {n : Nat} (hn : 0 < n) : ∀ {i : Nat}, i ≤ l.length → ((blk l n i).length : Int) = cn (l.take i) n
  | 0, _ => by simp [blk, cn]
  | i + 1, h => by
    have ih := blk_len (l := l) hn (i := i) (by omega)
    rw [cn_take (by omega), ← ih, blk, List.length_append]
    by_cases h1 : l.getD i 0 = (n : Int)
    · rw [if_pos h1, if_pos ⟨hn, h1⟩]; simp
    rw [if_neg h1, if_neg (fun h => h1 h.2)]; simp
theorem blk_all {l : List Int} {n : Nat} (hn : 0 < n) : ((blk l n l.length).length : Int) = cn l n := by
  have := blk_len (l := l) hn (Nat.le_refl _); rwa [List.take_length] at this
theorem blk_mem {l : List Int} {n : Nat} {x : Int} : ∀ {i : Nat}, x ∈ blk l n i ↔ ∃ j : Nat, j < i ∧ l.getD j 0 = (n : Int) ∧ x = (j : Int)
  | 0 => by simp [blk]
  | i + 1 => by
    rw [blk, List.mem_append, blk_mem (i := i)]
    constructor
    · rintro (⟨j, h1, h2, h3⟩ | h)
      · exact ⟨j, by omega, h2, h3⟩
      split at h
      · rename_i h2; simp at h; exact ⟨i, by omega, h2, h⟩
      simp at h
    rintro ⟨j, h1, h2, h3⟩
    by_cases h4 : j = i
    · subst h4; right; rw [if_pos h2]; simp [h3]
    exact .inl ⟨j, by omega, h2, h3⟩
theorem blk_rank {l : List Int} {n : Nat} (hn : 0 < n) {x : Int} {r : Nat} : ∀ {i : Nat}, i ≤ l.length → (blk l n i)[r]? = some x → ∃ j : Nat, x = (j : Int) ∧ j < i ∧ l.getD j 0 = (n : Int) ∧ (r : Int) = cn (l.take j) n
  | 0, _, h => by simp [blk] at h
  | i + 1, hi, h => by
    have hl := blk_len (l := l) hn (i := i) (by omega)
    rw [blk, List.getElem?_append] at h
    split at h
    · obtain ⟨j, h1, h2, h3⟩ := blk_rank hn (i := i) (by omega) h
      exact ⟨j, h1, by omega, h3⟩
    rename_i hr
    split at h
    · rename_i h2
      have h0 : r - (blk l n i).length = 0 := by
        rcases Nat.eq_zero_or_pos (r - (blk l n i).length) with h4 | h4
        · exact h4
        rw [List.getElem?_eq_none (by simp; omega)] at h; cases h
      rw [h0] at h
      simp only [List.getElem?_cons_zero, Option.some.injEq] at h
      exact ⟨i, h.symm, by omega, h2, by omega⟩
    simp at h
def ordU (l : List Int) : Nat → List Int
  | 0 => []
  | n + 1 => ordU l n ++ blk l (n + 1) l.length
def rst (l : List Int) : Nat → List Int
  | 0 => []
  | m + 1 => blk l (11 - m) l.length ++ rst l m
def ord (l : List Int) : List Int := ordU l 11
theorem ord_split (l : List Int) {n : Nat} (h : n ≤ 11) : ordU l n ++ rst l (11 - n) = ord l := by
  have key : ∀ m, m ≤ 11 → ordU l (11 - m) ++ rst l m = ord l := by
    intro m
    induction m with
    | zero => intro _; simp [rst, ord]
    | succ m ih =>
      intro h
      rw [← ih (by omega), rst, ← List.append_assoc]
      congr 1
      rw [show 11 - m = (11 - (m + 1)) + 1 from by omega, ordU]
  have := key (11 - n) (by omega)
  rwa [show 11 - (11 - n) = n from by omega] at this
theorem rst_mem {l : List Int} {x : Int} : ∀ {m : Nat}, m ≤ 11 → x ∈ rst l m → ∃ j : Nat, j < l.length ∧ (12 - m : Nat) ≤ l.getD j 0 ∧ l.getD j 0 ≤ 11 ∧ x = (j : Int)
  | 0, _, h => by simp [rst] at h
  | m + 1, hm, h => by
    rw [rst, List.mem_append] at h
    rcases h with h | h
    · obtain ⟨j, h1, h2, h3⟩ := blk_mem.1 h
      exact ⟨j, h1, by omega, by omega, h3⟩
    obtain ⟨j, h1, h2, h3⟩ := rst_mem (m := m) (by omega) h
    exact ⟨j, h1, by omega, h3⟩
theorem ordU_mem {l : List Int} {x : Int} : ∀ {n : Nat}, x ∈ ordU l n ↔ ∃ j : Nat, j < l.length ∧ 0 < l.getD j 0 ∧ l.getD j 0 ≤ n ∧ x = (j : Int)
  | 0 => by
    simp only [ordU, List.not_mem_nil, false_iff]
    rintro ⟨j, h⟩; omega
  | n + 1 => by
    rw [ordU, List.mem_append, ordU_mem (n := n), blk_mem]
    constructor
    · rintro (⟨j, h1, h2, h3, h4⟩ | ⟨j, h1, h2, h3⟩)
      · exact ⟨j, h1, h2, by omega, h4⟩
      exact ⟨j, h1, by omega, by omega, h3⟩
    rintro ⟨j, h1, h2, h3, h4⟩
    by_cases h5 : l.getD j 0 = ((n + 1 : Nat) : Int)
    · exact .inr ⟨j, h1, h5, h4⟩
    exact .inl ⟨j, h1, h2, by omega, h4⟩
theorem ord_mem {l : List Int} (hb : Bd l) {j : Nat} (hj : j < l.length) : (j : Int) ∈ ord l ↔ 0 < l.getD j 0 := by
  rw [ord, ordU_mem]
  constructor
  · rintro ⟨k, h1, h2, h3, h4⟩
    have : j = k := by omega
    rw [this]; exact h2
  intro h; exact ⟨j, hj, h, (hb.gd j).2, rfl⟩
theorem ord_at {l : List Int} {i : Nat} (h : i < (ord l).length) : ∃ j : Nat, (ord l).getD i 0 = (j : Int) ∧ j < l.length ∧ 0 < l.getD j 0 ∧ l.getD j 0 ≤ 11 := by
  have hm : (ord l).getD i 0 ∈ ord l := by rw [List.getD_eq_getElem?_getD, List.getElem?_eq_getElem h]; exact List.getElem_mem _
  obtain ⟨j, h1, h2, h3, h4⟩ := ordU_mem.1 hm
  exact ⟨j, h4, h1, h2, by omega⟩
structure St (l : List Int) (i n r : Nat) : Prop where
  h1 : 1 ≤ n
  h2 : n ≤ 11
  hr : r ≤ (blk l n l.length).length
  hd : (ord l).drop i = (blk l n l.length).drop r ++ rst l (11 - n)
theorem drop_cons {l : List Int} {i : Nat} (h : i < l.length) : l.drop i = l.getD i 0 :: l.drop (i + 1) := by
  rw [List.drop_eq_getElem_cons h, List.getD_eq_getElem?_getD, List.getElem?_eq_getElem h]; rfl
theorem st_start {l : List Int} : St l 0 1 0 := by
  refine ⟨by omega, by omega, by omega, ?_⟩
  have := ord_split l (n := 1) (by omega)
  rw [← this]
  simp [ordU]
theorem St.head {l : List Int} {i n r : Nat} (h : St l i n r) (hi : i < (ord l).length) : ∃ j : Nat, (ord l).getD i 0 = (j : Int) ∧ j < l.length ∧ (n : Int) ≤ l.getD j 0 ∧ l.getD j 0 ≤ 11 := by
  have hm : (ord l).getD i 0 ∈ (blk l n l.length).drop r ++ rst l (11 - n) := by rw [← h.hd, drop_cons hi]; exact List.mem_cons_self
  rcases List.mem_append.1 hm with h3 | h3
  · obtain ⟨j, h4, h5, h6⟩ := blk_mem.1 (List.mem_of_mem_drop h3)
    have := h.h2
    exact ⟨j, h6, h4, by omega, by omega⟩
  obtain ⟨j, h4, h5, h6, h7⟩ := rst_mem (by omega) h3
  exact ⟨j, h7, h4, by omega, h6⟩
theorem St.next {l : List Int} {i n r : Nat} (h : St l i n r) (hi : i < (ord l).length) {j : Nat} (hj : (ord l).getD i 0 = (j : Int)) (hn : (n : Int) < l.getD j 0) : St l i (n + 1) 0 ∧ (r : Int) = cn l n := by
  have hd := h.hd
  have h1 := h.h1
  have hr := h.hr
  have hb := blk_all (l := l) (n := n) (by omega)
  have he : (blk l n l.length).drop r = [] := by
    cases hq : (blk l n l.length).drop r with
    | nil => rfl
    | cons x t =>
      rw [hq, drop_cons hi] at hd
      simp only [List.cons_append, List.cons.injEq] at hd
      have hm : x ∈ blk l n l.length := List.mem_of_mem_drop (by rw [hq]; exact List.mem_cons_self)
      obtain ⟨k, h4, h5, h6⟩ := blk_mem.1 hm
      have : k = j := by omega
      subst this
      omega
  have hlen := List.drop_eq_nil_iff.1 he
  have h11 : n ≠ 11 := by
    intro h11
    obtain ⟨j', e1, _, _, e4⟩ := h.head hi
    have : j' = j := by omega
    subst this
    omega
  have := h.h2
  refine ⟨⟨by omega, by omega, by omega, ?_⟩, by omega⟩
  rw [hd, he, show 11 - n = (11 - (n + 1)) + 1 from by omega, rst, show 11 - (11 - (n + 1)) = n + 1 from by omega]
  simp
theorem St.take {l : List Int} {i n r : Nat} (h : St l i n r) (hi : i < (ord l).length) {j : Nat} (hj : (ord l).getD i 0 = (j : Int)) (hn : ¬ (n : Int) < l.getD j 0) : St l (i + 1) n (r + 1) ∧ l.getD j 0 = (n : Int) ∧ (r : Int) = cn (l.take j) n := by
  have hd := h.hd
  have h1 := h.h1
  obtain ⟨j', e1, e2, e3, e4⟩ := h.head hi
  have : j' = j := by omega
  subst this
  have hlt : r < (blk l n l.length).length := by
    rcases Nat.lt_or_ge r (blk l n l.length).length with h5 | h5
    · exact h5
    rw [List.drop_eq_nil_iff.2 h5, drop_cons hi, List.nil_append] at hd
    have hm : (ord l).getD i 0 ∈ rst l (11 - n) := by rw [← hd]; exact List.mem_cons_self
    obtain ⟨k, h6, h7, _, h8⟩ := rst_mem (by omega) hm
    have : k = j' := by omega
    subst this
    have := h.h2
    omega
  rw [drop_cons hi, drop_cons hlt] at hd
  simp only [List.cons_append, List.cons.injEq] at hd
  have hb : (blk l n l.length)[r]? = some (j' : Int) := by
    rw [← e1, hd.1, List.getD_eq_getElem?_getD, List.getElem?_eq_getElem hlt]; rfl
  obtain ⟨k, h6, h7, h8, h9⟩ := blk_rank (by omega) (Nat.le_refl _) hb
  have : k = j' := by omega
  subst this
  exact ⟨⟨h1, h.h2, by omega, hd.2⟩, h8, h9⟩
theorem st_first {l : List Int} (hi : 0 < (ord l).length) {j : Nat} (hj : (ord l).getD 0 0 = (j : Int)) : St l 0 (l.getD j 0).toNat 0 ∧ F l (l.getD j 0).toNat = 0 ∧ 0 < l.getD j 0 := by
  obtain ⟨j', e1, e2, e3, e4⟩ := ord_at hi
  have : j' = j := by omega
  subst this
  have key : ∀ m : Nat, 1 ≤ m → (m : Int) ≤ l.getD j' 0 → St l 0 m 0 ∧ F l m = 0 := by
    intro m
    induction m with
    | zero => intro h; omega
    | succ m ih =>
      intro h1 h2
      rcases Nat.eq_zero_or_pos m with h3 | h3
      · subst h3
        exact ⟨st_start, by simp [F, cn]⟩
      obtain ⟨h4, h5⟩ := ih (by omega) (by omega)
      obtain ⟨h6, h7⟩ := h4.next hi hj (by omega)
      exact ⟨h6, by rw [F, h5]; omega⟩
  obtain ⟨h1, h2⟩ := key (l.getD j' 0).toNat (by omega) (by omega)
  exact ⟨h1, h2, e3⟩
theorem St.cd {l : List Int} {i n r : Nat} (h : St l i n r) (hi : i < (ord l).length) {j : Nat} (hj : (ord l).getD i 0 = (j : Int)) (hn : ¬ (n : Int) < l.getD j 0) : cd l j = ((n : Int), F l n + r) := by
  obtain ⟨_, h1, h2⟩ := h.take hi hj hn
  have := h.h1
  rw [Go.Proofs.YtdppageondgjkaaGreat.cd, if_pos (by omega), h1, h2]
  rfl
def outS (l : List Int) (k j : Nat) : Int × Int := if (j : Int) ∈ (ord l).take k then Go.Proofs.YtdppageondgjkaaGreat.cd l j else (0, 0)
theorem outS_zero (l : List Int) (j : Nat) : outS l 0 j = (0, 0) := by simp [outS]
theorem outS_all {l : List Int} (hb : Bd l) {k j : Nat} (hk : (ord l).length ≤ k) (hj : j < l.length) : outS l k j = Go.Proofs.YtdppageondgjkaaGreat.cd l j := by
  unfold outS
  rw [List.take_of_length_le hk]
  split
  · rfl
  rename_i h; rw [cd_zero (fun h2 => h ((ord_mem hb hj).2 h2))]
theorem outS_step {l : List Int} {k j : Nat} (hk : k < (ord l).length) (hj : (ord l).getD k 0 = (j : Int)) {v : Int × Int} (hv : Go.Proofs.YtdppageondgjkaaGreat.cd l j = v) (i : Nat) : outS l (k + 1) i = if i = j then v else outS l k i := by
  unfold outS
  rw [tk1 hk, hj]
  by_cases h : i = j
  · subst h; rw [if_pos rfl, if_pos (by simp), hv]
  rw [if_neg h]
  have : ((i : Int) ∈ (ord l).take k ++ [(j : Int)]) ↔ (i : Int) ∈ (ord l).take k := by
    rw [List.mem_append]
    constructor
    · rintro (h1 | h1)
      · exact h1
      simp at h1; omega
    exact .inl
  by_cases h1 : (i : Int) ∈ (ord l).take k
  · rw [if_pos h1, if_pos (this.2 h1)]
  rw [if_neg h1, if_neg (fun h2 => h1 (this.1 h2))]
theorem ord_pos {l : List Int} (h : Rt l) : 0 < (ord l).length := by
  have key : ∀ l : List Int, 0 < mc l → ∃ j, j < l.length ∧ 0 < l.getD j 0 := by
    intro l
    induction l with
    | nil => intro h; simp [mc] at h
    | cons x l ih =>
      intro h
      by_cases hx : 0 < x
      · exact ⟨0, by simp, by simpa using hx⟩
      rw [mc, if_neg hx] at h
      obtain ⟨j, h1, h2⟩ := ih (by omega)
      exact ⟨j + 1, by simp; omega, by simpa using h2⟩
  obtain ⟨j, h1, h2⟩ := key l (by have := h.2.2.1; omega)
  have := (ord_mem h.1 h1).2 h2
  exact List.length_pos_of_mem this
theorem ordU_len (l : List Int) : ∀ n, n ≤ 11 → (ordU l n).length ≤ n * l.length
  | 0, _ => by simp [ordU]
  | n + 1, h => by
    have := ordU_len l n (by omega)
    have h1 := blk_all (l := l) (n := n + 1) (by omega)
    have h2 := cn_le l (n + 1)
    rw [ordU, List.length_append, Nat.succ_mul]; omega
theorem ord_len (l : List Int) : (ord l).length ≤ 11 * l.length := ordU_len l 11 (by omega)
theorem kw_pow {x : Int} (h : 0 < x) : kw x = 2 ^ (11 - x).toNat := by rw [kw, if_pos h]
theorem kw_pos {x : Int} (h : 0 < x) : 0 < kw x := by rw [kw_pow h]; exact Int.pow_pos (by decide)
theorem kw_nonneg (x : Int) : 0 ≤ kw x := by
  by_cases h : 0 < x
  · exact Int.le_of_lt (kw_pos h)
  simp [kw, h]
def pos (l : List Int) (k : Nat) : Int := ks (((ord l).take k).map fun x => l.getD x.toNat 0)
theorem pos_zero (l : List Int) : pos l 0 = 0 := by simp [pos, ks]
theorem pos_succ {l : List Int} {k j : Nat} (hk : k < (ord l).length) (hj : (ord l).getD k 0 = (j : Int)) : pos l (k + 1) = pos l k + kw (l.getD j 0) := by
  unfold pos
  rw [tk1 hk, List.map_append, ks_app, hj]
  simp [ks]
theorem ks_nonneg : ∀ l : List Int, 0 ≤ ks l
  | [] => by simp [ks]
  | x :: l => by have := ks_nonneg l; have := kw_nonneg x; simp only [ks]; omega
theorem pos_mono {l : List Int} {a b : Nat} (h : a ≤ b) : pos l a ≤ pos l b := by
  unfold pos
  have e : (ord l).take b = (ord l).take a ++ ((ord l).drop a).take (b - a) := by
    rw [← List.take_add, show a + (b - a) = b from by omega]
  rw [e, List.map_append, ks_app]
  have := ks_nonneg ((((ord l).drop a).take (b - a)).map fun x => l.getD x.toNat 0)
  omega
theorem pos_nonneg (l : List Int) (k : Nat) : 0 ≤ pos l k := ks_nonneg _
theorem ks_blk {l : List Int} {n : Nat} (hn : 0 < n) : ∀ i, ks ((blk l n i).map fun x => l.getD x.toNat 0) = (blk l n i).length * 2 ^ (11 - n)
  | 0 => by simp [blk, ks]
  | i + 1 => by
    have ih := ks_blk (l := l) hn i
    rw [blk, List.map_append, ks_app, ih, List.length_append]
    by_cases h : l.getD i 0 = (n : Int)
    · rw [if_pos h]
      have e : kw (l.getD i 0) = 2 ^ (11 - n) := by
        rw [h, kw_pow (by omega)]; congr 1; omega
      simp only [List.map_cons, List.map_nil, ks, List.length_cons, List.length_nil, Int.toNat_natCast, e]
      rw [show (((blk l n i).length + (0 + 1) : Nat) : Int) = ((blk l n i).length : Int) + 1 from by omega, Int.add_mul]; omega
    rw [if_neg h]; simp [ks]
theorem ks_ordU (l : List Int) : ∀ n, n ≤ 11 → ks ((ordU l n).map fun x => l.getD x.toNat 0) = K l n
  | 0, _ => by simp [ordU, ks, K]
  | n + 1, h => by
    rw [ordU, List.map_append, ks_app, ks_ordU l n (by omega), ks_blk (by omega), blk_all (by omega), K]
theorem pos_all {l : List Int} (h : Rt l) {k : Nat} (hk : (ord l).length ≤ k) : pos l k = 2048 := by
  unfold pos
  rw [List.take_of_length_le hk, ord, ks_ordU l 11 (by omega), K_ks h.1, h.2.2.2]
theorem St.adv {l : List Int} : ∀ {d i n r j : Nat}, l.getD j 0 = ((n + d : Nat) : Int) → St l i n r → (F l n + r) * 2 ^ (11 - n) = pos l i → i < (ord l).length → (ord l).getD i 0 = (j : Int) →
    ∃ r', St l i (n + d) r' ∧ (F l (n + d) + r') * 2 ^ (11 - (n + d)) = pos l i
  | 0, i, n, r, j, _, hs, hp, _, _ => ⟨r, hs, hp⟩
  | d + 1, i, n, r, j, he, hs, hp, hi, hj => by
    obtain ⟨h1, h2⟩ := hs.next hi hj (by omega)
    have hle := h1.h2
    have e : (2 : Int) ^ (11 - n) = 2 * 2 ^ (11 - (n + 1)) := by rw [show 11 - n = (11 - (n + 1)) + 1 from by omega, Int.pow_succ, Int.mul_comm]
    have h3 : (F l (n + 1) + ((0 : Nat) : Int)) * 2 ^ (11 - (n + 1)) = pos l i := by
      rw [← hp, h2, e, F, ← Int.mul_assoc, Int.mul_comm (F l n + cn l n) 2]; simp
    have := St.adv (d := d) (n := n + 1) (r := 0) (by rw [he]; omega) h1 h3 hi hj
    rwa [show n + 1 + d = n + (d + 1) from by omega] at this
theorem st_all {l : List Int} : ∀ {i : Nat}, i < (ord l).length → ∃ n r j : Nat, (ord l).getD i 0 = (j : Int) ∧ l.getD j 0 = (n : Int) ∧ St l i n r ∧ (F l n + r) * 2 ^ (11 - n) = pos l i
  | 0, hi => by
    obtain ⟨j, hj, _, h0, _⟩ := ord_at hi
    obtain ⟨h1, h2, _⟩ := st_first hi hj
    refine ⟨(l.getD j 0).toNat, 0, j, hj, by omega, h1, ?_⟩
    rw [h2, pos_zero]; simp
  | i + 1, hi => by
    obtain ⟨n, r, j, hj, hn, hs, hp⟩ := st_all (l := l) (i := i) (by omega)
    obtain ⟨h1, _, _⟩ := hs.take (by omega) hj (by omega)
    obtain ⟨j', hj', _, hge, hle⟩ := h1.head hi
    have e : kw (l.getD j 0) = 2 ^ (11 - n) := by
      have := hs.h1
      rw [hn, kw_pow (by omega)]; congr 1; omega
    have hp' : (F l n + ((r + 1 : Nat) : Int)) * 2 ^ (11 - n) = pos l (i + 1) := by
      rw [pos_succ (by omega) hj, e, ← hp, show F l n + ((r + 1 : Nat) : Int) = (F l n + r) + 1 from by omega, Int.add_mul, Int.one_mul]
    obtain ⟨r', h2, h3⟩ := St.adv (d := (l.getD j' 0).toNat - n) (by omega) h1 hp' hi hj'
    refine ⟨n + ((l.getD j' 0).toNat - n), r', j', hj', by omega, h2, h3⟩
theorem cd_pos {l : List Int} {k j : Nat} (hk : k < (ord l).length) (hj : (ord l).getD k 0 = (j : Int)) : (cd l j).2 * kw (l.getD j 0) = pos l k := by
  obtain ⟨n, r, j', hj', hn, hs, hp⟩ := st_all hk
  obtain rfl : j' = j := by omega
  have hc := hs.cd hk hj (by omega)
  have := hs.h1
  rw [hc, hn, kw_pow (by omega), ← hp, show ((11 : Int) - (n : Int)).toNat = 11 - n from by omega]
theorem ord_idx {l : List Int} (hb : Bd l) {j : Nat} (hj : j < l.length) (h0 : 0 < l.getD j 0) : ∃ k, k < (ord l).length ∧ (ord l).getD k 0 = (j : Int) := by
  obtain ⟨k, hk, e⟩ := List.mem_iff_getElem.1 ((ord_mem hb hj).2 h0)
  exact ⟨k, hk, by rw [List.getD_eq_getElem?_getD, List.getElem?_eq_getElem hk]; exact e⟩
def Beg (l : List Int) (b : Int) (j : Nat) : Prop := j < l.length ∧ 0 < l.getD j 0 ∧ b / kw (l.getD j 0) = (cd l j).2
instance (l : List Int) (b : Int) (j : Nat) : Decidable (Beg l b j) := inferInstanceAs (Decidable (j < l.length ∧ 0 < l.getD j 0 ∧ b / kw (l.getD j 0) = (cd l j).2))
theorem beg_iff {l : List Int} {b : Int} {k j : Nat} (hk : k < (ord l).length) (hj : (ord l).getD k 0 = (j : Int)) (h0 : 0 < l.getD j 0) : b / kw (l.getD j 0) = (cd l j).2 ↔ pos l k ≤ b ∧ b < pos l (k + 1) := by
  have h1 := cd_pos hk hj
  have h2 := pos_succ hk hj
  have h3 := kw_pos h0
  rw [← h1] at h2 ⊢
  rw [h2]
  have e : (cd l j).2 * kw (l.getD j 0) + kw (l.getD j 0) = ((cd l j).2 + 1) * kw (l.getD j 0) := by rw [Int.add_mul, Int.one_mul]
  rw [e, ← Int.le_ediv_iff_mul_le h3, ← Int.ediv_lt_iff_lt_mul h3]
  omega
theorem beg_uniq {l : List Int} (hb : Bd l) {b : Int} {i j : Nat} (hi : Beg l b i) (hj : Beg l b j) : i = j := by
  obtain ⟨a, ha, ea⟩ := ord_idx hb hi.1 hi.2.1
  obtain ⟨c, hc, ec⟩ := ord_idx hb hj.1 hj.2.1
  have h1 := (beg_iff ha ea hi.2.1).1 hi.2.2
  have h2 := (beg_iff hc ec hj.2.1).1 hj.2.2
  have : a = c := by
    rcases Nat.lt_trichotomy a c with h | h | h
    · have := pos_mono (l := l) (a := a + 1) (b := c) h; omega
    · exact h
    have := pos_mono (l := l) (a := c + 1) (b := a) h; omega
  subst this
  omega
theorem pos_find {l : List Int} {b : Int} (h0 : 0 ≤ b) : ∀ m, m ≤ (ord l).length → b < pos l m → ∃ k, k < m ∧ pos l k ≤ b ∧ b < pos l (k + 1)
  | 0, _, h => by rw [pos_zero] at h; omega
  | m + 1, hm, h => by
    by_cases h1 : b < pos l m
    · obtain ⟨k, h2, h3⟩ := pos_find h0 m (by omega) h1
      exact ⟨k, by omega, h3⟩
    exact ⟨m, by omega, by omega, h⟩
theorem beg_ex {l : List Int} (h : Rt l) {b : Int} (h0 : 0 ≤ b) (h1 : b < 2048) : ∃ j, Beg l b j := by
  obtain ⟨k, hk, h2, h3⟩ := pos_find (l := l) h0 (ord l).length (Nat.le_refl _) (by rw [pos_all h (Nat.le_refl _)]; exact h1)
  obtain ⟨j, hj, hjl, hj0, _⟩ := ord_at hk
  exact ⟨j, hjl, hj0, (beg_iff hk hj hj0).2 ⟨h2, h3⟩⟩
def sel (l : List Int) (b : Int) : Nat := ((List.range l.length).find? fun j => decide (Beg l b j)).getD 0
theorem sel_beg {l : List Int} (h : Rt l) {b : Int} (h0 : 0 ≤ b) (h1 : b < 2048) : Beg l b (sel l b) := by
  obtain ⟨j, hj⟩ := beg_ex h h0 h1
  unfold sel
  cases hf : (List.range l.length).find? fun j => decide (Beg l b j) with
  | none => exact absurd hj (by have := List.find?_eq_none.1 hf j (List.mem_range.2 hj.1); simpa using this)
  | some x => have := List.find?_some hf; simpa using this
theorem sel_eq {l : List Int} (h : Rt l) {b : Int} (h0 : 0 ≤ b) (h1 : b < 2048) {j : Nat} (hj : Beg l b j) : sel l b = j := beg_uniq h.1 (sel_beg h h0 h1) hj
/-! ### searching -/
def win (bits n : Int) : Int := if n ≤ 11 then bits * 2 ^ (11 - n).toNat else bits / 2 ^ (n - 11).toNat
theorem va_lt {bits n : Int} (h0 : 0 ≤ bits) (h64 : bits < 18446744073709551616) (h : Va bits n) : bits < 2 ^ n.toNat := by
  obtain ⟨h1, h2⟩ := h
  have hp : (0 : Int) < 2 ^ n.toNat := Int.pow_pos (by decide)
  rcases h2 with rfl | h2
  · exact h64
  rw [show min n.toNat IntKind.u64.bits = n.toNat from by show min _ 64 = _; omega] at h2
  have h3 : bits / 2 ^ n.toNat < 1 := by omega
  have := (Int.ediv_lt_iff_lt_mul hp).1 h3
  omega
theorem win_bd {bits n : Int} (h0 : 0 ≤ bits) (h64 : bits < 18446744073709551616) (h : Va bits n) : 0 ≤ win bits n ∧ win bits n < 2048 := by
  have hlt := va_lt h0 h64 h
  have h1 := h.1
  unfold win
  split
  · have hp : (0 : Int) < 2 ^ (11 - n).toNat := Int.pow_pos (by decide)
    refine ⟨Int.mul_nonneg h0 (Int.le_of_lt hp), ?_⟩
    have e : (2048 : Int) = 2 ^ n.toNat * 2 ^ (11 - n).toNat := by
      rw [← Int.pow_add, show n.toNat + (11 - n).toNat = 11 from by omega]; decide
    rw [e]
    exact Int.mul_lt_mul_of_pos_right hlt hp
  have hp : (0 : Int) < 2 ^ (n - 11).toNat := Int.pow_pos (by decide)
  refine ⟨Int.ediv_nonneg h0 (Int.le_of_lt hp), ?_⟩
  rw [Int.ediv_lt_iff_lt_mul hp]
  have e : (2048 : Int) * 2 ^ (n - 11).toNat = 2 ^ n.toNat := by
    rw [show (2048 : Int) = 2 ^ 11 from by decide, ← Int.pow_add, show 11 + (n - 11).toNat = n.toNat from by omega]
  omega
theorem win_div {bits n x : Int} (h0 : 0 ≤ n) (h1 : 0 < x) (h2 : x ≤ n) (h3 : x ≤ 11) : win bits n / kw x = bits / 2 ^ (n - x).toNat := by
  rw [kw_pow h1]
  unfold win
  split
  · rw [show (11 - x).toNat = (n - x).toNat + (11 - n).toNat from by omega, Int.pow_add]
    exact Int.mul_ediv_mul_of_pos_left _ _ (Int.pow_pos (by decide))
  rw [Int.ediv_ediv_of_nonneg (Int.le_of_lt (Int.pow_pos (by decide))), ← Int.pow_add]
  congr 2; omega
theorem qrd_beg {l : List Int} (h : Rt l) {bits n : Int} (hva : Va bits n) {j : Nat} (hj : j < l.length) : qrd bits n ((cds l).getD j (0, 0)) = true ↔ Beg l (win bits n) j ∧ l.getD j 0 ≤ n := by
  have hb := h.1.gd j
  have hv := hva.1
  rw [cds_get hj]
  unfold qrd Beg
  rw [decide_eq_true_iff, cd_fst h.1]
  constructor
  · rintro ⟨h1, h2, h3⟩
    rw [show min (n - l.getD j 0).toNat IntKind.u64.bits = (n - l.getD j 0).toNat from by show min _ 64 = _; omega] at h3
    exact ⟨⟨hj, h1, by rw [win_div hv.1 h1 h2 hb.2]; exact h3⟩, h2⟩
  rintro ⟨⟨_, h1, h3⟩, h2⟩
  rw [win_div hv.1 h1 h2 hb.2] at h3
  exact ⟨h1, h2, by rw [show min (n - l.getD j 0).toNat IntKind.u64.bits = (n - l.getD j 0).toNat from by show min _ 64 = _; omega]; exact h3⟩
theorem dec_sel {l : List Int} (h : Rt l) {bits n : Int} (h0 : 0 ≤ bits) (h64 : bits < 18446744073709551616) (hva : Va bits n) :
    dec l bits n = if l.getD (sel l (win bits n)) 0 ≤ n then (((sel l (win bits n) : Nat) : Int), l.getD (sel l (win bits n)) 0, 0) else (0, 0, 3) := by
  have hw := win_bd h0 h64 hva
  have hs := sel_beg h hw.1 hw.2
  by_cases hle : l.getD (sel l (win bits n)) 0 ≤ n
  · rw [if_pos hle]
    have hf : fidx (qrd bits n) (cds l) = (sel l (win bits n) : Nat) := by
      refine fidx_at (0, 0) (by rw [cds_len]; exact hs.1) (fun j hj => ?_) ((qrd_beg h hva hs.1).2 ⟨hs, hle⟩)
      cases hq : qrd bits n ((cds l).getD j (0, 0)) with
      | false => rfl
      | true =>
        have h1 := (qrd_beg h hva (Nat.lt_trans hj hs.1)).1 hq
        have := beg_uniq h.1 h1.1 hs
        omega
    rw [dec_ok h hva (by rw [hf]; omega), hf, Int.toNat_natCast, cds_get hs.1, cd_fst h.1]
  rw [if_neg hle]
  have hf : fidx (qrd bits n) (cds l) = -1 := by
    refine fidx_none (0, 0) fun j hj => ?_
    rw [cds_len] at hj
    cases hq : qrd bits n ((cds l).getD j (0, 0)) with
    | false => rfl
    | true =>
      have h1 := (qrd_beg h hva hj).1 hq
      have := beg_uniq h.1 h1.1 hs
      subst this
      exact absurd h1.2 hle
  rw [dec_short h hva (by rw [hf]; omega)]
/-! ### from code words back to lengths -/
/-! ### rising -/
end Go.Proofs.YtdppageondgjkaaGreat
