/-
  Several texts of this project, put together.
-/
import Derived.Test.YtdppageondgjkaaGreatXA
import Derived.Test.YtdppageondgjkaaGreatFA
set_option linter.unusedVariables false
set_option maxRecDepth 100000
namespace Go.Proofs.YtdppageondgjkaaGreat
open Go.Fw
theorem mx_ge {l : List Int} (j : Nat) : l.getD j 0 ≤ mx l := by
  induction l generalizing j with
  | nil => simp [mx]
  | cons x l ih =>
    cases j with
    | zero => simp only [List.getD_cons_zero, mx]; omega
    | succ j => have := ih j; simp only [List.getD_cons_succ, mx]; omega
def bt (l : List Int) : Nat := (mx l).toNat
theorem mx_bt (l : List Int) : mx l = bt l := by have := mx_nonneg l; unfold bt; omega
theorem bt_bd {l : List Int} (h : Rt l) : 1 ≤ bt l ∧ bt l ≤ 11 := by
  have h1 := mx_le h.1
  obtain ⟨j, _, h2, h3, _⟩ := ord_at (ord_pos h)
  have := mx_ge (l := l) j
  unfold bt; omega
theorem bt_ge {l : List Int} (j : Nat) : l.getD j 0 ≤ bt l := by have := mx_ge (l := l) j; rw [← mx_bt]; exact this
def p2 (n : Nat) : Int := 2 ^ n
theorem p2_pos (n : Nat) : 0 < p2 n := Int.pow_pos (by decide)
theorem p2_add (a b : Nat) : p2 (a + b) = p2 a * p2 b := Int.pow_add ..
theorem p2_nat (n : Nat) : ((2 ^ n : Nat) : Int) = p2 n := by unfold p2; simp
theorem p2_mono {a b : Nat} (h : a ≤ b) : p2 a ≤ p2 b := by
  obtain ⟨d, rfl⟩ := Nat.exists_eq_add_of_le h
  rw [p2_add]
  have := p2_pos a
  have := p2_pos d
  have : p2 a * 1 ≤ p2 a * p2 d := Int.mul_le_mul_of_nonneg_left (by omega) (by omega)
  omega
theorem p2_11 : p2 11 = 2048 := by decide
theorem p2_le11 {a : Nat} (h : a ≤ 11) : 1 ≤ p2 a ∧ p2 a ≤ 2048 := by
  have := p2_mono h
  have := p2_pos a
  rw [p2_11] at *
  omega
theorem kw_p2 {l : List Int} (hr : Rt l) {j : Nat} (h0 : 0 < l.getD j 0) : kw (l.getD j 0) = p2 (bt l - (l.getD j 0).toNat) * p2 (11 - bt l) := by
  have h1 := bt_bd hr
  have h2 := bt_ge (l := l) j
  rw [kw_pow h0, ← p2_add]
  unfold p2
  congr 1
  omega
theorem sel_shift {l : List Int} (hr : Rt l) {b b' : Int} (b0 : 0 ≤ b) (b1 : b < 2048) (c0 : 0 ≤ b') (c1 : b' < 2048) (h : b / p2 (11 - bt l) = b' / p2 (11 - bt l)) : sel l b = sel l b' := by
  obtain ⟨s1, s2, s3⟩ := sel_beg hr c0 c1
  refine sel_eq hr b0 b1 ⟨s1, s2, ?_⟩
  rw [← s3, kw_p2 hr s2, Int.mul_comm, ← Int.ediv_ediv_of_nonneg (Int.le_of_lt (p2_pos _)), ← Int.ediv_ediv_of_nonneg (Int.le_of_lt (p2_pos _)), h]
def ent (l : List Int) (i : Nat) : Int × Int := ((dec l i (bt l)).1, (dec l i (bt l)).2.1)
theorem va_bt {l : List Int} (hr : Rt l) {i : Int} (h0 : 0 ≤ i) (h : i < p2 (bt l)) : Va i (bt l) := by
  have := bt_bd hr
  refine ⟨by omega, .inr ?_⟩
  rw [show min ((bt l : Nat) : Int).toNat IntKind.u64.bits = bt l from by show min _ 64 = _; omega]
  exact Int.ediv_eq_zero_of_lt h0 h
theorem win_bt {l : List Int} (hr : Rt l) (i : Int) : win i (bt l) = i * p2 (11 - bt l) := by
  have := bt_bd hr
  unfold win
  rw [if_pos (by omega), show ((11 : Int) - (bt l : Nat)).toNat = 11 - bt l from by omega]
  rfl
theorem p2_bt {l : List Int} (hr : Rt l) : p2 (bt l) * p2 (11 - bt l) = 2048 := by
  have := bt_bd hr
  rw [← p2_add, show bt l + (11 - bt l) = 11 from by omega, p2_11]
theorem win_in {l : List Int} (hr : Rt l) {i : Int} (h0 : 0 ≤ i) (h : i < p2 (bt l)) : 0 ≤ i * p2 (11 - bt l) ∧ i * p2 (11 - bt l) < 2048 := by
  have hp := p2_pos (11 - bt l)
  refine ⟨Int.mul_nonneg h0 (Int.le_of_lt hp), ?_⟩
  rw [← p2_bt hr]
  exact Int.mul_lt_mul_of_pos_right h hp
theorem dec_bt {l : List Int} (hr : Rt l) {i : Nat} (h : (i : Int) < p2 (bt l)) : dec l i (bt l) = (((sel l (i * p2 (11 - bt l)) : Nat) : Int), l.getD (sel l (i * p2 (11 - bt l))) 0, 0) := by
  have h11 := p2_le11 (bt_bd hr).2
  rw [dec_sel hr (by omega) (by omega) (va_bt hr (by omega) h), win_bt hr, if_pos (bt_ge _)]
theorem ent_sel {l : List Int} (hr : Rt l) {i : Nat} (h : (i : Int) < p2 (bt l)) : ent l i = (((sel l (i * p2 (11 - bt l)) : Nat) : Int), l.getD (sel l (i * p2 (11 - bt l))) 0) := by
  unfold ent; rw [dec_bt hr h]
def tbl (l : List Int) : List (Int × Int) := tabn (2 ^ bt l) (ent l)
theorem tbl_len (l : List Int) : (tbl l).length = 2 ^ bt l := tabn_len _ _
theorem tbl_get {l : List Int} {i : Nat} (h : i < 2 ^ bt l) : (tbl l).getD i (0, 0) = ent l i := tabn_get _ _ h
def os (l : List Int) : List (Int × Int) := (ord l).map fun s => (s, ((cds l).getD s.toNat (0, 0)).1)
theorem os_len (l : List Int) : (os l).length = (ord l).length := by simp [os]
def fl (n : Int) (xs : List (Int × Int)) : List (Int × Int) := xs.flatMap fun x => List.replicate (2 ^ (n - x.2).toNat) x
theorem fl_app (n : Int) (xs ys : List (Int × Int)) : fl n (xs ++ ys) = fl n xs ++ fl n ys := by simp [fl]
theorem fl_one (n : Int) (x : Int × Int) : fl n [x] = List.replicate (2 ^ (n - x.2).toNat) x := by simp [fl]
theorem os_at {l : List Int} (hr : Rt l) {k j : Nat} (hk : k < (ord l).length) (hj : (ord l).getD k 0 = (j : Int)) (hjl : j < l.length) : (os l).take (k + 1) = (os l).take k ++ [((j : Int), l.getD j 0)] := by
  have h1 : (ord l)[k] = (j : Int) := by rw [List.getD_eq_getElem?_getD, List.getElem?_eq_getElem hk] at hj; exact hj
  rw [List.take_add_one, List.getElem?_eq_getElem (by rw [os_len]; exact hk)]
  congr 1
  simp only [os, List.getElem_map, Option.toList_some, h1, Int.toNat_natCast]
  rw [cds_get hjl, cd_fst hr.1]
theorem fl_pos {l : List Int} (hr : Rt l) : ∀ k, k ≤ (ord l).length → ((fl (bt l) ((os l).take k)).length : Int) * p2 (11 - bt l) = pos l k ∧ fl (bt l) ((os l).take k) = tabn (fl (bt l) ((os l).take k)).length (ent l)
  | 0, _ => by simp [fl, pos_zero, tabn]
  | k + 1, hk => by
    obtain ⟨h1, h2⟩ := fl_pos hr k (by omega)
    obtain ⟨j, hj, hjl, h0, h11⟩ := ord_at (l := l) (i := k) (by omega)
    have hp := pos_succ (l := l) (by omega) hj
    have hge := bt_ge (l := l) j
    have hu := p2_pos (11 - bt l)
    have e1 : ((2 ^ ((bt l : Int) - l.getD j 0).toNat : Nat) : Int) = p2 (bt l - (l.getD j 0).toNat) := by rw [p2_nat]; congr 1; omega
    rw [os_at hr (by omega) hj hjl, fl_app, fl_one, List.length_append, List.length_replicate]
    generalize hP : (fl (bt l) ((os l).take k)).length = P at *
    generalize hM : (2 ^ ((bt l : Int) - l.getD j 0).toNat : Nat) = M at *
    have hsum : ((P + M : Nat) : Int) * p2 (11 - bt l) = pos l (k + 1) := by
      rw [hp, kw_p2 hr h0, ← e1, ← h1, ← Int.add_mul]; simp
    refine ⟨hsum, ?_⟩
    rw [h2]
    refine List.ext_getElem (by simp [tabn]) fun i g1 g2 => ?_
    have gl : i < P + M := by simpa [tabn] using g2
    have hall : pos l (k + 1) ≤ 2048 := by rw [← pos_all hr (Nat.le_refl _)]; exact pos_mono (by omega)
    simp only [tabn, List.getElem_append, List.getElem_map, List.getElem_range, List.length_map, List.length_range, List.getElem_replicate]
    split
    · rfl
    rename_i gi
    have b1 : pos l k ≤ (i : Int) * p2 (11 - bt l) := by rw [← h1]; exact Int.mul_le_mul_of_nonneg_right (by omega) (by omega)
    have b2 : (i : Int) * p2 (11 - bt l) < pos l (k + 1) := by rw [← hsum]; exact Int.mul_lt_mul_of_pos_right (by omega) hu
    have b0 := pos_nonneg l k
    have hB : Beg l ((i : Int) * p2 (11 - bt l)) j := ⟨hjl, h0, (beg_iff (by omega) hj h0).2 ⟨b1, b2⟩⟩
    have hlt : (i : Int) < p2 (bt l) := by
      rcases Int.lt_or_le (i : Int) (p2 (bt l)) with h | h
      · exact h
      have := Int.mul_le_mul_of_nonneg_right h (Int.le_of_lt hu)
      rw [p2_bt hr] at this; omega
    rw [ent_sel hr hlt, sel_eq hr (by omega) (by omega) hB]
theorem fl_tbl {l : List Int} (hr : Rt l) : fl (bt l) (os l) = tbl l := by
  obtain ⟨h1, h2⟩ := fl_pos hr (ord l).length (Nat.le_refl _)
  rw [pos_all hr (Nat.le_refl _), ← p2_bt hr] at h1
  have h3 := Int.eq_of_mul_eq_mul_right (by have := p2_pos (11 - bt l); omega) h1
  have h4 : (fl (bt l) ((os l).take (ord l).length)).length = 2 ^ bt l := by
    have := p2_nat (bt l)
    omega
  rw [h4, List.take_of_length_le (by rw [os_len]; omega)] at h2
  exact h2
def idx (l : List Int) (bits m : Int) : Int := bits * 2 ^ (max 0 ((bt l : Int) - m)).toNat / 2 ^ (max 0 (m - bt l)).toNat
theorem idx_bd {l : List Int} (hr : Rt l) {bits m : Int} (h0 : 0 ≤ bits) (h64 : bits < 18446744073709551616) (hva : Va bits m) : 0 ≤ idx l bits m ∧ idx l bits m < p2 (bt l) ∧ win bits m / p2 (11 - bt l) = idx l bits m := by
  have hb := bt_bd hr
  have hw := win_bd h0 h64 hva
  have hm := hva.1
  have hu := p2_pos (11 - bt l)
  have key : win bits m / p2 (11 - bt l) = idx l bits m := by
    unfold idx
    by_cases c : m ≤ bt l
    · rw [show (max 0 (m - bt l)).toNat = 0 from by omega, Int.pow_zero, Int.ediv_one, show (max 0 ((bt l : Int) - m)).toNat = ((bt l : Int) - m).toNat from by omega]
      unfold win
      rw [if_pos (by omega), show ((11 : Int) - m).toNat = ((bt l : Int) - m).toNat + (11 - bt l) from by omega, Int.pow_add, ← Int.mul_assoc]
      exact Int.mul_ediv_cancel _ (by unfold p2 at hu; omega)
    rw [show (max 0 ((bt l : Int) - m)).toNat = 0 from by omega, Int.pow_zero, Int.mul_one, show (max 0 (m - (bt l : Int))).toNat = (m - (bt l : Int)).toNat from by omega]
    unfold win
    split
    · rw [show p2 (11 - bt l) = 2 ^ (m - (bt l : Int)).toNat * 2 ^ ((11 : Int) - m).toNat from by unfold p2; rw [← Int.pow_add]; congr 1; omega]
      exact Int.mul_ediv_mul_of_pos_left _ _ (Int.pow_pos (by decide))
    rw [Int.ediv_ediv_of_nonneg (Int.le_of_lt (Int.pow_pos (by decide)))]
    unfold p2
    rw [← Int.pow_add]
    congr 2; omega
  rw [← key]
  refine ⟨Int.ediv_nonneg hw.1 (Int.le_of_lt hu), ?_, rfl⟩
  rw [Int.ediv_lt_iff_lt_mul hu, p2_bt hr]
  exact hw.2
theorem dec_idx {l : List Int} (hr : Rt l) {bits m : Int} (h0 : 0 ≤ bits) (h64 : bits < 18446744073709551616) (hva : Va bits m) :
    dec l bits m = if (ent l (idx l bits m).toNat).2 ≤ m then ((ent l (idx l bits m).toNat).1, (ent l (idx l bits m).toNat).2, 0) else (0, 0, 3) := by
  obtain ⟨i0, i1, i2⟩ := idx_bd hr h0 h64 hva
  have hw := win_bd h0 h64 hva
  have hi := win_in hr i0 i1
  have e : (((idx l bits m).toNat : Nat) : Int) = idx l bits m := by omega
  have hs : sel l (idx l bits m * p2 (11 - bt l)) = sel l (win bits m) := by
    refine sel_shift hr hi.1 hi.2 hw.1 hw.2 ?_
    rw [Int.mul_ediv_cancel _ (by have := p2_pos (11 - bt l); omega), i2]
  rw [dec_sel hr h0 h64 hva, ent_sel hr (by omega), e, hs]
def two (l : List Int) (i : Nat) : Int × Int × Int × Int :=
  if (dec l ((i : Int) % p2 (bt l - (ent l i).2.toNat)) ((bt l : Int) - (ent l i).2)).2.2 ≠ 0 then (1, (ent l i).1, 0, (ent l i).2) else
  (2, (ent l i).1, (dec l ((i : Int) % p2 (bt l - (ent l i).2.toNat)) ((bt l : Int) - (ent l i).2)).1, (ent l i).2 + (dec l ((i : Int) % p2 (bt l - (ent l i).2.toNat)) ((bt l : Int) - (ent l i).2)).2.1)
def cntE (xs : List (Int × Int)) (s : Nat) : Int := ((xs.filter fun x => decide (x.1 = (s : Int))).length : Int)
theorem tabn_succ {α : Type} (k : Nat) (f : Nat → α) : tabn (k + 1) f = tabn k f ++ [f k] := by simp [tabn, List.range_succ]
def cl (l : List Int) (i : Nat) : List Int := tabn l.length fun s => cntE (tabn i (ent l)) s
/-! ### a byte list's number -/
def wn : List Int → Nat
  | [] => 0
  | x :: l => x.toNat + 256 * wn l
def ub (W n : Nat) : List Int := tabn n fun i => ((W / 256 ^ i % 256 : Nat) : Int)
theorem ub_len (W n : Nat) : (ub W n).length = n := tabn_len _ _
theorem ub_get {W n i : Nat} (h : i < n) : (ub W n).getD i 0 = ((W / 256 ^ i % 256 : Nat) : Int) := tabn_get _ _ h
theorem ub_succ (W n : Nat) : ub W (n + 1) = ((W % 256 : Nat) : Int) :: ub (W / 256) n := by
  unfold ub tabn
  rw [List.range_succ_eq_map, List.map_cons, List.map_map]
  refine List.cons_eq_cons.2 ⟨by rw [Nat.pow_zero, Nat.div_one], ?_⟩
  apply List.map_congr_left
  intro i _
  simp only [Function.comp]
  rw [Nat.div_div_eq_div_mul, Nat.pow_succ, Nat.mul_comm]
theorem ub_wn : ∀ {b : List Int}, Byt b → ub (wn b) b.length = b
  | [], _ => rfl
  | x :: b, h => by
    have hx := h x (List.mem_cons_self ..)
    have ih := ub_wn (b := b) (fun y hy => h y (List.mem_cons_of_mem _ hy))
    rw [List.length_cons, ub_succ, show wn (x :: b) = x.toNat + 256 * wn b from rfl, show (x.toNat + 256 * wn b) % 256 = x.toNat from by omega, show (x.toNat + 256 * wn b) / 256 = wn b from by omega, ih]
    congr 1; omega
theorem wn_lt : ∀ {b : List Int}, Byt b → wn b < 256 ^ b.length
  | [], _ => by decide
  | x :: b, h => by
    have hx := h x (List.mem_cons_self ..)
    have ih := wn_lt (b := b) (fun y hy => h y (List.mem_cons_of_mem _ hy))
    rw [List.length_cons, Nat.pow_succ, wn]; omega
theorem wn_get {b : List Int} (h : Byt b) {i : Nat} (hi : i < b.length) : b.getD i 0 = ((wn b / 256 ^ i % 256 : Nat) : Int) := by
  conv => lhs; rw [← ub_wn h]
  exact ub_get hi
theorem p256 (i : Nat) : 256 ^ i = 2 ^ (8 * i) := by rw [Nat.pow_mul]
theorem wn_last : ∀ {b : List Int}, 0 < b.length → wn b = wn (b.take (b.length - 1)) + 256 ^ (b.length - 1) * (b.getD (b.length - 1) 0).toNat
  | [], h => by simp at h
  | [x], _ => by simp [wn]
  | x :: y :: b, _ => by
    have ih := wn_last (b := y :: b) (by simp)
    have e : (x :: y :: b).length - 1 = ((y :: b).length - 1) + 1 := by simp
    rw [e, List.take_succ_cons, List.getD_cons_succ]
    show x.toNat + 256 * wn (y :: b) = x.toNat + 256 * wn ((y :: b).take ((y :: b).length - 1)) + _
    rw [ih, Nat.pow_succ]
    generalize 256 ^ ((y :: b).length - 1) = p
    generalize ((y :: b).getD ((y :: b).length - 1) 0).toNat = q
    rw [Nat.mul_add, ← Nat.mul_assoc, Nat.mul_comm p 256]; omega
/-! ### the closing mark -/
def l8 (x : Int) : Nat := Nat.log2 x.toNat + 1
def Cl (b : List Int) : Prop := 0 < b.length ∧ b.getD (b.length - 1) 0 ≠ 0
instance (b : List Int) : Decidable (Cl b) := inferInstanceAs (Decidable (0 < b.length ∧ b.getD (b.length - 1) 0 ≠ 0))
def tbt (b : List Int) : Nat := 8 * (b.length - 1) + (l8 (b.getD (b.length - 1) 0) - 1)
theorem l8_bd {x : Int} (h0 : 0 < x) (h1 : x < 256) : 1 ≤ l8 x ∧ l8 x ≤ 8 ∧ 2 ^ (l8 x - 1) ≤ x.toNat ∧ x.toNat < 2 ^ l8 x := by
  have hx : x.toNat ≠ 0 := by omega
  have h2 := Nat.log2_self_le hx
  have h3 := @Nat.lt_log2_self x.toNat
  have h4 : Nat.log2 x.toNat < 8 := (Nat.log2_lt hx).2 (by omega)
  unfold l8
  exact ⟨by omega, by omega, by simpa using h2, h3⟩
theorem byt_get {b : List Int} (h : Byt b) (i : Nat) : 0 ≤ b.getD i 0 ∧ b.getD i 0 < 256 := by
  rw [List.getD_eq_getElem?_getD]
  cases e : b[i]? with
  | none => simp
  | some x => have := h x (List.mem_of_getElem? e); simpa using this
theorem cl_bd {b : List Int} (h : Byt b) (hc : Cl b) : 2 ^ tbt b ≤ wn b ∧ wn b < 2 ^ (tbt b + 1) ∧ tbt b / 8 + 1 = b.length ∧ tbt b < 8 * b.length := by
  have hg := byt_get h (b.length - 1)
  have hl := hc.1
  have h8 := l8_bd (x := b.getD (b.length - 1) 0) (by have := hc.2; omega) hg.2
  have hw := wn_last hl
  have hlt := wn_lt (b := b.take (b.length - 1)) (fun y hy => h y (List.mem_of_mem_take hy))
  rw [List.length_take, show min (b.length - 1) b.length = b.length - 1 from by omega] at hlt
  rw [p256] at hlt hw
  have e1 : tbt b = 8 * (b.length - 1) + (l8 (b.getD (b.length - 1) 0) - 1) := rfl
  have e2 : tbt b + 1 = 8 * (b.length - 1) + l8 (b.getD (b.length - 1) 0) := by omega
  generalize hx : (b.getD (b.length - 1) 0).toNat = x at *
  generalize l8 (b.getD (b.length - 1) 0) = q at *
  generalize hp : 2 ^ (8 * (b.length - 1)) = p at *
  refine ⟨?_, ?_, by omega, by omega⟩
  · rw [e1, Nat.pow_add, hp]
    have : p * 2 ^ (q - 1) ≤ p * x := Nat.mul_le_mul_left _ h8.2.2.1
    omega
  rw [e2, Nat.pow_add, hp]
  have : p * (x + 1) ≤ p * 2 ^ q := Nat.mul_le_mul_left _ h8.2.2.2
  rw [Nat.mul_add] at this; omega
theorem tb_uniq {a b W : Nat} (h1 : 2 ^ a ≤ W) (h2 : W < 2 ^ (a + 1)) (h3 : 2 ^ b ≤ W) (h4 : W < 2 ^ (b + 1)) : a = b := by
  have h5 : a < b + 1 := (Nat.pow_lt_pow_iff_right (by decide)).1 (Nat.lt_of_le_of_lt h1 h4)
  have h6 : b < a + 1 := (Nat.pow_lt_pow_iff_right (by decide)).1 (Nat.lt_of_le_of_lt h3 h2)
  omega
/-! ### one code word -/
def wd (W t n : Nat) : Nat := W / 2 ^ (t - n) % 2 ^ n
theorem wd_lt (W t n : Nat) : wd W t n < 2 ^ n := Nat.mod_lt _ (Nat.pow_pos (by decide))
theorem wd_div {W t n x : Nat} (h1 : x ≤ n) (h2 : n ≤ t) : wd W t n / 2 ^ (n - x) = wd W t x := by
  unfold wd
  rw [show 2 ^ n = 2 ^ (n - x) * 2 ^ x from by rw [← Nat.pow_add]; congr 1; omega, Nat.mod_mul_right_div_self, Nat.div_div_eq_div_mul, ← Nat.pow_add]
  congr 2; congr 1; omega
def nd (l : List Int) (W t : Nat) : Int × Int × Int := dec l ((wd W t (min t 11) : Nat) : Int) ((min t 11 : Nat) : Int)
theorem wd11 (W t : Nat) : wd W t (min t 11) < 2048 := by
  have := wd_lt W t (min t 11)
  have h : 2 ^ (min t 11) ≤ 2 ^ 11 := Nat.pow_le_pow_right (by decide) (by omega)
  omega
theorem va_wd (W t : Nat) : Va ((wd W t (min t 11) : Nat) : Int) ((min t 11 : Nat) : Int) := by
  refine ⟨by omega, Or.inr ?_⟩
  rw [show min ((min t 11 : Nat) : Int).toNat IntKind.u64.bits = min t 11 from by show min _ 64 = _; omega]
  have := wd_lt W t (min t 11)
  have e : ((2 : Int) ^ (min t 11)) = ((2 ^ (min t 11) : Nat) : Int) := by simp
  rw [e, ← Int.natCast_ediv, Nat.div_eq_of_lt this]; rfl
theorem win_wd {l : List Int} (hr : Rt l) {W t j : Nat} (hj : 0 < l.getD j 0) (hle : l.getD j 0 ≤ ((min t 11 : Nat) : Int)) :
    win ((wd W t (min t 11) : Nat) : Int) ((min t 11 : Nat) : Int) / kw (l.getD j 0) = ((wd W t (l.getD j 0).toNat : Nat) : Int) := by
  have hg := hr.1.gd j
  rw [win_div (by omega) hj hle hg.2, show (((min t 11 : Nat) : Int) - l.getD j 0).toNat = min t 11 - (l.getD j 0).toNat from by omega, ← wd_div (W := W) (n := min t 11) (x := (l.getD j 0).toNat) (by omega) (by omega), Int.natCast_ediv, Int.natCast_pow]
  rfl
theorem nd_inv {l : List Int} (hr : Rt l) {W t : Nat} (h : (nd l W t).2.2 = 0) :
    ∃ c : Nat, c < l.length ∧ 0 < l.getD c 0 ∧ (l.getD c 0).toNat ≤ min t 11 ∧ nd l W t = ((c : Int), l.getD c 0, 0) ∧ ((wd W t (l.getD c 0).toNat : Nat) : Int) = (cd l c).2 := by
  have h11 := wd11 W t
  have hv := va_wd W t
  have hwb := win_bd (by omega) (by omega) hv
  have hb := sel_beg hr hwb.1 hwb.2
  have hd := dec_sel hr (by omega) (by omega) hv
  unfold nd at h ⊢
  rw [hd] at h ⊢
  by_cases hle : l.getD (sel l (win ((wd W t (min t 11) : Nat) : Int) ((min t 11 : Nat) : Int))) 0 ≤ ((min t 11 : Nat) : Int)
  · rw [if_pos hle]
    exact ⟨_, hb.1, hb.2.1, by omega, rfl, by rw [← win_wd hr hb.2.1 hle]; exact hb.2.2⟩
  rw [if_neg hle] at h; cases h
theorem nd_err {l : List Int} (hr : Rt l) {W t : Nat} (h : (nd l W t).2.2 ≠ 0) : nd l W t = (0, 0, 3) := by
  have h11 := wd11 W t
  have hv := va_wd W t
  have hd := dec_sel hr (by omega) (by omega) hv
  unfold nd at h ⊢
  rw [hd] at h ⊢
  split
  · next hle => rw [if_pos hle] at h; exact absurd rfl h
  rfl
theorem nd_rng {l : List Int} (hr : Rt l) {W t : Nat} (h : (nd l W t).2.2 = 0) : 0 ≤ (nd l W t).1 ∧ (nd l W t).1 < 256 ∧ 1 ≤ (nd l W t).2.1 ∧ (nd l W t).2.1 ≤ t ∧ (nd l W t).2.1 ≤ 11 := by
  obtain ⟨c, h1, h2, h3, h4, h5⟩ := nd_inv hr h
  rw [h4]; have := hr.2.1; have := hr.1.gd c; simp only; omega
theorem nd_zero {l : List Int} (hr : Rt l) (W : Nat) : (nd l W 0).2.2 ≠ 0 := fun h => by
  have := nd_rng hr h; omega
/-! ### code words in a row -/
def st (l : List Int) (W t : Nat) : Nat → Nat
  | 0 => t
  | k + 1 => st l W t k - (nd l W (st l W t k)).2.1.toNat
def ym (l : List Int) (W t k : Nat) : Int := (nd l W (st l W t k)).1
def gd (l : List Int) (W t k : Nat) : Prop := (nd l W (st l W t k)).2.2 = 0
instance (l : List Int) (W t k : Nat) : Decidable (gd l W t k) := inferInstanceAs (Decidable (_ = _))
theorem st_le {l : List Int} (W t : Nat) : ∀ k, st l W t k ≤ t
  | 0 => Nat.le_refl _
  | k + 1 => by have := st_le (l := l) W t k; rw [st]; omega
theorem st_go {l : List Int} (hr : Rt l) {W t : Nat} : ∀ {k : Nat}, (∀ j, j < k → gd l W t j) → st l W t k + k ≤ t
  | 0, _ => by rw [st]; omega
  | k + 1, h => by
    have ih := st_go hr (k := k) (fun j hj => h j (by omega))
    have := nd_rng hr (h k (by omega))
    rw [st]; omega
def nb (l : List Int) (W t : Nat) : Nat := ((List.range (t + 1)).find? fun j => decide (¬ gd l W t j)).getD 0
theorem nb_spec {l : List Int} (hr : Rt l) (W t : Nat) : (∀ j, j < nb l W t → gd l W t j) ∧ ¬ gd l W t (nb l W t) ∧ nb l W t ≤ t := by
  unfold nb
  cases hf : (List.range (t + 1)).find? fun j => decide (¬ gd l W t j) with
  | none =>
    rw [List.find?_eq_none] at hf
    have hall : ∀ j, j < t + 1 → gd l W t j := fun j hj => by
      have := hf j (List.mem_range.2 hj); simpa using this
    have := st_go hr hall; omega
  | some k =>
    rw [List.find?_range_eq_some] at hf
    obtain ⟨h1, h2, h3⟩ := hf
    refine ⟨fun j hj => by have := h3 j hj; simpa using this, by simpa using h1, ?_⟩
    have := List.mem_range.1 h2
    show k ≤ t; omega
theorem nb_eq {l : List Int} (hr : Rt l) {W t k : Nat} (h1 : ∀ j, j < k → gd l W t j) (h2 : ¬ gd l W t k) : nb l W t = k := by
  obtain ⟨h3, h4, _⟩ := nb_spec hr W t
  rcases Nat.lt_trichotomy (nb l W t) k with h | h | h
  · exact absurd (h1 _ h) h4
  · exact h
  exact absurd (h3 _ h) h2
theorem nb_stop {l : List Int} (hr : Rt l) {W t k : Nat} (h1 : ∀ j, j < k → gd l W t j) (h2 : st l W t k = 0) : nb l W t = k :=
  nb_eq hr h1 (by unfold gd; rw [h2]; exact nd_zero hr W)
def yms (l : List Int) (W t n : Nat) : List Int := tabn n (ym l W t)
def sts (l : List Int) (W t n : Nat) : List Int := tabn n fun k => ((st l W t (k + 1) : Nat) : Int)
theorem yms_len (l : List Int) (W t n : Nat) : (yms l W t n).length = n := tabn_len _ _
theorem yms_succ (l : List Int) (W t n : Nat) : yms l W t (n + 1) = yms l W t n ++ [ym l W t n] := tabn_succ _ _
theorem sts_succ (l : List Int) (W t n : Nat) : sts l W t (n + 1) = sts l W t n ++ [((st l W t (n + 1) : Nat) : Int)] := tabn_succ _ _
theorem yms_byt {l : List Int} (hr : Rt l) {W t n : Nat} (h : ∀ j, j < n → gd l W t j) : Byt (yms l W t n) := by
  intro x hx
  unfold yms tabn at hx
  rw [List.mem_map] at hx
  obtain ⟨i, hi, rfl⟩ := hx
  have := nd_rng hr (h i (List.mem_range.1 hi))
  unfold ym; omega
/-! ### code words written -/
def eL (l : List Int) : List Int → Nat
  | [] => 0
  | c :: b => eL l b + (l.getD c.toNat 0).toNat
def eV (l : List Int) : List Int → Nat
  | [] => 0
  | c :: b => eV l b + (cd l c.toNat).2.toNat * 2 ^ eL l b
def Hs (l : List Int) (b : List Int) : Prop := ∀ c ∈ b, c.toNat < l.length ∧ l.getD c.toNat 0 ≠ 0
instance (l b : List Int) : Decidable (Hs l b) := inferInstanceAs (Decidable (∀ c ∈ b, _))
theorem Hs.tail {l : List Int} {c : Int} {b : List Int} (h : Hs l (c :: b)) : Hs l b := fun x hx => h x (List.mem_cons_of_mem _ hx)
theorem Hs.head {l : List Int} {c : Int} {b : List Int} (hr : Rt l) (h : Hs l (c :: b)) : c.toNat < l.length ∧ 0 < l.getD c.toNat 0 ∧ l.getD c.toNat 0 ≤ 11 := by
  have h1 := h c (List.mem_cons_self ..)
  have h2 := hr.1.gd c.toNat
  omega
theorem Hs.drop {l : List Int} {b : List Int} (h : Hs l b) (k : Nat) : Hs l (b.drop k) := fun x hx => h x (List.mem_of_mem_drop hx)
theorem eL_app (l : List Int) : ∀ a b : List Int, eL l (a ++ b) = eL l a + eL l b
  | [], b => by rw [List.nil_append, eL]; omega
  | c :: a, b => by rw [List.cons_append, eL, eL, eL_app l a b]; omega
theorem eL_le {l : List Int} (hr : Rt l) : ∀ b : List Int, eL l b ≤ 11 * b.length
  | [] => by simp [eL]
  | c :: b => by have := eL_le hr b; have := hr.1.gd c.toNat; rw [eL, List.length_cons]; omega
theorem bits_lt {l : List Int} (hr : Rt l) {c : Nat} (h1 : c < l.length) (h2 : 0 < l.getD c 0) : (cd l c).2.toNat < 2 ^ (l.getD c 0).toNat ∧ 0 ≤ (cd l c).2 := by
  have h := cd_bd hr h1 h2
  have e : ((2 : Int) ^ (l.getD c 0).toNat) = ((2 ^ (l.getD c 0).toNat : Nat) : Int) := by simp
  rw [e] at h
  omega
theorem eV_lt {l : List Int} (hr : Rt l) : ∀ {b : List Int}, Hs l b → eV l b < 2 ^ eL l b
  | [], _ => by simp [eV, eL]
  | c :: b, h => by
    have ih := eV_lt hr h.tail
    have hh := h.head hr
    have hb := (bits_lt hr hh.1 hh.2.1).1
    rw [eV, eL, Nat.pow_add]
    have h2 : ((cd l c.toNat).2.toNat + 1) * 2 ^ eL l b ≤ 2 ^ (l.getD c.toNat 0).toNat * 2 ^ eL l b := Nat.mul_le_mul_right _ hb
    rw [Nat.add_mul, Nat.one_mul] at h2
    rw [Nat.mul_comm (2 ^ eL l b)]; omega
def cv (l b : List Int) : Nat := eV l b + 2 ^ eL l b
def out (l b : List Int) : List Int := ub (cv l b) (eL l b / 8 + 1)
theorem out_len (l b : List Int) : (out l b).length = eL l b / 8 + 1 := ub_len _ _
theorem drop_cons' {b : List Int} {k : Nat} (h : k < b.length) : b.drop k = b.getD k 0 :: b.drop (k + 1) := by
  rw [List.drop_eq_getElem_cons h, List.getD_eq_getElem?_getD, List.getElem?_eq_getElem h]; rfl
theorem bits64 : (2 ^ IntKind.u64.bits : Int) = 18446744073709551616 := by decide
theorem cpow (k : Nat) : ((2 : Int) ^ k) = ((2 ^ k : Nat) : Int) := by simp
theorem pw_bd {k : Nat} (h : k ≤ 11) : 1 ≤ 2 ^ k ∧ 2 ^ k ≤ 2048 := by
  have h1 : 2 ^ k ≤ 2 ^ 11 := Nat.pow_le_pow_right (by decide) h
  exact ⟨Nat.one_le_two_pow, by omega⟩
theorem pw_bd8 {k : Nat} (h : k ≤ 8) : 1 ≤ 2 ^ k ∧ 2 ^ k ≤ 256 := by
  have h1 : 2 ^ k ≤ 2 ^ 8 := Nat.pow_le_pow_right (by decide) h
  exact ⟨Nat.one_le_two_pow, by omega⟩
theorem shr_n {X k : Nat} {i : Int} (hi : i = (k : Int)) (hk : k ≤ 64) : ((X : Nat) : Int) / 2 ^ (min i.toNat IntKind.u64.bits) = ((X / 2 ^ k : Nat) : Int) := by
  rw [show min i.toNat IntKind.u64.bits = k from by show min _ 64 = _; omega, cpow, Int.natCast_ediv]
theorem shl_n {X k : Nat} {i : Int} (hi : i = (k : Int)) (hk : k ≤ 64) (h : X * 2 ^ k < 18446744073709551616) : IntKind.u64.wrap (((X : Nat) : Int) * 2 ^ (min i.toNat IntKind.u64.bits)) = ((X * 2 ^ k : Nat) : Int) := by
  rw [show min i.toNat IntKind.u64.bits = k from by show min _ 64 = _; omega, cpow, ← Int.natCast_mul]
  exact wu64 (by omega) (by omega)
theorem shl_one {k : Nat} {i : Int} (hi : i = (k : Int)) (hk : k < 64) : IntKind.u64.wrap (1 * 2 ^ (min i.toNat IntKind.u64.bits)) = ((2 ^ k : Nat) : Int) := by
  have h : 2 ^ k ≤ 2 ^ 63 := Nat.pow_le_pow_right (by decide) (by omega)
  have := shl_n (X := 1) hi (by omega) (by omega)
  simpa using this
theorem and_mask {X k : Nat} (hX : X < 18446744073709551616) (hk : k < 64) : IntKind.u64.wrap ((((((X : Nat) : Int) % 2 ^ IntKind.u64.bits).toNat &&& ((((2 ^ k : Nat) : Int) - 1) % 2 ^ IntKind.u64.bits).toNat : Nat)) : Int) = ((X % 2 ^ k : Nat) : Int) := by
  have h : 2 ^ k ≤ 2 ^ 63 := Nat.pow_le_pow_right (by decide) (by omega)
  have h1 : 1 ≤ 2 ^ k := Nat.one_le_two_pow
  rw [bits64, show (((X : Nat) : Int) % 18446744073709551616).toNat = X from by omega, show ((((2 ^ k : Nat) : Int) - 1) % 18446744073709551616).toNat = 2 ^ k - 1 from by omega, Nat.and_two_pow_sub_one_eq_mod]
  have h2 : X % 2 ^ k ≤ X := Nat.mod_le _ _
  exact wu64 (by omega) (by omega)
theorem or_add {A X g : Nat} (hA : A < 2 ^ g) (h : A + X * 2 ^ g < 18446744073709551616) : IntKind.u64.wrap ((((((A : Nat) : Int) % 2 ^ IntKind.u64.bits).toNat ||| (((X * 2 ^ g : Nat) : Int) % 2 ^ IntKind.u64.bits).toNat : Nat)) : Int) = ((A + X * 2 ^ g : Nat) : Int) := by
  rw [bits64, show (((A : Nat) : Int) % 18446744073709551616).toNat = A from by omega, show (((X * 2 ^ g : Nat) : Int) % 18446744073709551616).toNat = X * 2 ^ g from by omega]
  have e : A ||| X * 2 ^ g = A + X * 2 ^ g := by
    have := Nat.shiftLeft_add_eq_or_of_lt hA X
    rw [Nat.shiftLeft_eq] at this
    rw [Nat.or_comm, ← this, Nat.add_comm]
  rw [e]
  exact wu64 (by omega) (by omega)
theorem byte_bits {W p k : Nat} (h : p % 8 + k ≤ 8) : W / 256 ^ (p / 8) % 256 / 2 ^ (p % 8) % 2 ^ k = W / 2 ^ p % 2 ^ k := by
  have e : (256 : Nat) = 2 ^ (p % 8) * 2 ^ (8 - p % 8) := by rw [← Nat.pow_add, show p % 8 + (8 - p % 8) = 8 from by omega]
  rw [p256]
  conv => lhs; rw [e, Nat.mod_mul_right_div_self, Nat.div_div_eq_div_mul, ← Nat.pow_add, show 8 * (p / 8) + p % 8 = p from by omega]
  exact Nat.mod_mod_of_dvd _ (Nat.pow_dvd_pow 2 (by omega))
theorem bits_join (W a g k : Nat) : W / 2 ^ a % 2 ^ g + W / 2 ^ (a + g) % 2 ^ k * 2 ^ g = W / 2 ^ a % 2 ^ (g + k) := by
  rw [Nat.pow_add 2 g k, Nat.mod_mul, Nat.div_div_eq_div_mul, ← Nat.pow_add, Nat.mul_comm (2 ^ g)]
theorem md_lt (X k : Nat) : X % 2 ^ k < 2 ^ k := Nat.mod_lt _ (Nat.pow_pos (by decide))
theorem mul_lt64 {X k g : Nat} (h : g + k ≤ 64) (hX : X < 2 ^ k) : X * 2 ^ g < 18446744073709551616 := by
  have h1 : X * 2 ^ g < 2 ^ k * 2 ^ g := Nat.mul_lt_mul_of_pos_right hX (Nat.pow_pos (by decide))
  rw [← Nat.pow_add] at h1
  have h2 : 2 ^ (k + g) ≤ 2 ^ 64 := Nat.pow_le_pow_right (by decide) (by omega)
  omega
theorem lt64 {X k : Nat} (h : k ≤ 64) (hX : X < 2 ^ k) : X < 18446744073709551616 := by
  have := mul_lt64 (g := 0) (by omega) hX
  simpa using this
theorem blk3 {w : World} {b : Nat} {x y : Value} {k : IntKind} {v v' : Int} (h : Blk w b [x, y, .int k v]) (e : v = v') : Blk w b [x, y, .int k v'] := e ▸ h
theorem blkI {w : World} {b : Nat} {k : IntKind} {v v' : Int} (h : Blk w b [.int k v]) (e : v = v') : Blk w b [.int k v'] := e ▸ h
theorem encB_one (x : Bool) : ∀ u ∈ encB x, u.oneCell' = true := by
  intro u hu
  simp only [encB, List.mem_cons, List.not_mem_nil, or_false] at hu
  subst hu; rfl
def bl (V n : Nat) : List Bool := tabn n fun i => decide (V / 2 ^ i % 2 = 1)
theorem bl_get {V n i : Nat} (h : i < n) : (bl V n).getD i false = decide (V / 2 ^ i % 2 = 1) := tabn_get _ _ h
theorem bl_succ (V n : Nat) : bl V (n + 1) = bl V n ++ [decide (V / 2 ^ n % 2 = 1)] := tabn_succ _ _
theorem bl_zero (V : Nat) : bl V 0 = [] := rfl
theorem bl_congr {V V' n : Nat} (h : ∀ i, i < n → V / 2 ^ i % 2 = V' / 2 ^ i % 2) : bl V n = bl V' n := tabn_congr fun i hi => by rw [h i hi]
theorem bl_app (V p : Nat) : ∀ q, bl V p ++ bl (V / 2 ^ p) q = bl V (p + q)
  | 0 => by rw [bl_zero, List.append_nil]; rfl
  | q + 1 => by
    rw [bl_succ, ← List.append_assoc, bl_app V p q, show p + (q + 1) = (p + q) + 1 from rfl, bl_succ, Nat.div_div_eq_div_mul, ← Nat.pow_add]
theorem bit_mod {V n i : Nat} (h : i < n) : V % 2 ^ n / 2 ^ i % 2 = V / 2 ^ i % 2 := by
  have e : 2 ^ n = 2 ^ i * 2 ^ (n - i) := by rw [← Nat.pow_add]; congr 1; omega
  rw [e, Nat.mod_mul_right_div_self]
  exact Nat.mod_mod_of_dvd _ ⟨2 ^ (n - i - 1), by rw [← Nat.pow_succ']; congr 1; omega⟩
theorem bl_mod (V n : Nat) : bl (V % 2 ^ n) n = bl V n := bl_congr fun i hi => bit_mod hi
theorem bl_take {V n k : Nat} (h : k ≤ n) : (bl V n).take k = bl V k := by
  unfold bl tabn
  rw [← List.map_take, List.take_range, show min k n = k from by omega]
theorem bl_byte {b : List Int} (h : Byt b) {k : Nat} (hk : k < b.length) : bl (wn b) (8 * k) ++ bl (b.getD k 0).toNat 8 = bl (wn b) (8 * (k + 1)) := by
  rw [show 8 * (k + 1) = 8 * k + 8 from by omega, ← bl_app, wn_get h hk, Int.toNat_natCast, p256]
  congr 1
  exact bl_mod (wn b / 2 ^ (8 * k)) 8
/-! ### bytes of bits -/
/-! ### the last set bit; windows -/
theorem top_bit {W q : Nat} (h : W < 2 ^ q) (hq : 0 < q) (hb : W / 2 ^ (q - 1) % 2 = 1) : 2 ^ (q - 1) ≤ W := by
  rcases Nat.lt_or_ge W (2 ^ (q - 1)) with h1 | h1
  · rw [Nat.div_eq_of_lt h1] at hb; omega
  exact h1
theorem no_bit {W q : Nat} (h : W < 2 ^ q) (hq : 0 < q) (hb : ¬ W / 2 ^ (q - 1) % 2 = 1) : W < 2 ^ (q - 1) := by
  rcases Nat.lt_or_ge W (2 ^ (q - 1)) with h1 | h1
  · exact h1
  have e : 2 ^ q = 2 ^ (q - 1) * 2 := by rw [← Nat.pow_succ]; congr 1; omega
  have h2 : 1 ≤ W / 2 ^ (q - 1) := (Nat.le_div_iff_mul_le (Nat.pow_pos (by decide))).2 (by omega)
  have h3 : W / 2 ^ (q - 1) < 2 := (Nat.div_lt_iff_lt_mul (Nat.pow_pos (by decide))).2 (by omega)
  omega
theorem wd_succ {W t i : Nat} (h : i < t) : wd W t (i + 1) = 2 * wd W t i + W / 2 ^ (t - 1 - i) % 2 := by
  unfold wd
  have e : W / 2 ^ (t - i) = W / 2 ^ (t - 1 - i) / 2 := by
    rw [Nat.div_div_eq_div_mul, ← Nat.pow_succ]; congr 2; omega
  rw [e, show t - (i + 1) = t - 1 - i from by omega, Nat.pow_succ, Nat.mul_comm (2 ^ i), Nat.mod_mul]; omega
end Go.Proofs.YtdppageondgjkaaGreat
