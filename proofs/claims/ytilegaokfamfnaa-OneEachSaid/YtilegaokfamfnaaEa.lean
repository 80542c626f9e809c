/-
  Layer 15: decoding tables.
-/
import Derived.Test.YtilegaokfamfnaaCe
import Derived.Test.YtilegaokfamfnaaFi
set_option linter.unusedVariables false
namespace Go.Proofs.Ytilegaokfamfnaa
open Go.Fw

theorem mx_ge {l : List Int} (j : Nat) : l.getD j 0 ≤ mx l := by
  induction l generalizing j with
  | nil => simp [mx]
  | cons x l ih =>
    cases j with
    | zero => simp only [List.getD_cons_zero, mx]; omega
    | succ j => have := ih j; simp only [List.getD_cons_succ, mx]; omega
def bt (l : List Int) : Nat := (mx l).toNat
theorem mx_bt (l : List Int) : mx l = bt l := by have := mx_nonneg l; unfold bt; omega
theorem bt_bd {l : List Int} (h : Rt l) : 1 ≤ bt l ∧ bt l ≤ 11 := by
  have h1 := mx_le h.1
  obtain ⟨j, _, h2, h3, _⟩ := ord_at (ord_pos h)
  have := mx_ge (l := l) j
  unfold bt; omega
theorem bt_ge {l : List Int} (j : Nat) : l.getD j 0 ≤ bt l := by have := mx_ge (l := l) j; rw [← mx_bt]; exact this
/-- 2 ^ n, as an integer -/
def p2 (n : Nat) : Int := 2 ^ n
theorem p2_pos (n : Nat) : 0 < p2 n := Int.pow_pos (by decide)
theorem p2_add (a b : Nat) : p2 (a + b) = p2 a * p2 b := Int.pow_add ..
theorem p2_nat (n : Nat) : ((2 ^ n : Nat) : Int) = p2 n := by unfold p2; simp
theorem p2_mono {a b : Nat} (h : a ≤ b) : p2 a ≤ p2 b := by
  obtain ⟨d, rfl⟩ := Nat.exists_eq_add_of_le h
  rw [p2_add]
  have := p2_pos a
  have := p2_pos d
  have : p2 a * 1 ≤ p2 a * p2 d := Int.mul_le_mul_of_nonneg_left (by omega) (by omega)
  omega
theorem p2_11 : p2 11 = 2048 := by decide
theorem p2_le11 {a : Nat} (h : a ≤ 11) : 1 ≤ p2 a ∧ p2 a ≤ 2048 := by
  have := p2_mono h
  have := p2_pos a
  rw [p2_11] at *
  omega
theorem kw_p2 {l : List Int} (hr : Rt l) {j : Nat} (h0 : 0 < l.getD j 0) : kw (l.getD j 0) = p2 (bt l - (l.getD j 0).toNat) * p2 (11 - bt l) := by
  have h1 := bt_bd hr
  have h2 := bt_ge (l := l) j
  rw [kw_pow h0, ← p2_add]
  unfold p2
  congr 1
  omega
theorem sel_shift {l : List Int} (hr : Rt l) {b b' : Int} (b0 : 0 ≤ b) (b1 : b < 2048) (c0 : 0 ≤ b') (c1 : b' < 2048) (h : b / p2 (11 - bt l) = b' / p2 (11 - bt l)) : sel l b = sel l b' := by
  obtain ⟨s1, s2, s3⟩ := sel_beg hr c0 c1
  refine sel_eq hr b0 b1 ⟨s1, s2, ?_⟩
  rw [← s3, kw_p2 hr s2, Int.mul_comm, ← Int.ediv_ediv_of_nonneg (Int.le_of_lt (p2_pos _)), ← Int.ediv_ediv_of_nonneg (Int.le_of_lt (p2_pos _)), h]
def ent (l : List Int) (i : Nat) : Int × Int := ((dec l i (bt l)).1, (dec l i (bt l)).2.1)
theorem va_bt {l : List Int} (hr : Rt l) {i : Int} (h0 : 0 ≤ i) (h : i < p2 (bt l)) : Va i (bt l) := by
  have := bt_bd hr
  refine ⟨by omega, .inr ?_⟩
  rw [show min ((bt l : Nat) : Int).toNat IntKind.u64.bits = bt l from by show min _ 64 = _; omega]
  exact Int.ediv_eq_zero_of_lt h0 h
theorem win_bt {l : List Int} (hr : Rt l) (i : Int) : win i (bt l) = i * p2 (11 - bt l) := by
  have := bt_bd hr
  unfold win
  rw [if_pos (by omega), show ((11 : Int) - (bt l : Nat)).toNat = 11 - bt l from by omega]
  rfl
theorem p2_bt {l : List Int} (hr : Rt l) : p2 (bt l) * p2 (11 - bt l) = 2048 := by
  have := bt_bd hr
  rw [← p2_add, show bt l + (11 - bt l) = 11 from by omega, p2_11]
theorem win_in {l : List Int} (hr : Rt l) {i : Int} (h0 : 0 ≤ i) (h : i < p2 (bt l)) : 0 ≤ i * p2 (11 - bt l) ∧ i * p2 (11 - bt l) < 2048 := by
  have hp := p2_pos (11 - bt l)
  refine ⟨Int.mul_nonneg h0 (Int.le_of_lt hp), ?_⟩
  rw [← p2_bt hr]
  exact Int.mul_lt_mul_of_pos_right h hp
theorem dec_bt {l : List Int} (hr : Rt l) {i : Nat} (h : (i : Int) < p2 (bt l)) : dec l i (bt l) = (((sel l (i * p2 (11 - bt l)) : Nat) : Int), l.getD (sel l (i * p2 (11 - bt l))) 0, 0) := by
  have h11 := p2_le11 (bt_bd hr).2
  rw [dec_sel hr (by omega) (by omega) (va_bt hr (by omega) h), win_bt hr, if_pos (bt_ge _)]
theorem ent_sel {l : List Int} (hr : Rt l) {i : Nat} (h : (i : Int) < p2 (bt l)) : ent l i = (((sel l (i * p2 (11 - bt l)) : Nat) : Int), l.getD (sel l (i * p2 (11 - bt l))) 0) := by
  unfold ent; rw [dec_bt hr h]
theorem ent_bd {l : List Int} (hr : Rt l) {i : Nat} (h : (i : Int) < p2 (bt l)) : ∃ j : Nat, ent l i = ((j : Int), l.getD j 0) ∧ j < l.length ∧ 1 ≤ l.getD j 0 ∧ l.getD j 0 ≤ bt l := by
  have hw := win_in hr (Int.natCast_nonneg i) h
  obtain ⟨s1, s2, s3⟩ := sel_beg hr hw.1 hw.2
  exact ⟨_, ent_sel hr h, s1, by omega, bt_ge _⟩
/-- the table of a tree -/
def tbl (l : List Int) : List (Int × Int) := tabn (2 ^ bt l) (ent l)
theorem tbl_len (l : List Int) : (tbl l).length = 2 ^ bt l := tabn_len _ _
theorem tbl_get {l : List Int} {i : Nat} (h : i < 2 ^ bt l) : (tbl l).getD i (0, 0) = ent l i := tabn_get _ _ h
/-- symbols in their order, with their lengths -/
def os (l : List Int) : List (Int × Int) := (ord l).map fun s => (s, ((cds l).getD s.toNat (0, 0)).1)
theorem os_len (l : List Int) : (os l).length = (ord l).length := by simp [os]
def fl (n : Int) (xs : List (Int × Int)) : List (Int × Int) := xs.flatMap fun x => List.replicate (2 ^ (n - x.2).toNat) x
theorem fl_app (n : Int) (xs ys : List (Int × Int)) : fl n (xs ++ ys) = fl n xs ++ fl n ys := by simp [fl]
theorem fl_one (n : Int) (x : Int × Int) : fl n [x] = List.replicate (2 ^ (n - x.2).toNat) x := by simp [fl]
theorem os_at {l : List Int} (hr : Rt l) {k j : Nat} (hk : k < (ord l).length) (hj : (ord l).getD k 0 = (j : Int)) (hjl : j < l.length) : (os l).take (k + 1) = (os l).take k ++ [((j : Int), l.getD j 0)] := by
  have h1 : (ord l)[k] = (j : Int) := by rw [List.getD_eq_getElem?_getD, List.getElem?_eq_getElem hk] at hj; exact hj
  rw [List.take_add_one, List.getElem?_eq_getElem (by rw [os_len]; exact hk)]
  congr 1
  simp only [os, List.getElem_map, Option.toList_some, h1, Int.toNat_natCast]
  rw [cds_get hjl, cd_fst hr.1]
theorem fl_pos {l : List Int} (hr : Rt l) : ∀ k, k ≤ (ord l).length → ((fl (bt l) ((os l).take k)).length : Int) * p2 (11 - bt l) = pos l k ∧ fl (bt l) ((os l).take k) = tabn (fl (bt l) ((os l).take k)).length (ent l)
  | 0, _ => by simp [fl, pos_zero, tabn]
  | k + 1, hk => by
    obtain ⟨h1, h2⟩ := fl_pos hr k (by omega)
    obtain ⟨j, hj, hjl, h0, h11⟩ := ord_at (l := l) (i := k) (by omega)
    have hp := pos_succ (l := l) (by omega) hj
    have hge := bt_ge (l := l) j
    have hu := p2_pos (11 - bt l)
    have e1 : ((2 ^ ((bt l : Int) - l.getD j 0).toNat : Nat) : Int) = p2 (bt l - (l.getD j 0).toNat) := by rw [p2_nat]; congr 1; omega
    rw [os_at hr (by omega) hj hjl, fl_app, fl_one, List.length_append, List.length_replicate]
    generalize hP : (fl (bt l) ((os l).take k)).length = P at *
    generalize hM : (2 ^ ((bt l : Int) - l.getD j 0).toNat : Nat) = M at *
    have hsum : ((P + M : Nat) : Int) * p2 (11 - bt l) = pos l (k + 1) := by
      rw [hp, kw_p2 hr h0, ← e1, ← h1, ← Int.add_mul]; simp
    refine ⟨hsum, ?_⟩
    rw [h2]
    refine List.ext_getElem (by simp [tabn]) fun i g1 g2 => ?_
    have gl : i < P + M := by simpa [tabn] using g2
    have hall : pos l (k + 1) ≤ 2048 := by rw [← pos_all hr (Nat.le_refl _)]; exact pos_mono (by omega)
    simp only [tabn, List.getElem_append, List.getElem_map, List.getElem_range, List.length_map, List.length_range, List.getElem_replicate]
    split
    · rfl
    · rename_i gi
      have b1 : pos l k ≤ (i : Int) * p2 (11 - bt l) := by rw [← h1]; exact Int.mul_le_mul_of_nonneg_right (by omega) (by omega)
      have b2 : (i : Int) * p2 (11 - bt l) < pos l (k + 1) := by rw [← hsum]; exact Int.mul_lt_mul_of_pos_right (by omega) hu
      have b0 := pos_nonneg l k
      have hB : Beg l ((i : Int) * p2 (11 - bt l)) j := ⟨hjl, h0, (beg_iff (by omega) hj h0).2 ⟨b1, b2⟩⟩
      have hlt : (i : Int) < p2 (bt l) := by
        rcases Int.lt_or_le (i : Int) (p2 (bt l)) with h | h
        · exact h
        · have := Int.mul_le_mul_of_nonneg_right h (Int.le_of_lt hu)
          rw [p2_bt hr] at this; omega
      rw [ent_sel hr hlt, sel_eq hr (by omega) (by omega) hB]
theorem fl_tbl {l : List Int} (hr : Rt l) : fl (bt l) (os l) = tbl l := by
  obtain ⟨h1, h2⟩ := fl_pos hr (ord l).length (Nat.le_refl _)
  rw [pos_all hr (Nat.le_refl _), ← p2_bt hr] at h1
  have h3 := Int.eq_of_mul_eq_mul_right (by have := p2_pos (11 - bt l); omega) h1
  have h4 : (fl (bt l) ((os l).take (ord l).length)).length = 2 ^ bt l := by
    have := p2_nat (bt l)
    omega
  rw [h4, List.take_of_length_le (by rw [os_len]; omega)] at h2
  exact h2
/-- the entry that a string of bits finds -/
def idx (l : List Int) (bits m : Int) : Int := bits * 2 ^ (max 0 ((bt l : Int) - m)).toNat / 2 ^ (max 0 (m - bt l)).toNat
theorem idx_bd {l : List Int} (hr : Rt l) {bits m : Int} (h0 : 0 ≤ bits) (h64 : bits < 18446744073709551616) (hva : Va bits m) : 0 ≤ idx l bits m ∧ idx l bits m < p2 (bt l) ∧ win bits m / p2 (11 - bt l) = idx l bits m := by
  have hb := bt_bd hr
  have hw := win_bd h0 h64 hva
  have hm := hva.1
  have hu := p2_pos (11 - bt l)
  have key : win bits m / p2 (11 - bt l) = idx l bits m := by
    unfold idx
    by_cases c : m ≤ bt l
    · rw [show (max 0 (m - bt l)).toNat = 0 from by omega, Int.pow_zero, Int.ediv_one, show (max 0 ((bt l : Int) - m)).toNat = ((bt l : Int) - m).toNat from by omega]
      unfold win
      rw [if_pos (by omega), show ((11 : Int) - m).toNat = ((bt l : Int) - m).toNat + (11 - bt l) from by omega, Int.pow_add, ← Int.mul_assoc]
      exact Int.mul_ediv_cancel _ (by unfold p2 at hu; omega)
    · rw [show (max 0 ((bt l : Int) - m)).toNat = 0 from by omega, Int.pow_zero, Int.mul_one, show (max 0 (m - (bt l : Int))).toNat = (m - (bt l : Int)).toNat from by omega]
      unfold win
      split
      · rw [show p2 (11 - bt l) = 2 ^ (m - (bt l : Int)).toNat * 2 ^ ((11 : Int) - m).toNat from by unfold p2; rw [← Int.pow_add]; congr 1; omega]
        exact Int.mul_ediv_mul_of_pos_left _ _ (Int.pow_pos (by decide))
      · rw [Int.ediv_ediv_of_nonneg (Int.le_of_lt (Int.pow_pos (by decide)))]
        unfold p2
        rw [← Int.pow_add]
        congr 2; omega
  rw [← key]
  refine ⟨Int.ediv_nonneg hw.1 (Int.le_of_lt hu), ?_, rfl⟩
  rw [Int.ediv_lt_iff_lt_mul hu, p2_bt hr]
  exact hw.2
theorem dec_idx {l : List Int} (hr : Rt l) {bits m : Int} (h0 : 0 ≤ bits) (h64 : bits < 18446744073709551616) (hva : Va bits m) :
    dec l bits m = if (ent l (idx l bits m).toNat).2 ≤ m then ((ent l (idx l bits m).toNat).1, (ent l (idx l bits m).toNat).2, 0) else (0, 0, 3) := by
  obtain ⟨i0, i1, i2⟩ := idx_bd hr h0 h64 hva
  have hw := win_bd h0 h64 hva
  have hi := win_in hr i0 i1
  have e : (((idx l bits m).toNat : Nat) : Int) = idx l bits m := by omega
  have hs : sel l (idx l bits m * p2 (11 - bt l)) = sel l (win bits m) := by
    refine sel_shift hr hi.1 hi.2 hw.1 hw.2 ?_
    rw [Int.mul_ediv_cancel _ (by have := p2_pos (11 - bt l); omega), i2]
  rw [dec_sel hr h0 h64 hva, ent_sel hr (by omega), e, hs]
/-- two symbols at once -/
def two (l : List Int) (i : Nat) : Int × Int × Int × Int :=
  if (dec l ((i : Int) % p2 (bt l - (ent l i).2.toNat)) ((bt l : Int) - (ent l i).2)).2.2 ≠ 0 then (1, (ent l i).1, 0, (ent l i).2) else
  (2, (ent l i).1, (dec l ((i : Int) % p2 (bt l - (ent l i).2.toNat)) ((bt l : Int) - (ent l i).2)).1, (ent l i).2 + (dec l ((i : Int) % p2 (bt l - (ent l i).2.toNat)) ((bt l : Int) - (ent l i).2)).2.1)
end Go.Proofs.Ytilegaokfamfnaa
