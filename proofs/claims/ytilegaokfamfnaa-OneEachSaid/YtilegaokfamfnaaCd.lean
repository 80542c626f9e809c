/-
  Canonical codes: where the code words lie among the strings of eleven bits; the code word that a string begins with.
-/
import Derived.Test.YtilegaokfamfnaaCb
import Derived.Test.YtilegaokfamfnaaCc
set_option linter.unusedVariables false
namespace Go.Proofs.Ytilegaokfamfnaa
open Go.Fw

theorem kw_pow {x : Int} (h : 0 < x) : kw x = 2 ^ (11 - x).toNat := by rw [kw, if_pos h]
theorem kw_pos {x : Int} (h : 0 < x) : 0 < kw x := by rw [kw_pow h]; exact Int.pow_pos (by decide)
theorem kw_nonneg (x : Int) : 0 ≤ kw x := by
  by_cases h : 0 < x
  · exact Int.le_of_lt (kw_pos h)
  · simp [kw, h]
/-- where the code words of the first k symbols end, in the order of assignment -/
def pos (l : List Int) (k : Nat) : Int := ks (((ord l).take k).map fun x => l.getD x.toNat 0)
theorem pos_zero (l : List Int) : pos l 0 = 0 := by simp [pos, ks]
theorem pos_succ {l : List Int} {k j : Nat} (hk : k < (ord l).length) (hj : (ord l).getD k 0 = (j : Int)) : pos l (k + 1) = pos l k + kw (l.getD j 0) := by
  unfold pos
  rw [tk1 hk, List.map_append, ks_app, hj]
  simp [ks]
theorem ks_nonneg : ∀ l : List Int, 0 ≤ ks l
  | [] => by simp [ks]
  | x :: l => by have := ks_nonneg l; have := kw_nonneg x; simp only [ks]; omega
theorem pos_mono {l : List Int} {a b : Nat} (h : a ≤ b) : pos l a ≤ pos l b := by
  unfold pos
  have e : (ord l).take b = (ord l).take a ++ ((ord l).drop a).take (b - a) := by
    rw [← List.take_add, show a + (b - a) = b from by omega]
  rw [e, List.map_append, ks_app]
  have := ks_nonneg ((((ord l).drop a).take (b - a)).map fun x => l.getD x.toNat 0)
  omega
theorem pos_nonneg (l : List Int) (k : Nat) : 0 ≤ pos l k := ks_nonneg _
theorem ks_blk {l : List Int} {n : Nat} (hn : 0 < n) : ∀ i, ks ((blk l n i).map fun x => l.getD x.toNat 0) = (blk l n i).length * 2 ^ (11 - n)
  | 0 => by simp [blk, ks]
  | i + 1 => by
    have ih := ks_blk (l := l) hn i
    rw [blk, List.map_append, ks_app, ih, List.length_append]
    by_cases h : l.getD i 0 = (n : Int)
    · rw [if_pos h]
      have e : kw (l.getD i 0) = 2 ^ (11 - n) := by
        rw [h, kw_pow (by omega)]; congr 1; omega
      simp only [List.map_cons, List.map_nil, ks, List.length_cons, List.length_nil, Int.toNat_natCast, e]
      rw [show (((blk l n i).length + (0 + 1) : Nat) : Int) = ((blk l n i).length : Int) + 1 from by omega, Int.add_mul]; omega
    · rw [if_neg h]; simp [ks]
theorem ks_ordU (l : List Int) : ∀ n, n ≤ 11 → ks ((ordU l n).map fun x => l.getD x.toNat 0) = K l n
  | 0, _ => by simp [ordU, ks, K]
  | n + 1, h => by
    rw [ordU, List.map_append, ks_app, ks_ordU l n (by omega), ks_blk (by omega), blk_all (by omega), K]
theorem pos_all {l : List Int} (h : Rt l) {k : Nat} (hk : (ord l).length ≤ k) : pos l k = 2048 := by
  unfold pos
  rw [List.take_of_length_le hk, ord, ks_ordU l 11 (by omega), K_ks h.1, h.2.2.2]
/-- from the state where symbol i is about to be served to the one of its own length -/
theorem St.adv {l : List Int} : ∀ {d i n r j : Nat}, l.getD j 0 = ((n + d : Nat) : Int) → St l i n r → (F l n + r) * 2 ^ (11 - n) = pos l i → i < (ord l).length → (ord l).getD i 0 = (j : Int) →
    ∃ r', St l i (n + d) r' ∧ (F l (n + d) + r') * 2 ^ (11 - (n + d)) = pos l i
  | 0, i, n, r, j, _, hs, hp, _, _ => ⟨r, hs, hp⟩
  | d + 1, i, n, r, j, he, hs, hp, hi, hj => by
    obtain ⟨h1, h2⟩ := hs.next hi hj (by omega)
    have hle := h1.h2
    have e : (2 : Int) ^ (11 - n) = 2 * 2 ^ (11 - (n + 1)) := by rw [show 11 - n = (11 - (n + 1)) + 1 from by omega, Int.pow_succ, Int.mul_comm]
    have h3 : (F l (n + 1) + ((0 : Nat) : Int)) * 2 ^ (11 - (n + 1)) = pos l i := by
      rw [← hp, h2, e, F, ← Int.mul_assoc, Int.mul_comm (F l n + cn l n) 2]; simp
    have := St.adv (d := d) (n := n + 1) (r := 0) (by rw [he]; omega) h1 h3 hi hj
    rwa [show n + 1 + d = n + (d + 1) from by omega] at this
theorem st_all {l : List Int} : ∀ {i : Nat}, i < (ord l).length → ∃ n r j : Nat, (ord l).getD i 0 = (j : Int) ∧ l.getD j 0 = (n : Int) ∧ St l i n r ∧ (F l n + r) * 2 ^ (11 - n) = pos l i
  | 0, hi => by
    obtain ⟨j, hj, _, h0, _⟩ := ord_at hi
    obtain ⟨h1, h2, _⟩ := st_first hi hj
    refine ⟨(l.getD j 0).toNat, 0, j, hj, by omega, h1, ?_⟩
    rw [h2, pos_zero]; simp
  | i + 1, hi => by
    obtain ⟨n, r, j, hj, hn, hs, hp⟩ := st_all (l := l) (i := i) (by omega)
    obtain ⟨h1, _, _⟩ := hs.take (by omega) hj (by omega)
    obtain ⟨j', hj', _, hge, hle⟩ := h1.head hi
    have e : kw (l.getD j 0) = 2 ^ (11 - n) := by
      have := hs.h1
      rw [hn, kw_pow (by omega)]; congr 1; omega
    have hp' : (F l n + ((r + 1 : Nat) : Int)) * 2 ^ (11 - n) = pos l (i + 1) := by
      rw [pos_succ (by omega) hj, e, ← hp, show F l n + ((r + 1 : Nat) : Int) = (F l n + r) + 1 from by omega, Int.add_mul, Int.one_mul]
    obtain ⟨r', h2, h3⟩ := St.adv (d := (l.getD j' 0).toNat - n) (by omega) h1 hp' hi hj'
    refine ⟨n + ((l.getD j' 0).toNat - n), r', j', hj', by omega, h2, h3⟩
/-- the code word of the symbol that is served k-th begins where the ones before it end -/
theorem cd_pos {l : List Int} {k j : Nat} (hk : k < (ord l).length) (hj : (ord l).getD k 0 = (j : Int)) : (cd l j).2 * kw (l.getD j 0) = pos l k := by
  obtain ⟨n, r, j', hj', hn, hs, hp⟩ := st_all hk
  obtain rfl : j' = j := by omega
  have hc := hs.cd hk hj (by omega)
  have := hs.h1
  rw [hc, hn, kw_pow (by omega), ← hp, show ((11 : Int) - (n : Int)).toNat = 11 - n from by omega]
theorem ord_idx {l : List Int} (hb : Bd l) {j : Nat} (hj : j < l.length) (h0 : 0 < l.getD j 0) : ∃ k, k < (ord l).length ∧ (ord l).getD k 0 = (j : Int) := by
  obtain ⟨k, hk, e⟩ := List.mem_iff_getElem.1 ((ord_mem hb hj).2 h0)
  exact ⟨k, hk, by rw [List.getD_eq_getElem?_getD, List.getElem?_eq_getElem hk]; exact e⟩
/-- the string b of eleven bits begins with the code word of symbol j -/
def Beg (l : List Int) (b : Int) (j : Nat) : Prop := j < l.length ∧ 0 < l.getD j 0 ∧ b / kw (l.getD j 0) = (cd l j).2
instance (l : List Int) (b : Int) (j : Nat) : Decidable (Beg l b j) := inferInstanceAs (Decidable (j < l.length ∧ 0 < l.getD j 0 ∧ b / kw (l.getD j 0) = (cd l j).2))
theorem beg_iff {l : List Int} {b : Int} {k j : Nat} (hk : k < (ord l).length) (hj : (ord l).getD k 0 = (j : Int)) (h0 : 0 < l.getD j 0) : b / kw (l.getD j 0) = (cd l j).2 ↔ pos l k ≤ b ∧ b < pos l (k + 1) := by
  have h1 := cd_pos hk hj
  have h2 := pos_succ hk hj
  have h3 := kw_pos h0
  rw [← h1] at h2 ⊢
  rw [h2]
  have e : (cd l j).2 * kw (l.getD j 0) + kw (l.getD j 0) = ((cd l j).2 + 1) * kw (l.getD j 0) := by rw [Int.add_mul, Int.one_mul]
  rw [e, ← Int.le_ediv_iff_mul_le h3, ← Int.ediv_lt_iff_lt_mul h3]
  omega
theorem beg_uniq {l : List Int} (hb : Bd l) {b : Int} {i j : Nat} (hi : Beg l b i) (hj : Beg l b j) : i = j := by
  obtain ⟨a, ha, ea⟩ := ord_idx hb hi.1 hi.2.1
  obtain ⟨c, hc, ec⟩ := ord_idx hb hj.1 hj.2.1
  have h1 := (beg_iff ha ea hi.2.1).1 hi.2.2
  have h2 := (beg_iff hc ec hj.2.1).1 hj.2.2
  have : a = c := by
    rcases Nat.lt_trichotomy a c with h | h | h
    · have := pos_mono (l := l) (a := a + 1) (b := c) h; omega
    · exact h
    · have := pos_mono (l := l) (a := c + 1) (b := a) h; omega
  subst this
  omega
theorem pos_find {l : List Int} {b : Int} (h0 : 0 ≤ b) : ∀ m, m ≤ (ord l).length → b < pos l m → ∃ k, k < m ∧ pos l k ≤ b ∧ b < pos l (k + 1)
  | 0, _, h => by rw [pos_zero] at h; omega
  | m + 1, hm, h => by
    by_cases h1 : b < pos l m
    · obtain ⟨k, h2, h3⟩ := pos_find h0 m (by omega) h1
      exact ⟨k, by omega, h3⟩
    · exact ⟨m, by omega, by omega, h⟩
theorem beg_ex {l : List Int} (h : Rt l) {b : Int} (h0 : 0 ≤ b) (h1 : b < 2048) : ∃ j, Beg l b j := by
  obtain ⟨k, hk, h2, h3⟩ := pos_find (l := l) h0 (ord l).length (Nat.le_refl _) (by rw [pos_all h (Nat.le_refl _)]; exact h1)
  obtain ⟨j, hj, hjl, hj0, _⟩ := ord_at hk
  exact ⟨j, hjl, hj0, (beg_iff hk hj hj0).2 ⟨h2, h3⟩⟩
/-- the symbol whose code word the string b of eleven bits begins with -/
def sel (l : List Int) (b : Int) : Nat := ((List.range l.length).find? fun j => decide (Beg l b j)).getD 0
theorem sel_beg {l : List Int} (h : Rt l) {b : Int} (h0 : 0 ≤ b) (h1 : b < 2048) : Beg l b (sel l b) := by
  obtain ⟨j, hj⟩ := beg_ex h h0 h1
  unfold sel
  cases hf : (List.range l.length).find? fun j => decide (Beg l b j) with
  | none => exact absurd hj (by have := List.find?_eq_none.1 hf j (List.mem_range.2 hj.1); simpa using this)
  | some x => have := List.find?_some hf; simpa using this
theorem sel_eq {l : List Int} (h : Rt l) {b : Int} (h0 : 0 ≤ b) (h1 : b < 2048) {j : Nat} (hj : Beg l b j) : sel l b = j := beg_uniq h.1 (sel_beg h h0 h1) hj

/-! ### searching -/
theorem sy_own {l : List Int} (h : Rt l) {i : Nat} (hi : i < l.length) (h0 : 0 < l.getD i 0) : sy l (cd l i) = i := by
  have hbd := h.1
  rw [sy_t h]
  refine fidx_at (0, 0) (by rw [cds_len]; exact hi) (fun j hj => ?_) ?_
  · rw [cds_get (by omega)]
    unfold qsym
    rw [decide_eq_false_iff_not]
    rintro ⟨e, _⟩
    have e1 : l.getD j 0 = l.getD i 0 := by rw [← cd_fst hbd, ← cd_fst hbd, e]
    have hk := kw_pos h0
    have b1 : Beg l ((cd l i).2 * kw (l.getD i 0)) i := ⟨hi, h0, Int.mul_ediv_cancel _ (by omega)⟩
    have b2 : Beg l ((cd l i).2 * kw (l.getD i 0)) j := ⟨by omega, by omega, by rw [e1, e]; exact Int.mul_ediv_cancel _ (by omega)⟩
    have := beg_uniq hbd b1 b2
    omega
  · rw [cds_get hi]
    unfold qsym
    rw [decide_eq_true_iff]
    exact ⟨rfl, by rw [cd_fst hbd]; exact h0⟩
/-- the first eleven bits of a string of n bits, with zeros behind them -/
def win (bits n : Int) : Int := if n ≤ 11 then bits * 2 ^ (11 - n).toNat else bits / 2 ^ (n - 11).toNat
theorem va_lt {bits n : Int} (h0 : 0 ≤ bits) (h64 : bits < 18446744073709551616) (h : Va bits n) : bits < 2 ^ n.toNat := by
  obtain ⟨h1, h2⟩ := h
  have hp : (0 : Int) < 2 ^ n.toNat := Int.pow_pos (by decide)
  rcases h2 with rfl | h2
  · exact h64
  · rw [show min n.toNat IntKind.u64.bits = n.toNat from by show min _ 64 = _; omega] at h2
    have h3 : bits / 2 ^ n.toNat < 1 := by omega
    have := (Int.ediv_lt_iff_lt_mul hp).1 h3
    omega
theorem win_bd {bits n : Int} (h0 : 0 ≤ bits) (h64 : bits < 18446744073709551616) (h : Va bits n) : 0 ≤ win bits n ∧ win bits n < 2048 := by
  have hlt := va_lt h0 h64 h
  have h1 := h.1
  unfold win
  split
  · have hp : (0 : Int) < 2 ^ (11 - n).toNat := Int.pow_pos (by decide)
    refine ⟨Int.mul_nonneg h0 (Int.le_of_lt hp), ?_⟩
    have e : (2048 : Int) = 2 ^ n.toNat * 2 ^ (11 - n).toNat := by
      rw [← Int.pow_add, show n.toNat + (11 - n).toNat = 11 from by omega]; decide
    rw [e]
    exact Int.mul_lt_mul_of_pos_right hlt hp
  · have hp : (0 : Int) < 2 ^ (n - 11).toNat := Int.pow_pos (by decide)
    refine ⟨Int.ediv_nonneg h0 (Int.le_of_lt hp), ?_⟩
    rw [Int.ediv_lt_iff_lt_mul hp]
    have e : (2048 : Int) * 2 ^ (n - 11).toNat = 2 ^ n.toNat := by
      rw [show (2048 : Int) = 2 ^ 11 from by decide, ← Int.pow_add, show 11 + (n - 11).toNat = n.toNat from by omega]
    omega
theorem win_div {bits n x : Int} (h0 : 0 ≤ n) (h1 : 0 < x) (h2 : x ≤ n) (h3 : x ≤ 11) : win bits n / kw x = bits / 2 ^ (n - x).toNat := by
  rw [kw_pow h1]
  unfold win
  split
  · rw [show (11 - x).toNat = (n - x).toNat + (11 - n).toNat from by omega, Int.pow_add]
    exact Int.mul_ediv_mul_of_pos_left _ _ (Int.pow_pos (by decide))
  · rw [Int.ediv_ediv_of_nonneg (Int.le_of_lt (Int.pow_pos (by decide))), ← Int.pow_add]
    congr 2; omega
theorem qrd_beg {l : List Int} (h : Rt l) {bits n : Int} (hva : Va bits n) {j : Nat} (hj : j < l.length) : qrd bits n ((cds l).getD j (0, 0)) = true ↔ Beg l (win bits n) j ∧ l.getD j 0 ≤ n := by
  have hb := h.1.gd j
  have hv := hva.1
  rw [cds_get hj]
  unfold qrd Beg
  rw [decide_eq_true_iff, cd_fst h.1]
  constructor
  · rintro ⟨h1, h2, h3⟩
    rw [show min (n - l.getD j 0).toNat IntKind.u64.bits = (n - l.getD j 0).toNat from by show min _ 64 = _; omega] at h3
    exact ⟨⟨hj, h1, by rw [win_div hv.1 h1 h2 hb.2]; exact h3⟩, h2⟩
  · rintro ⟨⟨_, h1, h3⟩, h2⟩
    rw [win_div hv.1 h1 h2 hb.2] at h3
    exact ⟨h1, h2, by rw [show min (n - l.getD j 0).toNat IntKind.u64.bits = (n - l.getD j 0).toNat from by show min _ 64 = _; omega]; exact h3⟩
theorem dec_sel {l : List Int} (h : Rt l) {bits n : Int} (h0 : 0 ≤ bits) (h64 : bits < 18446744073709551616) (hva : Va bits n) :
    dec l bits n = if l.getD (sel l (win bits n)) 0 ≤ n then (((sel l (win bits n) : Nat) : Int), l.getD (sel l (win bits n)) 0, 0) else (0, 0, 3) := by
  have hw := win_bd h0 h64 hva
  have hs := sel_beg h hw.1 hw.2
  by_cases hle : l.getD (sel l (win bits n)) 0 ≤ n
  · rw [if_pos hle]
    have hf : fidx (qrd bits n) (cds l) = (sel l (win bits n) : Nat) := by
      refine fidx_at (0, 0) (by rw [cds_len]; exact hs.1) (fun j hj => ?_) ((qrd_beg h hva hs.1).2 ⟨hs, hle⟩)
      cases hq : qrd bits n ((cds l).getD j (0, 0)) with
      | false => rfl
      | true =>
        have h1 := (qrd_beg h hva (Nat.lt_trans hj hs.1)).1 hq
        have := beg_uniq h.1 h1.1 hs
        omega
    rw [dec_ok h hva (by rw [hf]; omega), hf, Int.toNat_natCast, cds_get hs.1, cd_fst h.1]
  · rw [if_neg hle]
    have hf : fidx (qrd bits n) (cds l) = -1 := by
      refine fidx_none (0, 0) fun j hj => ?_
      rw [cds_len] at hj
      cases hq : qrd bits n ((cds l).getD j (0, 0)) with
      | false => rfl
      | true =>
        have h1 := (qrd_beg h hva hj).1 hq
        have := beg_uniq h.1 h1.1 hs
        subst this
        exact absurd h1.2 hle
    rw [dec_short h hva (by rw [hf]; omega)]

/-! ### from code words back to lengths -/
theorem lns_cds {l : List Int} (hb : Bd l) : lns (cds l) = l := by
  apply List.ext_getElem?
  intro i
  unfold lns
  rw [List.getElem?_map]
  rcases Nat.lt_or_ge i l.length with hi | hi
  · have h1 := cds_get hi
    rw [List.getD_eq_getElem?_getD, List.getElem?_eq_getElem (by rw [cds_len]; exact hi)] at h1
    rw [List.getElem?_eq_getElem (by rw [cds_len]; exact hi), List.getElem?_eq_getElem hi]
    simp only [Option.map_some, Option.getD_some] at h1 ⊢
    rw [h1, cd_fst hb, List.getD_eq_getElem?_getD, List.getElem?_eq_getElem hi]; rfl
  · rw [List.getElem?_eq_none (by rw [cds_len]; exact hi), List.getElem?_eq_none hi]; rfl
theorem ofc_cds {l : List Int} (h : Rt l) : ofc (cds l) = (l, 0) := by
  have hl := lns_cds h.1
  have hq : fidx qbad (cds l) = -1 := by
    refine fidx_none (0, 0) fun j hj => ?_
    rw [cds_len] at hj
    rw [cds_get hj]
    unfold qbad
    rw [decide_eq_false_iff_not]
    rintro ⟨h1, h2⟩
    by_cases h0 : 0 < l.getD j 0
    · have hc := cd_bd h hj h0
      have hg := h.1.gd j
      exact h2 ⟨by omega, by omega, by rw [hc.2.2.1]; exact hc.2.1⟩
    · exact h1 (cd_zero h0)
  have := ofc_ok (cs := cds l) ⟨by rw [cds_len]; exact h.2.1, by rw [hq]; decide⟩ (by rw [hl]; exact h) (by rw [hl])
  rw [this, hl]

/-! ### rising -/
/-- code word c comes directly after a -/
theorem cd_rise {l : List Int} (h : Rt l) {k i j : Nat} (hk : k + 1 < (ord l).length) (hi : (ord l).getD k 0 = (i : Int)) (hj : (ord l).getD (k + 1) 0 = (j : Int)) :
    l.getD i 0 ≤ l.getD j 0 ∧ (cd l j).2 / 2 ^ (l.getD j 0 - l.getD i 0).toNat = (cd l i).2 + 1 := by
  obtain ⟨n, r, i', hi', hn, hs, _⟩ := st_all (l := l) (i := k) (by omega)
  obtain rfl : i' = i := by omega
  obtain ⟨h1, _, _⟩ := hs.take (by omega) hi (by omega)
  obtain ⟨j', hj', _, hge, hle⟩ := h1.head hk
  obtain rfl : j' = j := by omega
  have hn1 := hs.h1
  refine ⟨by omega, ?_⟩
  have p1 := cd_pos (k := k) (by omega) hi
  have p2 := cd_pos hk hj
  have p3 := pos_succ (k := k) (by omega) hi
  have e : kw (l.getD i' 0) = 2 ^ (l.getD j' 0 - l.getD i' 0).toNat * kw (l.getD j' 0) := by
    rw [kw_pow (by omega), kw_pow (by omega), ← Int.pow_add]; congr 1; omega
  rw [← p2, ← p1, e] at p3
  have hk0 := kw_pos (x := l.getD j' 0) (by omega)
  have hm : (cd l j').2 = ((cd l i').2 + 1) * 2 ^ (l.getD j' 0 - l.getD i' 0).toNat := by
    apply Int.eq_of_mul_eq_mul_right (a := kw (l.getD j' 0)) (by omega)
    rw [p3, Int.add_mul, Int.one_mul, Int.add_mul, Int.mul_assoc]
  have hp : (2 : Int) ^ (l.getD j' 0 - l.getD i' 0).toNat ≠ 0 := Int.ne_of_gt (Int.pow_pos (by decide))
  rw [hm, Int.mul_ediv_cancel _ hp]
theorem cd_last {l : List Int} (h : Rt l) {k i : Nat} (hk : k + 1 = (ord l).length) (hi : (ord l).getD k 0 = (i : Int)) (h0 : 0 < l.getD i 0) (h1 : l.getD i 0 ≤ 11) : (cd l i).2 = 2 ^ (l.getD i 0).toNat - 1 := by
  have p1 := cd_pos (k := k) (by omega) hi
  have p3 := pos_succ (k := k) (by omega) hi
  rw [pos_all h (by omega), ← p1] at p3
  have hk0 := kw_pos h0
  have e : (2048 : Int) = 2 ^ (l.getD i 0).toNat * kw (l.getD i 0) := by
    rw [kw_pow h0, ← Int.pow_add, show (l.getD i 0).toNat + (11 - l.getD i 0).toNat = 11 from by omega]; decide
  have : (cd l i).2 + 1 = 2 ^ (l.getD i 0).toNat := by
    apply Int.eq_of_mul_eq_mul_right (a := kw (l.getD i 0)) (by omega)
    rw [← e, p3, Int.add_mul, Int.one_mul]
  omega
end Go.Proofs.Ytilegaokfamfnaa
