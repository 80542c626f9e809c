/-
  Layer 38: window sizes, headers, their encodings.
-/
import Derived.Test.YtflmjdnhjbiobaaPg
import Derived.Test.YtflmjdnhjbiobaaFk
set_option linter.unusedVariables false
namespace Go.Proofs.Ytflmjdnhjbiobaa
open Go.Fw

/-! ### windows -/
def hwi (w : Int) (i : Nat) : Int := (8 + w % 8) * 2 ^ (7 + i)
def hwr (w : Int) : Int := hwi w (w / 8).toNat
/-- the window size of a byte, or 0 -/
def hw (w : Int) : Int := if hwr w ≤ 134217728 then hwr w else 0
theorem hwr_tab : ∀ n : Nat, n < 256 → (n ≤ 136 → 1024 ≤ hwr n ∧ hwr n ≤ 134217728) ∧ (136 < n → 134217728 < hwr n ∧ hwr n < 9223372036854775808) ∧
    (n < 136 → hwr n < hwr ((n + 1 : Nat) : Int) ∧ hwr ((n + 1 : Nat) : Int) - hwr n ≤ hwr n / 8) ∧ IntKind.i64.wrap ((8 + (n : Int) % 8) * 2 ^ (min (7 + (n : Int) / 8).toNat IntKind.i64.bits)) = hwr n := by decide +kernel
theorem hw_in {n : Nat} (h : n ≤ 136) : hw n = hwr n ∧ 1024 ≤ hw n ∧ hw n ≤ 134217728 := by
  have := (hwr_tab n (by omega)).1 h
  unfold hw; rw [if_pos this.2]; omega
theorem hw_out {n : Nat} (h : 136 < n) (h2 : n < 256) : hw n = 0 := by
  have := (hwr_tab n h2).2.1 h
  unfold hw; rw [if_neg (by omega)]
theorem hw_mono {n : Nat} (h : n < 136) : hw n < hw ((n + 1 : Nat) : Int) ∧ hw ((n + 1 : Nat) : Int) - hw n ≤ hw n / 8 := by
  have h1 := (hwr_tab n (by omega)).2.2.1 h
  rw [(hw_in (n := n) (by omega)).1, (hw_in (n := n + 1) (by omega)).1]; exact h1
theorem hw_136 : hw ((136 : Nat) : Int) = 134217728 := by decide +kernel
theorem hw_0 : hw 0 = 1024 := by decide +kernel
theorem hw_lt {a b : Nat} (h : a < b) (hb : b ≤ 136) : hw a < hw b := by
  induction b with
  | zero => omega
  | succ b ih =>
    have h1 := (hw_mono (n := b) (by omega)).1
    rcases Nat.lt_or_ge a b with h2 | h2
    · exact Int.lt_trans (ih h2 (by omega)) h1
    · rw [show a = b from by omega]; exact h1
theorem hw_bd {w : Int} (h0 : 0 ≤ w) (h1 : w < 256) : (hw w = 0 ∧ 136 < w) ∨ (1024 ≤ hw w ∧ hw w ≤ 134217728 ∧ w ≤ 136) := by
  have e : ((w.toNat : Nat) : Int) = w := by omega
  rcases Nat.lt_or_ge 136 w.toNat with h | h
  · left; have := hw_out h (by omega); rw [e] at this; exact ⟨this, by omega⟩
  · right; have := hw_in h; rw [e] at this; exact ⟨this.2.1, this.2.2, by omega⟩
theorem shlw {w : Int} (h0 : 0 ≤ w) (h1 : w < 256) : IntKind.i64.wrap ((8 + w % 8) * 2 ^ (min (7 + w / 8).toNat IntKind.i64.bits)) = hwr w := by
  have := (hwr_tab w.toNat (by omega)).2.2.2
  rwa [show ((w.toNat : Nat) : Int) = w from by omega] at this
theorem hw_pos {w : Int} (h : hwr w ≤ 134217728) : hw w = hwr w := if_pos h
theorem hw_neg {w : Int} (h : ¬ hwr w ≤ 134217728) : hw w = 0 := if_neg h
theorem hwr_pos {w : Int} (h0 : 0 ≤ w) (h1 : w < 256) : 1024 ≤ hwr w := by
  have := hwr_tab w.toNat (by omega)
  rw [show ((w.toNat : Nat) : Int) = w from by omega] at this
  rcases Nat.lt_or_ge 136 w.toNat with h | h
  · have := this.2.1 h; omega
  · have := this.1 h; omega
theorem hwi_succ (w : Int) (i : Nat) : hwi w (i + 1) = 2 * hwi w i := by
  unfold hwi; rw [show 7 + (i + 1) = (7 + i) + 1 from by omega, Int.pow_succ, ← Int.mul_assoc, Int.mul_comm _ 2]
theorem hwi_nonneg {w : Int} (i : Nat) (h0 : 0 ≤ w) : 0 ≤ hwi w i := Int.mul_nonneg (by omega) (Int.le_of_lt (Int.pow_pos (by decide)))
theorem hwi_mono {w : Int} (h0 : 0 ≤ w) {i j : Nat} (h : i ≤ j) : hwi w i ≤ hwi w j := by
  induction h with
  | refl => exact Int.le_refl _
  | step _ ih => rw [hwi_succ]; have := hwi_nonneg (w := w) i h0; omega
theorem hwi_zero (w : Int) : hwi w 0 = 1024 + w % 8 * 128 := by unfold hwi; rw [show (2 : Int) ^ (7 + 0) = 128 from by decide]; omega
/-- the least byte whose window size is at least x -/
def hb (x : Int) : Nat := ((List.range 137).find? fun n => decide (x ≤ hw (n : Nat))).getD 136
theorem hb_eq {x : Int} {k : Nat} (hk : k ≤ 136) (hl : ∀ i : Nat, i < k → hw i < x) (hx : x ≤ hw k) : hb x = k := by
  unfold hb
  have : (List.range 137).find? (fun n => decide (x ≤ hw (n : Nat))) = some k := by
    rw [List.find?_range_eq_some]
    exact ⟨by simpa using hx, List.mem_range.2 (by omega), fun j hj => by have := hl j hj; simp; omega⟩
  rw [this]; rfl
theorem hb_spec {x : Int} (h : x ≤ 134217728) : hb x ≤ 136 ∧ x ≤ hw (hb x) ∧ ∀ i : Nat, i < hb x → hw i < x := by
  have key : ∀ m : Nat, m ≤ 136 → (∀ i : Nat, i < 136 - m → hw i < x) → ∃ k : Nat, k ≤ 136 ∧ x ≤ hw k ∧ ∀ i : Nat, i < k → hw i < x := by
    intro m
    induction m with
    | zero => intro _ hl; exact ⟨136, by omega, by rw [hw_136]; exact h, hl⟩
    | succ m ih =>
      intro hm hl
      by_cases h1 : x ≤ hw ((136 - (m + 1) : Nat) : Int)
      · exact ⟨136 - (m + 1), by omega, h1, hl⟩
      · refine ih (by omega) fun i hi => ?_
        rcases Nat.lt_or_ge i (136 - (m + 1)) with h2 | h2
        · exact hl i h2
        · rw [show i = 136 - (m + 1) from by omega]; omega
  obtain ⟨k, h1, h2, h3⟩ := key 136 (by omega) (fun i hi => absurd hi (by omega))
  rw [hb_eq h1 h3 h2]; exact ⟨h1, h2, h3⟩
theorem hb_hw {n : Nat} (h : n ≤ 136) : hb (hw n) = n := hb_eq h (fun i hi => hw_lt hi h) (Int.le_refl _)
theorem hb_near {x : Int} (h0 : 1024 ≤ x) (h : x ≤ 134217728) : hw (hb x) - x ≤ x / 8 := by
  obtain ⟨h1, h2, h3⟩ := hb_spec h
  cases hk : hb x with
  | zero => rw [show ((0 : Nat) : Int) = 0 from rfl, hw_0]; omega
  | succ k =>
    rw [hk] at h1 h3
    have h4 := h3 k (by omega)
    have h5 := (hw_mono (n := k) (by omega)).2
    omega
/-- a valid header's window and size -/
def Hv (wz sz : Int) : Prop := 0 ≤ wz ∧ wz ≤ 134217728 ∧ sz ≤ 4611686018427387903 ∧ hw (hb wz) = wz
instance (wz sz : Int) : Decidable (Hv wz sz) := inferInstanceAs (Decidable (0 ≤ wz ∧ wz ≤ 134217728 ∧ sz ≤ 4611686018427387903 ∧ hw (hb wz) = wz))
theorem Hv.low {wz sz : Int} (h : Hv wz sz) : 1024 ≤ wz := by
  have := (hw_in (hb_spec h.2.1).1).2.1
  rw [h.2.2.2] at this; exact this
theorem hb_le {x : Int} (h : x ≤ 134217728) : hb x ≤ 136 := (hb_spec h).1

/-! ### bits -/
theorem and1N : ∀ x : Nat, x < 256 → x &&& 1 = x % 2 := by decide +kernel
theorem and2N : ∀ x : Nat, x < 256 → x &&& 2 = x / 2 % 2 * 2 := by decide +kernel
theorem and4N : ∀ x : Nat, x < 256 → x &&& 4 = x / 4 % 2 * 4 := by decide +kernel
theorem and1 {x : Int} (h0 : 0 ≤ x) (h1 : x < 256) : IntKind.u8.wrap (((x % 2 ^ IntKind.u8.bits).toNat &&& (1 % 2 ^ IntKind.u8.bits : Int).toNat : Nat) : Int) = x % 2 := by
  have e : (2 ^ IntKind.u8.bits : Int) = 256 := by decide
  have e2 : (1 % 256 : Int).toNat = 1 := by decide
  rw [e, e2, and1N _ (by omega), wu8 (by omega) (by omega)]; omega
theorem and2 {x : Int} (h0 : 0 ≤ x) (h1 : x < 256) : IntKind.u8.wrap (((x % 2 ^ IntKind.u8.bits).toNat &&& (2 % 2 ^ IntKind.u8.bits : Int).toNat : Nat) : Int) = x / 2 % 2 * 2 := by
  have e : (2 ^ IntKind.u8.bits : Int) = 256 := by decide
  have e2 : (2 % 256 : Int).toNat = 2 := by decide
  rw [e, e2, and2N _ (by omega), wu8 (by omega) (by omega)]; omega
theorem and4 {x : Int} (h0 : 0 ≤ x) (h1 : x < 256) : IntKind.u8.wrap (((x % 2 ^ IntKind.u8.bits).toNat &&& (4 % 2 ^ IntKind.u8.bits : Int).toNat : Nat) : Int) = x / 4 % 2 * 4 := by
  have e : (2 ^ IntKind.u8.bits : Int) = 256 := by decide
  have e2 : (4 % 256 : Int).toNat = 4 := by decide
  rw [e, e2, and4N _ (by omega), wu8 (by omega) (by omega)]; omega

/-! ### encodings -/
def hbits (sz dn : Int) (sm : Bool) : Int := (if 0 ≤ sz then 1 else 0) + (if sm = true then 2 else 0) + (if dn = 0 then 0 else 4)
def henc (wz sz dn : Int) (sm : Bool) : List Int := [80, 77, 84, 30] ++ [hbits sz dn sm, (hb wz : Int)] ++ (if dn = 0 then [] else word dn) ++ (if 0 ≤ sz then vi sz else [])
theorem hbits_bd (sz dn : Int) (sm : Bool) : 0 ≤ hbits sz dn sm ∧ hbits sz dn sm ≤ 7 := by
  unfold hbits; constructor <;> split <;> split <;> split <;> omega
theorem henc_byt {wz sz dn : Int} {sm : Bool} (h : Hv wz sz) (d0 : 0 ≤ dn) (d1 : dn < 4294967296) : Byt (henc wz sz dn sm) := by
  have h1 := hbits_bd sz dn sm
  have h2 := hb_le h.2.1
  unfold henc
  refine byt_app (byt_app (byt_app ?_ ?_) ?_) ?_
  · intro x hx; simp at hx; omega
  · intro x hx; simp at hx; omega
  · split
    · exact byt_nil
    · exact word_byt d0 d1
  · split
    · exact vi_byt (by assumption)
    · exact byt_nil
theorem henc_len {wz sz dn : Int} {sm : Bool} : (henc wz sz dn sm).length = 6 + (if dn = 0 then 0 else 4) + (if 0 ≤ sz then (vi sz).length else 0) := by
  unfold henc; split <;> split <;> simp [word] <;> omega

/-! ### decoding -/
def frm : List Int := [80, 77, 84, 30]
def skp : List Int := [80, 77, 84, 83]
/-- what begins at p: a frame (1), a skippable frame (2); the error -/
def hmk (bs : List Int) (p : Nat) : Int × Int := if bs.length < p + 4 then (0, 3) else if (bs.drop p).take 4 = frm then (1, 0) else if (bs.drop p).take 4 = skp then (2, 0) else (0, 6)
theorem hmk_short {bs : List Int} {p : Nat} (h : bs.length < p + 4) : hmk bs p = (0, 3) := if_pos h
theorem hmk_frm {bs : List Int} {p : Nat} (h : ¬ bs.length < p + 4) (h2 : (bs.drop p).take 4 = frm) : hmk bs p = (1, 0) := by unfold hmk; rw [if_neg h, if_pos h2]
theorem hmk_skp {bs : List Int} {p : Nat} (h : ¬ bs.length < p + 4) (h2 : ¬ (bs.drop p).take 4 = frm) (h3 : (bs.drop p).take 4 = skp) : hmk bs p = (2, 0) := by unfold hmk; rw [if_neg h, if_neg h2, if_pos h3]
theorem hmk_no {bs : List Int} {p : Nat} (h : ¬ bs.length < p + 4) (h2 : ¬ (bs.drop p).take 4 = frm) (h3 : ¬ (bs.drop p).take 4 = skp) : hmk bs p = (0, 6) := by unfold hmk; rw [if_neg h, if_neg h2, if_neg h3]
theorem take4 {bs : List Int} {p : Nat} (h : ¬ bs.length < p + 4) : (bs.drop p).take 4 = (bs.drop p).take 3 ++ [bs.getD (p + 3) 0] := by
  rw [show 4 = 3 + 1 from rfl, take_getD (by rw [List.length_drop]; omega), gd_drop]
theorem app1_inj {a c : List Int} {x y : Int} (h : a.length = c.length) : a ++ [x] = c ++ [y] ↔ a = c ∧ x = y := by
  constructor
  · intro e
    have := List.append_inj e h
    exact ⟨this.1, by simpa using this.2⟩
  · rintro ⟨rfl, rfl⟩; rfl
theorem frm_iff {bs : List Int} {p : Nat} (h : ¬ bs.length < p + 4) : (bs.drop p).take 4 = frm ↔ (bs.drop p).take 3 = [80, 77, 84] ∧ bs.getD (p + 3) 0 = 30 := by
  rw [take4 h, show frm = [80, 77, 84] ++ [30] from rfl]
  exact app1_inj (by rw [List.length_take, List.length_drop]; simp; omega)
theorem skp_iff {bs : List Int} {p : Nat} (h : ¬ bs.length < p + 4) : (bs.drop p).take 4 = skp ↔ (bs.drop p).take 3 = [80, 77, 84] ∧ bs.getD (p + 3) 0 = 83 := by
  rw [take4 h, show skp = [80, 77, 84] ++ [83] from rfl]
  exact app1_inj (by rw [List.length_take, List.length_drop]; simp; omega)
abbrev Hd := Int × Int × Int × Bool
def hz : Hd := (0, 0, 0, false)
def hdict (bs : List Int) (p : Nat) : Int × Nat × Int := if bs.getD (p + 4) 0 / 4 = 1 then gword bs (p + 6) else (0, p + 6, 0)
def hsize (bs : List Int) (p q : Nat) : Int × Nat × Int := if bs.getD (p + 4) 0 % 2 = 1 then gvar bs q else (-1, q, 0)
def ghead (bs : List Int) (p : Nat) : Hd × Nat × Int :=
  if (hmk bs p).2 ≠ 0 then (hz, p, (hmk bs p).2) else if (hmk bs p).1 ≠ 1 then (hz, p, 6) else
  if bs.length < p + 5 then (hz, p, 3) else if 7 < bs.getD (p + 4) 0 then (hz, p, 7) else
  if bs.length < p + 6 then (hz, p, 3) else if hw (bs.getD (p + 5) 0) = 0 then (hz, p, 7) else
  if (hdict bs p).2.2 ≠ 0 then (hz, p, (hdict bs p).2.2) else if bs.getD (p + 4) 0 / 4 = 1 ∧ (hdict bs p).1 = 0 then (hz, p, 7) else
  if (hsize bs p (hdict bs p).2.1).2.2 ≠ 0 then (hz, p, (hsize bs p (hdict bs p).2.1).2.2) else
  ((hw (bs.getD (p + 5) 0), (hsize bs p (hdict bs p).2.1).1, (hdict bs p).1, decide (bs.getD (p + 4) 0 / 2 % 2 = 1)), (hsize bs p (hdict bs p).2.1).2.1, 0)
/-- the marks say frame -/
def Hm (bs : List Int) (p : Nat) : Prop := (hmk bs p).2 = 0 ∧ (hmk bs p).1 = 1
theorem gh_mk {bs : List Int} {p : Nat} (h : (hmk bs p).2 ≠ 0) : ghead bs p = (hz, p, (hmk bs p).2) := if_pos h
theorem gh_kind {bs : List Int} {p : Nat} (h : (hmk bs p).2 = 0) (h2 : (hmk bs p).1 ≠ 1) : ghead bs p = (hz, p, 6) := by unfold ghead; rw [if_neg (by omega), if_pos h2]
theorem gh_5 {bs : List Int} {p : Nat} (h : Hm bs p) (h2 : bs.length < p + 5) : ghead bs p = (hz, p, 3) := by unfold ghead; rw [if_neg (by have := h.1; omega), if_neg (by have := h.2; omega), if_pos h2]
theorem gh_bits {bs : List Int} {p : Nat} (h : Hm bs p) (h2 : ¬ bs.length < p + 5) (h3 : 7 < bs.getD (p + 4) 0) : ghead bs p = (hz, p, 7) := by unfold ghead; rw [if_neg (by have := h.1; omega), if_neg (by have := h.2; omega), if_neg h2, if_pos h3]
theorem gh_6 {bs : List Int} {p : Nat} (h : Hm bs p) (h2 : ¬ bs.length < p + 5) (h3 : ¬ 7 < bs.getD (p + 4) 0) (h4 : bs.length < p + 6) : ghead bs p = (hz, p, 3) := by
  unfold ghead; rw [if_neg (by have := h.1; omega), if_neg (by have := h.2; omega), if_neg h2, if_neg h3, if_pos h4]
theorem gh_win {bs : List Int} {p : Nat} (h : Hm bs p) (h2 : ¬ bs.length < p + 5) (h3 : ¬ 7 < bs.getD (p + 4) 0) (h4 : ¬ bs.length < p + 6) (h5 : hw (bs.getD (p + 5) 0) = 0) : ghead bs p = (hz, p, 7) := by
  unfold ghead; rw [if_neg (by have := h.1; omega), if_neg (by have := h.2; omega), if_neg h2, if_neg h3, if_neg h4, if_pos h5]
theorem gh_dict {bs : List Int} {p : Nat} (h : Hm bs p) (h3 : ¬ 7 < bs.getD (p + 4) 0) (h4 : ¬ bs.length < p + 6) (h5 : ¬ hw (bs.getD (p + 5) 0) = 0) (h6 : (hdict bs p).2.2 ≠ 0) : ghead bs p = (hz, p, (hdict bs p).2.2) := by
  unfold ghead; rw [if_neg (by have := h.1; omega), if_neg (by have := h.2; omega), if_neg (by omega), if_neg h3, if_neg h4, if_neg h5, if_pos h6]
theorem gh_zero {bs : List Int} {p : Nat} (h : Hm bs p) (h3 : ¬ 7 < bs.getD (p + 4) 0) (h4 : ¬ bs.length < p + 6) (h5 : ¬ hw (bs.getD (p + 5) 0) = 0) (h6 : (hdict bs p).2.2 = 0) (h7 : bs.getD (p + 4) 0 / 4 = 1 ∧ (hdict bs p).1 = 0) : ghead bs p = (hz, p, 7) := by
  unfold ghead; rw [if_neg (by have := h.1; omega), if_neg (by have := h.2; omega), if_neg (by omega), if_neg h3, if_neg h4, if_neg h5, if_neg (by omega), if_pos h7]
theorem gh_size {bs : List Int} {p : Nat} (h : Hm bs p) (h3 : ¬ 7 < bs.getD (p + 4) 0) (h4 : ¬ bs.length < p + 6) (h5 : ¬ hw (bs.getD (p + 5) 0) = 0) (h6 : (hdict bs p).2.2 = 0) (h7 : ¬ (bs.getD (p + 4) 0 / 4 = 1 ∧ (hdict bs p).1 = 0))
    (h8 : (hsize bs p (hdict bs p).2.1).2.2 ≠ 0) : ghead bs p = (hz, p, (hsize bs p (hdict bs p).2.1).2.2) := by
  unfold ghead; rw [if_neg (by have := h.1; omega), if_neg (by have := h.2; omega), if_neg (by omega), if_neg h3, if_neg h4, if_neg h5, if_neg (by omega), if_neg h7, if_pos h8]
theorem gh_ok {bs : List Int} {p : Nat} (h : Hm bs p) (h3 : ¬ 7 < bs.getD (p + 4) 0) (h4 : ¬ bs.length < p + 6) (h5 : ¬ hw (bs.getD (p + 5) 0) = 0) (h6 : (hdict bs p).2.2 = 0) (h7 : ¬ (bs.getD (p + 4) 0 / 4 = 1 ∧ (hdict bs p).1 = 0))
    (h8 : (hsize bs p (hdict bs p).2.1).2.2 = 0) : ghead bs p = ((hw (bs.getD (p + 5) 0), (hsize bs p (hdict bs p).2.1).1, (hdict bs p).1, decide (bs.getD (p + 4) 0 / 2 % 2 = 1)), (hsize bs p (hdict bs p).2.1).2.1, 0) := by
  unfold ghead; rw [if_neg (by have := h.1; omega), if_neg (by have := h.2; omega), if_neg (by omega), if_neg h3, if_neg h4, if_neg h5, if_neg (by omega), if_neg h7, if_neg (by omega)]

/-! ### a window of the bytes -/
theorem run_take : ∀ (f m : Nat) (l : List Int), f ≤ m → run f (l.take m) = run f l
  | 0, _, _, _ => by simp [run]
  | f + 1, 0, _, h => by omega
  | f + 1, m + 1, [], _ => by simp
  | f + 1, m + 1, x :: l, h => by
    rw [List.take_succ_cons]
    simp only [run, run_take f m l (by omega)]
theorem gvar_cut {bs : List Int} {p q t : Nat} (hq : q + 9 ≤ t) : gvar ((bs.drop p).take t) q = ((gvar bs (p + q)).1, (if (gvar bs (p + q)).2.2 = 0 then (gvar bs (p + q)).2.1 - p else q), (gvar bs (p + q)).2.2) := by
  have e : ((bs.drop p).take t).drop q = (bs.drop (p + q)).take (t - q) := by rw [List.drop_take, List.drop_drop]
  have hr := run_take 9 (t - q) (bs.drop (p + q)) (by omega)
  have h9 := run_le 9 (bs.drop (p + q))
  unfold gvar
  rw [e]
  simp only [hr]
  generalize run 9 (bs.drop (p + q)) = k at h9 ⊢
  by_cases h1 : k = 9
  · simp [h1]
  · rw [if_neg h1, if_neg h1]
    have hl : ((bs.drop (p + q)).take (t - q)).length ≤ k ↔ (bs.drop (p + q)).length ≤ k := by rw [List.length_take]; omega
    by_cases h2 : (bs.drop (p + q)).length ≤ k
    · rw [if_pos (hl.2 h2), if_pos h2]; simp
    · rw [if_neg (fun h => h2 (hl.1 h)), if_neg h2]
      have hg : ((bs.drop (p + q)).take (t - q)).getD k 0 = (bs.drop (p + q)).getD k 0 := gd_take (by omega)
      have ht : ((bs.drop (p + q)).take (t - q)).take (k + 1) = (bs.drop (p + q)).take (k + 1) := by rw [List.take_take, Nat.min_eq_left (by omega)]
      rw [hg, ht]
      split
      · simp
      · split
        · simp
        · simp; omega
theorem gword_cut {bs : List Int} {p q t : Nat} (hq : q + 4 ≤ t) : gword ((bs.drop p).take t) q = ((gword bs (p + q)).1, (if (gword bs (p + q)).2.2 = 0 then (gword bs (p + q)).2.1 - p else q), (gword bs (p + q)).2.2) := by
  have e : ((bs.drop p).take t).drop q = (bs.drop (p + q)).take (t - q) := by rw [List.drop_take, List.drop_drop]
  unfold gword
  by_cases h : bs.length < p + q + 4
  · rw [if_pos (by rw [List.length_take, List.length_drop]; omega), if_pos h]; simp
  · rw [if_neg (by rw [List.length_take, List.length_drop]; omega), if_neg h, e, List.take_take, Nat.min_eq_left (by omega)]
    simp; omega
theorem gd_cut {bs : List Int} {p q t : Nat} (h : q < t) : ((bs.drop p).take t).getD q 0 = bs.getD (p + q) 0 := by rw [gd_take h, gd_drop]
end Go.Proofs.Ytflmjdnhjbiobaa
