/-
  Several texts of this project, put together.
-/
import Derived.Test.YtbjjhfoeckkacaaGreatDoorFZ
import Derived.Test.YtbjjhfoeckkacaaGreatDoorPA
import Derived.Test.YtbjjhfoeckkacaaGreatDoorFB
import Derived.Test.YtbjjhfoeckkacaaGreatDoorWA
set_option linter.unusedVariables false
set_option linter.unusedSimpArgs false
set_option maxRecDepth 100000
set_option maxHeartbeats 16000000
namespace Go.Proofs.YtbjjhfoeckkacaaGreatDoor
open Go.Fw _root_.Go.Proofs.Tryz
/-! ### windows -/
def hwi (w : Int) (i : Nat) : Int := (8 + w % 8) * 2 ^ (7 + i)
def hwr (w : Int) : Int := hwi w (w / 8).toNat
def hw (w : Int) : Int := if hwr w ≤ 134217728 then hwr w else 0
theorem hwr_tab : ∀ n : Nat, n < 256 → (n ≤ 136 → 1024 ≤ hwr n ∧ hwr n ≤ 134217728) ∧ (136 < n → 134217728 < hwr n ∧ hwr n < 9223372036854775808) ∧
    (n < 136 → hwr n < hwr ((n + 1 : Nat) : Int) ∧ hwr ((n + 1 : Nat) : Int) - hwr n ≤ hwr n / 8) ∧ IntKind.i64.wrap ((8 + (n : Int) % 8) * 2 ^ (min (7 + (n : Int) / 8).toNat IntKind.i64.bits)) = hwr n := by decide +kernel
theorem hw_in {n : Nat} (h : n ≤ 136) : hw n = hwr n ∧ 1024 ≤ hw n ∧ hw n ≤ 134217728 := by
  have := (hwr_tab n (by omega)).1 h
  unfold hw; rw [if_pos this.2]; omega
theorem hw_out {n : Nat} (h : 136 < n) (h2 : n < 256) : hw n = 0 := by
  have := (hwr_tab n h2).2.1 h
  unfold hw; rw [if_neg (by omega)]
theorem hw_136 : hw ((136 : Nat) : Int) = 134217728 := by decide +kernel
theorem hw_bd {w : Int} (h0 : 0 ≤ w) (h1 : w < 256) : (hw w = 0 ∧ 136 < w) ∨ (1024 ≤ hw w ∧ hw w ≤ 134217728 ∧ w ≤ 136) := by
  have e : ((w.toNat : Nat) : Int) = w := by omega
  rcases Nat.lt_or_ge 136 w.toNat with h | h
  · left; have := hw_out h (by omega); rw [e] at this; exact ⟨this, by omega⟩
  right; have := hw_in h; rw [e] at this; exact ⟨this.2.1, this.2.2, by omega⟩
theorem shlw {w : Int} (h0 : 0 ≤ w) (h1 : w < 256) : IntKind.i64.wrap ((8 + w % 8) * 2 ^ (min (7 + w / 8).toNat IntKind.i64.bits)) = hwr w := by
  have := (hwr_tab w.toNat (by omega)).2.2.2
  rwa [show ((w.toNat : Nat) : Int) = w from by omega] at this
theorem hw_pos {w : Int} (h : hwr w ≤ 134217728) : hw w = hwr w := if_pos h
theorem hw_neg {w : Int} (h : ¬ hwr w ≤ 134217728) : hw w = 0 := if_neg h
theorem hwi_succ (w : Int) (i : Nat) : hwi w (i + 1) = 2 * hwi w i := by
  unfold hwi; rw [show 7 + (i + 1) = (7 + i) + 1 from by omega, Int.pow_succ, ← Int.mul_assoc, Int.mul_comm _ 2]
theorem hwi_nonneg {w : Int} (i : Nat) (h0 : 0 ≤ w) : 0 ≤ hwi w i := Int.mul_nonneg (by omega) (Int.le_of_lt (Int.pow_pos (by decide)))
theorem hwi_mono {w : Int} (h0 : 0 ≤ w) {i j : Nat} (h : i ≤ j) : hwi w i ≤ hwi w j := by
  induction h with
  | refl => exact Int.le_refl _
  | step _ ih => rw [hwi_succ]; have := hwi_nonneg (w := w) i h0; omega
theorem hwi_zero (w : Int) : hwi w 0 = 1024 + w % 8 * 128 := by unfold hwi; rw [show (2 : Int) ^ (7 + 0) = 128 from by decide]; omega
def hb (x : Int) : Nat := ((List.range 137).find? fun n => decide (x ≤ hw (n : Nat))).getD 136
theorem hb_eq {x : Int} {k : Nat} (hk : k ≤ 136) (hl : ∀ i : Nat, i < k → hw i < x) (hx : x ≤ hw k) : hb x = k := by
  unfold hb
  have : (List.range 137).find? (fun n => decide (x ≤ hw (n : Nat))) = some k := by
    rw [List.find?_range_eq_some]
    exact ⟨by simpa using hx, List.mem_range.2 (by omega), fun j hj => by have := hl j hj; simp; omega⟩
  rw [this]; rfl
theorem hb_spec {x : Int} (h : x ≤ 134217728) : hb x ≤ 136 ∧ x ≤ hw (hb x) ∧ ∀ i : Nat, i < hb x → hw i < x := by
  have key : ∀ m : Nat, m ≤ 136 → (∀ i : Nat, i < 136 - m → hw i < x) → ∃ k : Nat, k ≤ 136 ∧ x ≤ hw k ∧ ∀ i : Nat, i < k → hw i < x := by
    intro m
    induction m with
    | zero => intro _ hl; exact ⟨136, by omega, by rw [hw_136]; exact h, hl⟩
    | succ m ih =>
      intro hm hl
      by_cases h1 : x ≤ hw ((136 - (m + 1) : Nat) : Int)
      · exact ⟨136 - (m + 1), by omega, h1, hl⟩
      refine ih (by omega) fun i hi => ?_
      rcases Nat.lt_or_ge i (136 - (m + 1)) with h2 | h2
      · exact hl i h2
      rw [show i = 136 - (m + 1) from by omega]; omega
  obtain ⟨k, h1, h2, h3⟩ := key 136 (by omega) (fun i hi => absurd hi (by omega))
  rw [hb_eq h1 h3 h2]; exact ⟨h1, h2, h3⟩
def Hv (wz sz : Int) : Prop := 0 ≤ wz ∧ wz ≤ 134217728 ∧ sz ≤ 4611686018427387903 ∧ hw (hb wz) = wz
instance (wz sz : Int) : Decidable (Hv wz sz) := inferInstanceAs (Decidable (0 ≤ wz ∧ wz ≤ 134217728 ∧ sz ≤ 4611686018427387903 ∧ hw (hb wz) = wz))
theorem Hv.low {wz sz : Int} (h : Hv wz sz) : 1024 ≤ wz := by
  have := (hw_in (hb_spec h.2.1).1).2.1
  rw [h.2.2.2] at this; exact this
/-! ### bits -/
theorem and1N : ∀ x : Nat, x < 256 → x &&& 1 = x % 2 := by decide +kernel
theorem and2N : ∀ x : Nat, x < 256 → x &&& 2 = x / 2 % 2 * 2 := by decide +kernel
theorem and4N : ∀ x : Nat, x < 256 → x &&& 4 = x / 4 % 2 * 4 := by decide +kernel
theorem and1 {x : Int} (h0 : 0 ≤ x) (h1 : x < 256) : IntKind.u8.wrap (((x % 2 ^ IntKind.u8.bits).toNat &&& (1 % 2 ^ IntKind.u8.bits : Int).toNat : Nat) : Int) = x % 2 := by
  have e : (2 ^ IntKind.u8.bits : Int) = 256 := by decide
  have e2 : (1 % 256 : Int).toNat = 1 := by decide
  rw [e, e2, and1N _ (by omega), wu8 (by omega) (by omega)]; omega
theorem and2 {x : Int} (h0 : 0 ≤ x) (h1 : x < 256) : IntKind.u8.wrap (((x % 2 ^ IntKind.u8.bits).toNat &&& (2 % 2 ^ IntKind.u8.bits : Int).toNat : Nat) : Int) = x / 2 % 2 * 2 := by
  have e : (2 ^ IntKind.u8.bits : Int) = 256 := by decide
  have e2 : (2 % 256 : Int).toNat = 2 := by decide
  rw [e, e2, and2N _ (by omega), wu8 (by omega) (by omega)]; omega
theorem and4 {x : Int} (h0 : 0 ≤ x) (h1 : x < 256) : IntKind.u8.wrap (((x % 2 ^ IntKind.u8.bits).toNat &&& (4 % 2 ^ IntKind.u8.bits : Int).toNat : Nat) : Int) = x / 4 % 2 * 4 := by
  have e : (2 ^ IntKind.u8.bits : Int) = 256 := by decide
  have e2 : (4 % 256 : Int).toNat = 4 := by decide
  rw [e, e2, and4N _ (by omega), wu8 (by omega) (by omega)]; omega
/-! ### encodings -/
/-! ### decoding -/
def frm : List Int := [80, 77, 84, 30]
def skp : List Int := [80, 77, 84, 83]
def hmk (bs : List Int) (p : Nat) : Int × Int := if bs.length < p + 4 then (0, 3) else if (bs.drop p).take 4 = frm then (1, 0) else if (bs.drop p).take 4 = skp then (2, 0) else (0, 6)
theorem hmk_short {bs : List Int} {p : Nat} (h : bs.length < p + 4) : hmk bs p = (0, 3) := if_pos h
theorem hmk_frm {bs : List Int} {p : Nat} (h : ¬ bs.length < p + 4) (h2 : (bs.drop p).take 4 = frm) : hmk bs p = (1, 0) := by unfold hmk; rw [if_neg h, if_pos h2]
theorem hmk_skp {bs : List Int} {p : Nat} (h : ¬ bs.length < p + 4) (h2 : ¬ (bs.drop p).take 4 = frm) (h3 : (bs.drop p).take 4 = skp) : hmk bs p = (2, 0) := by unfold hmk; rw [if_neg h, if_neg h2, if_pos h3]
theorem hmk_no {bs : List Int} {p : Nat} (h : ¬ bs.length < p + 4) (h2 : ¬ (bs.drop p).take 4 = frm) (h3 : ¬ (bs.drop p).take 4 = skp) : hmk bs p = (0, 6) := by unfold hmk; rw [if_neg h, if_neg h2, if_neg h3]
theorem take4 {bs : List Int} {p : Nat} (h : ¬ bs.length < p + 4) : (bs.drop p).take 4 = (bs.drop p).take 3 ++ [bs.getD (p + 3) 0] := by
  rw [show 4 = 3 + 1 from rfl, take_getD (by rw [List.length_drop]; omega), gd_drop]
theorem app1_inj {a c : List Int} {x y : Int} (h : a.length = c.length) : a ++ [x] = c ++ [y] ↔ a = c ∧ x = y := by
  constructor
  · intro e
    have := List.append_inj e h
    exact ⟨this.1, by simpa using this.2⟩
  rintro ⟨rfl, rfl⟩; rfl
theorem frm_iff {bs : List Int} {p : Nat} (h : ¬ bs.length < p + 4) : (bs.drop p).take 4 = frm ↔ (bs.drop p).take 3 = [80, 77, 84] ∧ bs.getD (p + 3) 0 = 30 := by
  rw [take4 h, show frm = [80, 77, 84] ++ [30] from rfl]
  exact app1_inj (by rw [List.length_take, List.length_drop]; simp; omega)
theorem skp_iff {bs : List Int} {p : Nat} (h : ¬ bs.length < p + 4) : (bs.drop p).take 4 = skp ↔ (bs.drop p).take 3 = [80, 77, 84] ∧ bs.getD (p + 3) 0 = 83 := by
  rw [take4 h, show skp = [80, 77, 84] ++ [83] from rfl]
  exact app1_inj (by rw [List.length_take, List.length_drop]; simp; omega)
abbrev Hd := Int × Int × Int × Bool
def hz : Hd := (0, 0, 0, false)
def ZV (bs : List Int) (p : Nat) : Int × Nat × Int := if bs.getD (p + 4) 0 / 4 = 1 then ZE bs (p + 6) else (0, p + 6, 0)
def Yu (bs : List Int) (p q : Nat) : Int × Nat × Int := if bs.getD (p + 4) 0 % 2 = 1 then ZN bs q else (-1, q, 0)
def ZA (bs : List Int) (p : Nat) : Hd × Nat × Int :=
  if (hmk bs p).2 ≠ 0 then (hz, p, (hmk bs p).2) else if (hmk bs p).1 ≠ 1 then (hz, p, 6) else
  if bs.length < p + 5 then (hz, p, 3) else if 7 < bs.getD (p + 4) 0 then (hz, p, 7) else
  if bs.length < p + 6 then (hz, p, 3) else if hw (bs.getD (p + 5) 0) = 0 then (hz, p, 7) else
  if (ZV bs p).2.2 ≠ 0 then (hz, p, (ZV bs p).2.2) else if bs.getD (p + 4) 0 / 4 = 1 ∧ (ZV bs p).1 = 0 then (hz, p, 7) else
  if (Yu bs p (ZV bs p).2.1).2.2 ≠ 0 then (hz, p, (Yu bs p (ZV bs p).2.1).2.2) else
  ((hw (bs.getD (p + 5) 0), (Yu bs p (ZV bs p).2.1).1, (ZV bs p).1, decide (bs.getD (p + 4) 0 / 2 % 2 = 1)), (Yu bs p (ZV bs p).2.1).2.1, 0)
def Hm (bs : List Int) (p : Nat) : Prop := (hmk bs p).2 = 0 ∧ (hmk bs p).1 = 1
theorem gh_mk {bs : List Int} {p : Nat} (h : (hmk bs p).2 ≠ 0) : ZA bs p = (hz, p, (hmk bs p).2) := if_pos h
theorem gh_kind {bs : List Int} {p : Nat} (h : (hmk bs p).2 = 0) (h2 : (hmk bs p).1 ≠ 1) : ZA bs p = (hz, p, 6) := by unfold ZA; rw [if_neg (by omega), if_pos h2]
theorem gh_5 {bs : List Int} {p : Nat} (h : Hm bs p) (h2 : bs.length < p + 5) : ZA bs p = (hz, p, 3) := by unfold ZA; rw [if_neg (by have := h.1; omega), if_neg (by have := h.2; omega), if_pos h2]
theorem gh_bits {bs : List Int} {p : Nat} (h : Hm bs p) (h2 : ¬ bs.length < p + 5) (h3 : 7 < bs.getD (p + 4) 0) : ZA bs p = (hz, p, 7) := by unfold ZA; rw [if_neg (by have := h.1; omega), if_neg (by have := h.2; omega), if_neg h2, if_pos h3]
theorem gh_6 {bs : List Int} {p : Nat} (h : Hm bs p) (h2 : ¬ bs.length < p + 5) (h3 : ¬ 7 < bs.getD (p + 4) 0) (h4 : bs.length < p + 6) : ZA bs p = (hz, p, 3) := by
  unfold ZA; rw [if_neg (by have := h.1; omega), if_neg (by have := h.2; omega), if_neg h2, if_neg h3, if_pos h4]
theorem gh_win {bs : List Int} {p : Nat} (h : Hm bs p) (h2 : ¬ bs.length < p + 5) (h3 : ¬ 7 < bs.getD (p + 4) 0) (h4 : ¬ bs.length < p + 6) (h5 : hw (bs.getD (p + 5) 0) = 0) : ZA bs p = (hz, p, 7) := by
  unfold ZA; rw [if_neg (by have := h.1; omega), if_neg (by have := h.2; omega), if_neg h2, if_neg h3, if_neg h4, if_pos h5]
theorem gh_dict {bs : List Int} {p : Nat} (h : Hm bs p) (h3 : ¬ 7 < bs.getD (p + 4) 0) (h4 : ¬ bs.length < p + 6) (h5 : ¬ hw (bs.getD (p + 5) 0) = 0) (h6 : (ZV bs p).2.2 ≠ 0) : ZA bs p = (hz, p, (ZV bs p).2.2) := by
  unfold ZA; rw [if_neg (by have := h.1; omega), if_neg (by have := h.2; omega), if_neg (by omega), if_neg h3, if_neg h4, if_neg h5, if_pos h6]
theorem gh_zero {bs : List Int} {p : Nat} (h : Hm bs p) (h3 : ¬ 7 < bs.getD (p + 4) 0) (h4 : ¬ bs.length < p + 6) (h5 : ¬ hw (bs.getD (p + 5) 0) = 0) (h6 : (ZV bs p).2.2 = 0) (h7 : bs.getD (p + 4) 0 / 4 = 1 ∧ (ZV bs p).1 = 0) : ZA bs p = (hz, p, 7) := by
  unfold ZA; rw [if_neg (by have := h.1; omega), if_neg (by have := h.2; omega), if_neg (by omega), if_neg h3, if_neg h4, if_neg h5, if_neg (by omega), if_pos h7]
theorem gh_size {bs : List Int} {p : Nat} (h : Hm bs p) (h3 : ¬ 7 < bs.getD (p + 4) 0) (h4 : ¬ bs.length < p + 6) (h5 : ¬ hw (bs.getD (p + 5) 0) = 0) (h6 : (ZV bs p).2.2 = 0) (h7 : ¬ (bs.getD (p + 4) 0 / 4 = 1 ∧ (ZV bs p).1 = 0))
    (h8 : (Yu bs p (ZV bs p).2.1).2.2 ≠ 0) : ZA bs p = (hz, p, (Yu bs p (ZV bs p).2.1).2.2) := by
  unfold ZA; rw [if_neg (by have := h.1; omega), if_neg (by have := h.2; omega), if_neg (by omega), if_neg h3, if_neg h4, if_neg h5, if_neg (by omega), if_neg h7, if_pos h8]
theorem gh_ok {bs : List Int} {p : Nat} (h : Hm bs p) (h3 : ¬ 7 < bs.getD (p + 4) 0) (h4 : ¬ bs.length < p + 6) (h5 : ¬ hw (bs.getD (p + 5) 0) = 0) (h6 : (ZV bs p).2.2 = 0) (h7 : ¬ (bs.getD (p + 4) 0 / 4 = 1 ∧ (ZV bs p).1 = 0))
    (h8 : (Yu bs p (ZV bs p).2.1).2.2 = 0) : ZA bs p = ((hw (bs.getD (p + 5) 0), (Yu bs p (ZV bs p).2.1).1, (ZV bs p).1, decide (bs.getD (p + 4) 0 / 2 % 2 = 1)), (Yu bs p (ZV bs p).2.1).2.1, 0) := by
  unfold ZA; rw [if_neg (by have := h.1; omega), if_neg (by have := h.2; omega), if_neg (by omega), if_neg h3, if_neg h4, if_neg h5, if_neg (by omega), if_neg h7, if_neg (by omega)]
/-! ### a window of the bytes -/
theorem run_take : ∀ (f m : Nat) (l : List Int), f ≤ m → run f (l.take m) = run f l
  | 0, _, _, _ => by simp [run]
  | f + 1, 0, _, h => by omega
  | f + 1, m + 1, [], _ => by simp
  | f + 1, m + 1, x :: l, h => by
    rw [List.take_succ_cons]
    simp only [run, run_take f m l (by omega)]
theorem gvar_cut {bs : List Int} {p q t : Nat} (hq : q + 9 ≤ t) : ZN ((bs.drop p).take t) q = ((ZN bs (p + q)).1, (if (ZN bs (p + q)).2.2 = 0 then (ZN bs (p + q)).2.1 - p else q), (ZN bs (p + q)).2.2) := by
  have e : ((bs.drop p).take t).drop q = (bs.drop (p + q)).take (t - q) := by rw [List.drop_take, List.drop_drop]
  have hr := run_take 9 (t - q) (bs.drop (p + q)) (by omega)
  have h9 := run_le 9 (bs.drop (p + q))
  unfold ZN
  rw [e]
  simp only [hr]
  generalize run 9 (bs.drop (p + q)) = k at h9 ⊢
  by_cases h1 : k = 9
  · simp [h1]
  rw [if_neg h1, if_neg h1]
  have hl : ((bs.drop (p + q)).take (t - q)).length ≤ k ↔ (bs.drop (p + q)).length ≤ k := by rw [List.length_take]; omega
  by_cases h2 : (bs.drop (p + q)).length ≤ k
  · rw [if_pos (hl.2 h2), if_pos h2]; simp
  rw [if_neg (fun h => h2 (hl.1 h)), if_neg h2]
  have hg : ((bs.drop (p + q)).take (t - q)).getD k 0 = (bs.drop (p + q)).getD k 0 := gd_take (by omega)
  have ht : ((bs.drop (p + q)).take (t - q)).take (k + 1) = (bs.drop (p + q)).take (k + 1) := by rw [List.take_take, Nat.min_eq_left (by omega)]
  rw [hg, ht]
  split
  · simp
  split
  · simp
  simp; omega
theorem gword_cut {bs : List Int} {p q t : Nat} (hq : q + 4 ≤ t) : ZE ((bs.drop p).take t) q = ((ZE bs (p + q)).1, (if (ZE bs (p + q)).2.2 = 0 then (ZE bs (p + q)).2.1 - p else q), (ZE bs (p + q)).2.2) := by
  have e : ((bs.drop p).take t).drop q = (bs.drop (p + q)).take (t - q) := by rw [List.drop_take, List.drop_drop]
  unfold ZE
  by_cases h : bs.length < p + q + 4
  · rw [if_pos (by rw [List.length_take, List.length_drop]; omega), if_pos h]; simp
  rw [if_neg (by rw [List.length_take, List.length_drop]; omega), if_neg h, e, List.take_take, Nat.min_eq_left (by omega)]
  simp; omega
theorem gd_cut {bs : List Int} {p q t : Nat} (h : q < t) : ((bs.drop p).take t).getD q 0 = bs.getD (p + q) 0 := by rw [gd_take h, gd_drop]
theorem hw_inI {w : Int} (h0 : 0 ≤ w) (h1 : w ≤ 136) : hw w = hwr w ∧ 1024 ≤ hw w ∧ hw w ≤ 134217728 := by
 have := hw_in (n := w.toNat) (by omega)
 rwa [show ((w.toNat : Nat) : Int) = w from by omega] at this
theorem hw_outI {w : Int} (h0 : 136 < w) (h1 : w < 256) : hw w = 0 ∧ 134217728 < hwr w := by
 have e : ((w.toNat : Nat) : Int) = w := by omega
 have h2 := hw_out (n := w.toNat) (by omega) (by omega)
 have h3 := (hwr_tab w.toNat (by omega)).2.1 (by omega)
 rw [e] at h2 h3
 exact ⟨h2, h3.1⟩
theorem hw_pt {w : Int} (h0 : 0 ≤ w) (h1 : w < 256) : 0 ≤ hw w ∧ hw w ≤ 134217728 := by have := hw_bd h0 h1; omega
theorem window_ok {x : Int} (w : World) (rx : 0 ≤ x ∧ x ≤ 136) :
  Calls Tryz.prog 79 #[.int .u8 x] w (Ret fun v w' => v = .tuple #[.int .i64 (hw x), .int .i64 0] ∧ Upd No w w') := by
 have HU := Upd.Yo w
 have hin := hw_inI rx.1 rx.2
 refine Zq func79 rfl ntmps79 (by simp) (Sn (Qs 2 rfl (Za (Sn (Qs 1 rfl (Zf (YT rfl rfl (by omega) (tq (by omega) (wu8 (by omega) (by omega)))) (Zf (ZZ underlying5 underlying3 rfl ZY) (Qs 1 rfl (Zf (YW rfl rfl (by omega) (tr (by omega))) (Zf (ZZ underlying5 underlying3 rfl ZY) (Qs 2 rfl (Za (Sn (Qs 1 rfl (Xd rfl rfl (Qs 1 rfl (Xd rfl rfl (Zf (r_shl rfl rfl (by omega) (shlw (by omega) (by omega))) (Qs 1 rfl (Za (Sm (Qs 2 rfl (Za ?_)))))))))))))))))))))))
 have q1 : ¬ (134217728 < (hwr x)) := (by omega)
 rw [decide_eq_false q1]
 refine Cf (Zi (Sn (Qs 3 rfl (Za (Zn (Zg (v := .tuple #[.int .i64 (hwr x), .int .i64 0]) rfl (Z2 results79 rfl rfl) ?_))))))
 exact ⟨_, rfl, (Yx (by first | rfl | exact Zt (by omega)) rfl), HU⟩
theorem window_no {x : Int} (w : World) (rx : 136 < x ∧ x < 256) :
  Calls Tryz.prog 79 #[.int .u8 x] w (Ret fun v w' => v = .tuple #[.int .i64 0, .int .i64 7] ∧ Upd No w w') := by
 have HU := Upd.Yo w
 have hin := hw_outI rx.1 rx.2
 refine Zq func79 rfl ntmps79 (by simp) (Sn (Qs 2 rfl (Za (Sn (Qs 1 rfl (Zf (YT rfl rfl (by omega) (tq (by omega) (wu8 (by omega) (by omega)))) (Zf (ZZ underlying5 underlying3 rfl ZY) (Qs 1 rfl (Zf (YW rfl rfl (by omega) (tr (by omega))) (Zf (ZZ underlying5 underlying3 rfl ZY) (Qs 2 rfl (Za (Sn (Qs 1 rfl (Xd rfl rfl (Qs 1 rfl (Xd rfl rfl (Zf (r_shl rfl rfl (by omega) (shlw (by omega) (by omega))) (Qs 1 rfl (Za (Sm (Qs 2 rfl (Za ?_)))))))))))))))))))))))
 have q1 : 134217728 < (hwr x) := (by omega)
 rw [decide_eq_true q1]
 exact Ct (Sn (Qs 2 rfl (Za (Zn (Zg rfl (Z2 results79 rfl rfl) ⟨_, rfl, rfl, HU⟩)))))
theorem rwindow {x : Int} (w : World) (rx : 0 ≤ x ∧ x < 256) :
  Calls Tryz.prog 54 #[.int .u8 x] w (Ret fun v w' => v = .int .i64 (hw x) ∧ Upd No w w') := by
 have HU := Upd.Yo w
 refine Zq func54 rfl ntmps54 (by simp) (Sn (Qs 1 rfl (Za (Sn (Qs 1 rfl (Zf (YW rfl rfl (by omega) (tr (by omega))) (Zf (ZZ underlying5 underlying3 rfl ZY) (Zf (YM rfl rfl ZY) (Xd rfl rfl (Qs 1 rfl (Za (Sm (Qs 1 rfl (Za (Zs (ZS (fun mu ρ ds w' => ∃ (i : Nat), (x / 8).toNat - i = mu ∧ ds = [] ∧ Liv ρ [(0, .int .u8 x), (3, .int .i64 (hwi x i)), (4, .int .i64 i)] ∧ i ≤ (x / 8).toNat ∧ hwi x i ≤ 268435456 ∧ Upd No w w') _ ⟨0, rfl, rfl, ⟨rfl, (Zt (hwi_zero x).symm), (by first | rfl | exact Zt (by omega) | exact Zt (by simp)), trivial⟩, (by omega), (by have := hwi_zero x; omega), Upd.refl _ _⟩ ?_))))))))))))))))
 rintro m1 ρ1 ds1 w1 ⟨i, rfl, rfl, hl1, hi, hm, hU1⟩
 obtain ⟨ρ1x, rfl⟩ : ∃ ρx, ρ1 = upds ρx [(0, .int .u8 x), (3, .int .i64 (hwi x i)), (4, .int .i64 i)] := ⟨_, ZD hl1⟩
 clear hl1
 have:=hU1.size
 have HL1 := hU1
 refine Sm (Qs 2 rfl (Zf (YT rfl rfl (by omega) (tq (by omega) (wu8 (by omega) (by omega)))) (Zf (ZZ underlying5 underlying3 rfl ZY) (Qs 2 rfl ?_))))
 replace HU := HU.Zb hU1
 by_cases q1 : (i : Int) < (x / 8)
 ·have hpos := hwi_nonneg (w := x) i (by omega)
  rw [decide_eq_true q1]
  refine Gt (Qs 1 rfl (Gt (Qs 1 rfl (Zf (Zx (v := .bool (decide ((hwi x i) ≤ 134217728))) rfl rfl) (Za ?_)))))
  by_cases q2 : (hwi x i) ≤ 134217728
  ·rw [decide_eq_true q2]
   refine Ct (Zi (Zz (Zs (Zl (Qs 1 rfl (Zf (YM rfl rfl ZY) (Qs 1 rfl (Za (Zl (Qs 1 rfl (Xd rfl rfl (Qs 1 rfl (Za ?_)))))))))))))
   refine ⟨_, ?_, (i + 1), rfl, rfl, ⟨rfl, (Zt (hwi_succ x i).symm), Zt, trivial⟩, (by omega), (by have := hwi_succ x i; omega), HL1⟩
   omega
  have hwe : hwi x i ≤ hwr x := hwi_mono (by omega) (show i ≤ (x / 8).toNat from by omega)
  rw [decide_eq_false q2]
  refine Cf (ZI (Sm (Qs 2 rfl (Za ?_))))
  have q3 : 134217728 < (hwi x i) := (by omega)
  rw [decide_eq_true q3]
  refine Ct (Sn (Qs 1 rfl (Za (Zn (Zg (v := .int .i64 0) rfl (Z9 results54 rfl) ?_)))))
  exact ⟨_, rfl, (Zt (by first | (rw [hw_neg (by omega)]; done) | (rw [hw_pos (by omega)]; omega))), HU⟩
 have hwe : hwr x = hwi x i := by rw [show i = (x / 8).toNat from by omega]; rfl
 rw [decide_eq_false q1]
 refine Gf (Gf (Zf (Zw (v := .bool false) rfl rfl) (Za (Cf (ZI (Sm (Qs 2 rfl (Za (W_if rfl (fun q4 => ?_) fun q4 => ?_)))))))))
 ·refine Sn (Qs 1 rfl (Za (Zn (Zg (v := .int .i64 0) rfl (Z9 results54 rfl) ?_))))
  exact ⟨_, rfl, (Zt (by first | (rw [hw_neg (by omega)]; done) | (rw [hw_pos (by omega)]; omega))), HU⟩
 refine Zi (Sn (Qs 2 rfl (Za (Zn (Zg (v := .int .i64 (hwi x i)) rfl (Z9 results54 rfl) ?_)))))
 exact ⟨_, rfl, (Zt (by first | (rw [hw_neg (by omega)]; done) | (rw [hw_pos (by omega)]; omega))), HU⟩
theorem cword_at {pb : Nat} {a : Option Addr} {n c p : Nat} {bs : List Int} {x er : Int} {q : Nat} (w : World) (hp : Blk w pb [.slice a n c, .int .i64 p]) (hs : Sl w (fun g => g < w.heap.size ∧ g ≠ pb) 1 (.slice a n c) n (ints .u8 bs)) (hb : Byt bs) (hpn : p ≤ n) (hn : n ≤ 140737488355328) (hg : ZE bs p = (x, q, er)) :
  Calls Tryz.prog 51 #[.pointer (some ⟨pb, 0, none⟩)] w (Ret fun v w' => v = .tuple #[.int .u32 x, .int .i64 er] ∧ Blk w' pb [.slice a n c, .int .i64 q] ∧ Upd (Is pb) w w') := by
 have h := cword_spec w hp hs hb hpn hn
 rw [hg] at h
 exact h
theorem cvarint_at {pb : Nat} {a : Option Addr} {n c p : Nat} {bs : List Int} {x er : Int} {q : Nat} (w : World) (hp : Blk w pb [.slice a n c, .int .i64 p]) (hs : Sl w (fun g => g < w.heap.size ∧ g ≠ pb) 1 (.slice a n c) n (ints .u8 bs)) (hb : Byt bs) (hpn : p ≤ n) (hn : n ≤ 140737488355328) (hg : ZN bs p = (x, q, er)) :
  Calls Tryz.prog 82 #[.pointer (some ⟨pb, 0, none⟩)] w (Ret fun v w' => v = .tuple #[.int .u64 x, .int .i64 er] ∧ Blk w' pb [.slice a n c, .int .i64 q] ∧ Upd (Is pb) w w') := by
 have h := cvarint_spec w hp hs hb hpn hn
 rw [hg] at h
 exact h
theorem cbytes_k {pb : Nat} {a : Option Addr} {n c p : Nat} {bs : List Int} {K : Nat} (w : World) (hp : Blk w pb [.slice a n c, .int .i64 p]) (hs : Sl w (fun g => g < w.heap.size ∧ g ≠ pb) 1 (.slice a n c) n (ints .u8 bs)) (hb : Byt bs) (hpn : p ≤ n) (hn : n ≤ 140737488355328) (hkn : p + K ≤ n) :
  Calls Tryz.prog 75 #[.pointer (some ⟨pb, 0, none⟩), .int .i64 K] w (Ret fun v w' => ∃ a' c', v = .tuple #[.slice a' K c', .int .i64 0] ∧ Blk w' pb [.slice a n c, .int .i64 ((p + K : Nat) : Int)] ∧ Own w' (Ge w.heap.size) 5 1 (.slice a' K c') K (ints .u8 ((bs.drop p).take K)) ∧ Upd (Is pb) w w') := by
 have h := bytes_spec (k := (K : Int)) w hp hs hb hpn hn
 have hl := ZC hs
 rw [YR (by omega) (by omega)] at h
 simp only [Int.toNat_natCast] at h
 refine h.mono fun e w' ⟨v, he, a', m', c', hv, h1, h2, h3, h4⟩ => ?_
 obtain rfl : K = m' := by rw [← h3, List.length_take, List.length_drop]; omega
 exact ⟨v, he, a', c', hv, h1, h2, h4⟩
theorem peek_k {pb : Nat} {a : Option Addr} {n c p : Nat} {bs : List Int} {K t : Nat} (w : World) (hp : Blk w pb [.slice a n c, .int .i64 p]) (hs : Sl w (fun g => g < w.heap.size ∧ g ≠ pb) 1 (.slice a n c) n (ints .u8 bs)) (hb : Byt bs) (hpn : p ≤ n) (hn : n ≤ 140737488355328) (ht : t = min K (n - p)) :
  Calls Tryz.prog 74 #[.pointer (some ⟨pb, 0, none⟩), .int .i64 K] w (Ret fun v w' => ∃ a' c', v = .slice a' t c' ∧ Own w' (Ge w.heap.size) 5 1 (.slice a' t c') t (ints .u8 ((bs.drop p).take K)) ∧ Upd No w w') := by
 have h := peek_spec (k := (K : Int)) (t := t) w hp hs hb hpn hn (by omega)
 have hl := ZC hs
 have e : (bs.drop p).take t = (bs.drop p).take K := by
  rcases Nat.lt_or_ge K (n - p) with h1 | h1
  ·rw [show t = K from by omega]
  rw [List.take_of_length_le (by rw [List.length_drop]; omega), List.take_of_length_le (by rw [List.length_drop]; omega)]
 rw [e] at h
 exact h
theorem mark_ok {pb : Nat} {a : Option Addr} {n c p : Nat} {bs : List Int} (w : World) (hp : Blk w pb [.slice a n c, .int .i64 p]) (hs : Sl w (fun g => g < w.heap.size ∧ g ≠ pb) 1 (.slice a n c) n (ints .u8 bs)) (hb : Byt bs) (hpn : p ≤ n) (hn : n ≤ 140737488355328) (h4 : ¬ n < p + 4) :
  Calls Tryz.prog 73 #[.pointer (some ⟨pb, 0, none⟩)] w (Ret fun v w' => v = .tuple #[.string (strOfNums ((bs.drop p).take 4)), .int .i64 0] ∧ Upd No w w') := by
 have HU := Upd.Yo w
 have hbl_hp := hp.lt
 have hl_hs := ZC hs
 have hc_hs := hs.cap.1
 refine Zq func73 rfl ntmps73 (by simp) (Sn (Qs 2 rfl (Za (Sm (Qs 1 rfl (Zf (YZ underlying77 rfl rfl) (Za (Cf (Zi (Sn (Qs 1 rfl (Zj (Zy rfl call74 rfl rfl) (peek_k (t := 4) (K := 4) _ hp (hs.cur (by intro h1; have h3 : (pb < w.heap.size ∧ pb ≠ pb) := h1; first | omega | simp at h3)) hb (by omega) (by omega) (by omega)) ?_))))))))))))
 rintro v w1 ⟨a1, c1, rfl, hO1, hU1⟩
 have:=hU1.size
 replace hO1 := hO1.tight
 have hl_hO1 := ZC hO1.sl
 have hc_hO1 := hO1.sl.cap.1
 exact Qs 1 rfl (Za (Sm (Qs 1 rfl (Zf (ZM underlying22 rfl) (Zf (v := .bool false) (YL (a := 4) (b := 4) rfl rfl) (Za (Cf (Zi (Sn (Qs 1 rfl (Wl_bstr underlying22 underlying5 underlying9 rfl hO1.sl (Qs 2 rfl (Za (Zn (Zg rfl (Z2 results73 rfl rfl) ⟨_, rfl, rfl, (HU.Zb hU1)⟩)))))))))))))))
theorem mark_no {pb : Nat} {a : Option Addr} {n c p : Nat} {bs : List Int} (w : World) (hp : Blk w pb [.slice a n c, .int .i64 p]) (hs : Sl w (fun g => g < w.heap.size ∧ g ≠ pb) 1 (.slice a n c) n (ints .u8 bs)) (hb : Byt bs) (hpn : p ≤ n) (hn : n ≤ 140737488355328) (h4 : n < p + 4) :
  Calls Tryz.prog 73 #[.pointer (some ⟨pb, 0, none⟩)] w (Ret fun v w' => v = .tuple #[.string (strOfNums []), .int .i64 3] ∧ Upd No w w') := by
 have HU := Upd.Yo w
 have hbl_hp := hp.lt
 have hl_hs := ZC hs
 have hc_hs := hs.cap.1
 refine Zq func73 rfl ntmps73 (by simp) (Sn (Qs 2 rfl (Za (Sm (Qs 1 rfl (Zf (YZ underlying77 rfl rfl) (Za (Cf (Zi (Sn (Qs 1 rfl (Zj (Zy rfl call74 rfl rfl) (peek_k (t := n - p) (K := 4) _ hp (hs.cur (by intro h1; have h3 : (pb < w.heap.size ∧ pb ≠ pb) := h1; first | omega | simp at h3)) hb (by omega) (by omega) (by omega)) ?_))))))))))))
 rintro v w1 ⟨a1, c1, rfl, hO1, hU1⟩
 have:=hU1.size
 replace hO1 := hO1.tight
 have hl_hO1 := ZC hO1.sl
 have hc_hO1 := hO1.sl.cap.1
 refine Qs 1 rfl (Za (Sm (Qs 1 rfl (Zf (ZM underlying22 rfl) (Qs 1 rfl (Za ?_))))))
 have q1 : ((n - p : Nat) : Int) < 4 := (by omega)
 rw [decide_eq_true q1]
 exact Ct (Sn (Qs 2 rfl (Za (Zn (Zg rfl (Z2 results73 rfl rfl) ⟨_, rfl, rfl, (HU.Zb hU1)⟩)))))
theorem isf_spec {pb : Nat} {a : Option Addr} {n c p : Nat} {bs : List Int} (w : World) (hp : Blk w pb [.slice a n c, .int .i64 p]) (hs : Sl w (fun g => g < w.heap.size ∧ g ≠ pb) 1 (.slice a n c) n (ints .u8 bs)) (hb : Byt bs) (hpn : p ≤ n) (hn : n ≤ 140737488355328) :
  Calls Tryz.prog 44 #[.pointer (some ⟨pb, 0, none⟩)] w (Ret fun v w' => v = .tuple #[.bool (decide ((hmk bs p).1 = 1)), .int .i64 ((hmk bs p).2)] ∧ Upd No w w') := by
 have HU := Upd.Yo w
 have hbl_hp := hp.lt
 have hl_hs := ZC hs
 have hc_hs := hs.cap.1
 refine Zq func44 rfl ntmps44 (by simp) (Sn (Qs 2 rfl (Za (Sn (Qs 1 rfl ?_)))))
 by_cases q1 : n < p + 4
 ·refine Zj (Zv rfl call73 rfl) (mark_no _ hp (hs.cur (by intro h1; have h3 : (pb < w.heap.size ∧ pb ≠ pb) := h1; first | omega | simp at h3)) hb (by omega) (by omega) (by omega)) ?_
  rintro v w1 ⟨rfl, hU1⟩
  have:=hU1.size
  refine Qs 5 rfl (Za (Sm (Qs 1 rfl (Zf (v := .bool false) (YK (a := 3) (b := 0) rfl rfl) (Qs 1 rfl (Gf (Gf (Zf (Zw (v := .bool false) rfl rfl) (Qs 1 rfl (Gf (Gf (Zf (Zw (v := .bool false) rfl rfl) (Za (Cf (Zi (Sn (Qs 1 rfl (Zf (v := .bool false) (YK (a := 3) (b := 0) rfl rfl) (Qs 1 rfl (Gf (Gf (Zf (Zw (v := .bool false) rfl rfl) (Qs 3 rfl (Za (Zn (Zg (v := .tuple #[.bool false, .int .i64 3]) rfl (Z2 results44 rfl rfl) ?_))))))))))))))))))))))))))
  have HM := hmk_short (bs := bs) (p := p) (by omega)
  exact ⟨_, rfl, (Yx (by simp [HM, q1]) (by simp [HM, q1])), (HU.Zb hU1)⟩
 refine Zj (Zv rfl call73 rfl) (mark_ok _ hp (hs.cur (by intro h1; have h3 : (pb < w.heap.size ∧ pb ≠ pb) := h1; first | omega | simp at h3)) hb (by omega) (by omega) (by omega)) ?_
 rintro v w2 ⟨rfl, hU2⟩
 have:=hU2.size
 refine Qs 5 rfl (Za (Sm (Qs 1 rfl (Zf (v := .bool true) (YK (a := 0) (b := 0) rfl rfl) (Qs 1 rfl (Gt (Qs 1 rfl (Gt (Zf (r_nestr (show Byt ((bs.drop p).take 4) from (ZU (ZL hb _) _)) (show Byt [80, 77, 84, 30] from (by intro x hx; simp at hx; omega)) rfl rfl) (Zf (Zx (v := .bool (!decide (((bs.drop p).take 4) = [80, 77, 84, 30]))) rfl rfl) (Qs 1 rfl ?_)))))))))))
 replace HU := HU.Zb hU2
 by_cases q2 : ((bs.drop p).take 4) = [80, 77, 84, 30]
 ·rw [decide_eq_true q2]
  simp only [Bool.not_true, Bool.not_false]
  refine Gf (Gf (Zf (Zw (v := .bool false) rfl rfl) (Za (Cf (Zi (Sn (Qs 1 rfl (Zf (v := .bool true) (YK (a := 0) (b := 0) rfl rfl) (Qs 1 rfl (Gt (Qs 1 rfl (Gt (Zf (r_eqstr (show Byt ((bs.drop p).take 4) from (ZU (ZL hb _) _)) (show Byt [80, 77, 84, 30] from (by intro x hx; simp at hx; omega)) rfl rfl) (Zf (Zx (v := .bool (decide (((bs.drop p).take 4) = [80, 77, 84, 30]))) rfl rfl) (Qs 3 rfl (Za (Zn (Zg (v := .tuple #[.bool (decide (((bs.drop p).take 4) = [80, 77, 84, 30])), .int .i64 0]) rfl (Z2 results44 rfl rfl) ?_))))))))))))))))))
  have HM := hmk_frm (bs := bs) (p := p) (by omega) q2
  exact ⟨_, rfl, (Yx (by simp [HM, q1, q2]) (by simp [HM, q1, q2])), HU⟩
 rw [decide_eq_false q2]
 simp only [Bool.not_true, Bool.not_false]
 refine Gt (Qs 1 rfl (Gt (Zf (r_nestr (show Byt ((bs.drop p).take 4) from (ZU (ZL hb _) _)) (show Byt [80, 77, 84, 83] from (by intro x hx; simp at hx; omega)) rfl rfl) (Zf (Zx (v := .bool (!decide (((bs.drop p).take 4) = [80, 77, 84, 83]))) rfl rfl) (Za ?_)))))
 by_cases q3 : ((bs.drop p).take 4) = [80, 77, 84, 83]
 ·rw [decide_eq_true q3]
  simp only [Bool.not_true, Bool.not_false]
  refine Cf (Zi (Sn (Qs 1 rfl (Zf (v := .bool true) (YK (a := 0) (b := 0) rfl rfl) (Qs 1 rfl (Gt (Qs 1 rfl (Gt (Zf (r_eqstr (show Byt ((bs.drop p).take 4) from (ZU (ZL hb _) _)) (show Byt [80, 77, 84, 30] from (by intro x hx; simp at hx; omega)) rfl rfl) (Zf (Zx (v := .bool (decide (((bs.drop p).take 4) = [80, 77, 84, 30]))) rfl rfl) (Qs 3 rfl (Za (Zn (Zg (v := .tuple #[.bool (decide (((bs.drop p).take 4) = [80, 77, 84, 30])), .int .i64 0]) rfl (Z2 results44 rfl rfl) ?_))))))))))))))
  have HM := hmk_skp (bs := bs) (p := p) (by omega) q2 q3
  exact ⟨_, rfl, (Yx (by simp [HM, q1, q2, q3]) (by simp [HM, q1, q2, q3])), HU⟩
 rw [decide_eq_false q3]
 simp only [Bool.not_true, Bool.not_false]
 refine Ct (Zl (Qs 1 rfl (Za (Sn (Qs 1 rfl (Zf (v := .bool false) (YK (a := 6) (b := 0) rfl rfl) (Qs 1 rfl (Gf (Gf (Zf (Zw (v := .bool false) rfl rfl) (Qs 3 rfl (Za (Zn (Zg (v := .tuple #[.bool false, .int .i64 6]) rfl (Z2 results44 rfl rfl) ?_))))))))))))))
 have HM := hmk_no (bs := bs) (p := p) (by omega) q2 q3
 exact ⟨_, rfl, (Yx (by simp [HM, q1, q2, q3]) (by simp [HM, q1, q2, q3])), HU⟩
theorem rmark {a : Option Addr} {n c p : Nat} {bs : List Int} (w : World) (hs : Sl w (fun g => g < w.heap.size) 1 (.slice a n c) n (ints .u8 bs)) (hb : Byt bs) (hpn : p ≤ n) (hn : n ≤ 140737488355328) :
  Calls Tryz.prog 13 #[.slice a n c, .int .i64 p] w (Ret fun v w' => v = .tuple #[.int .i64 ((hmk bs p).1), .int .i64 ((hmk bs p).2)] ∧ Upd No w w') := by
 have HU := Upd.Yo w
 have hl_hs := ZC hs
 have hc_hs := hs.cap.1
 refine Zq func13 rfl ntmps13 (by simp) (Sn (Qs 2 rfl (Za (Sm (Qs 1 rfl (Zf (ZM underlying22 rfl) (Qs 1 rfl (Xs rfl rfl (Qs 1 rfl (Za (W_if rfl (fun q1 => ?_) fun q1 => ?_)))))))))))
 ·refine Sn (Qs 2 rfl (Za (Zn (Zg (v := .tuple #[.int .i64 0, .int .i64 3]) rfl (Z2 results13 rfl rfl) ?_))))
  have HM := hmk_short (bs := bs) (p := p) (by omega)
  exact ⟨_, rfl, (Yx (by simp [HM]) (by simp [HM])), HU⟩
 refine Zi (Sm (Qs 3 rfl (Xd rfl rfl (Zf (YY (l' := p) (h' := p + 3) (n' := 3) underlying22 sizeOf5 rfl rfl rfl (by omega) (by omega) (by omega) (by omega) (by omega)) ?_))))
 have hT1 := Sl.cutn (l := p) (n := 3) hs (by omega)
 have hl_hT1 := ZC hT1
 have hc_hT1 := hT1.cap.1
 refine Wl_bstr underlying22 underlying5 underlying9 rfl hT1 (Zf (r_nestr (show Byt ((bs.drop p).take 3) from (ZU (ZL hb _) _)) (show Byt [80, 77, 84] from (by intro x hx; simp at hx; omega)) rfl rfl) (Za ?_))
 by_cases q2 : ((bs.drop p).take 3) = [80, 77, 84]
 ·rw [decide_eq_true q2]
  simp only [Bool.not_true, Bool.not_false]
  refine Cf (Zi (Sm (Qs 2 rfl (Xd rfl rfl (Z7 underlying22 sizeOf5 rfl rfl hs (by omega) (by omega) ?_)))))
  intro ib2 io2 hc2
  rw [show ((p : Int) + 3).toNat = (p + 3) from by omega] at hc2
  refine ZH isAgg5 rfl hc2 (Za (Zs (Sn (Qs 2 rfl (Za (W_if rfl (fun q3 => ?_) fun q3 => ?_))))))
  ·refine Sn (Qs 2 rfl (Za (Zn (Zg (v := .tuple #[.int .i64 1, .int .i64 0]) rfl (Z2 results13 rfl rfl) ?_))))
   have HM := hmk_frm (bs := bs) (p := p) (by omega) ((frm_iff (bs := bs) (p := p) (by omega)).2 ⟨q2, q3⟩)
   exact ⟨_, rfl, (Yx (by simp [HM]) (by simp [HM])), HU⟩
  refine Sn (Qs 2 rfl (Za (W_if rfl (fun q4 => ?_) fun q4 => ?_)))
  ·refine Sn (Qs 2 rfl (Za (Zn (Zg (v := .tuple #[.int .i64 2, .int .i64 0]) rfl (Z2 results13 rfl rfl) ?_))))
   have HM := hmk_skp (bs := bs) (p := p) (by omega) (fun h => q3 ((frm_iff (bs := bs) (p := p) (by omega)).1 h).2) ((skp_iff (bs := bs) (p := p) (by omega)).2 ⟨q2, q4⟩)
   exact ⟨_, rfl, (Yx (by simp [HM]) (by simp [HM])), HU⟩
  refine Zi (Sn (Qs 2 rfl (Za (Zn (Zg (v := .tuple #[.int .i64 0, .int .i64 6]) rfl (Z2 results13 rfl rfl) ?_)))))
  have HM := hmk_no (bs := bs) (p := p) (by omega) (fun h => q3 ((frm_iff (bs := bs) (p := p) (by omega)).1 h).2) (fun h => q4 ((skp_iff (bs := bs) (p := p) (by omega)).1 h).2)
  exact ⟨_, rfl, (Yx (by simp [HM]) (by simp [HM])), HU⟩
 rw [decide_eq_false q2]
 simp only [Bool.not_true, Bool.not_false]
 refine Ct (Sn (Qs 2 rfl (Za (Zn (Zg (v := .tuple #[.int .i64 0, .int .i64 6]) rfl (Z2 results13 rfl rfl) ?_)))))
 have HM := hmk_no (bs := bs) (p := p) (by omega) (fun h => q2 ((frm_iff (bs := bs) (p := p) (by omega)).1 h).1) (fun h => q2 ((skp_iff (bs := bs) (p := p) (by omega)).1 h).1)
 exact ⟨_, rfl, (Yx (by simp [HM]) (by simp [HM])), HU⟩
theorem get1_ok {Bt Bb : Nat} {x b : Int} {pb : Nat} {a : Option Addr} {n c p : Nat} {bs : List Int} (w : World) (ht : Blk w Bt [.pointer (some ⟨pb, 0, none⟩)]) (hbb : Blk w Bb [.int .u8 x]) (hp : Blk w pb [.slice a n c, .int .i64 p]) (hs : Sl w (fun g => g < w.heap.size ∧ g ≠ pb) 1 (.slice a n c) n (ints .u8 bs)) (hb : Byt bs) (hpn : p ≤ n) (hn : n ≤ 140737488355328) (hd : Bt ≠ pb ∧ Bb ≠ pb ∧ Bb ≠ Bt) (hlt : p < n) (hx : bs.getD p 0 = b) (h8 : b < 8) :
  Calls Tryz.prog 76 #[.pointer (some ⟨Bt, 0, none⟩), .pointer (some ⟨Bb, 0, none⟩)] w (Ret fun v w' => v = .int .i64 0 ∧ Blk w' Bb [.int .u8 b] ∧ Blk w' pb [.slice a n c, .int .i64 ((p + 1 : Nat) : Int)] ∧ Upd (fun g => g = Bb ∨ g = pb) w w') := by
 have HU : Upd (fun b => b = Bb ∨ b = pb) w w := Upd.refl _ _
 have hbl_ht := ht.lt
 have hbl_hbb := hbb.lt
 have hbl_hp := hp.lt
 have hl_hs := ZC hs
 have hc_hs := hs.cap.1
 have hgb := Yi hb p
 rw [hx] at hgb
 refine Zq func76 rfl ntmps76 (by simp) (Sn (Qs 1 rfl (Za (Sn (Zk isAgg77 rfl ht rfl (Zj (Zv rfl call77 rfl) (byte_in _ hp (hs.cur (by intro h1; have h3 : (pb < w.heap.size ∧ pb ≠ pb) := h1; first | omega | simp at h3)) hb (by omega) (by omega) (by omega)) ?_))))))
 rintro v w1 ⟨rfl, hp1, hU1⟩
 have:=hU1.size
 have hbl_hp1 := hp1.lt
 refine Qs 2 rfl ?_
 rw [hx]
 refine Qs 1 rfl ?_
 replace hbb := hbb.Zh hU1
 refine Xc [.int .u8 b] sizeOf5 rfl hbb rfl rfl rfl rfl rfl ?_
 intro w2 hU2 hzz2 hbb
 refine Qs 1 rfl (Za (Sm (Qs 1 rfl (Zf (v := .bool true) (YK (a := 0) (b := 0) rfl rfl) (Qs 1 rfl (Gt (Zk isAgg5 rfl hbb rfl (Gt (Qs 1 rfl (Zf (Zx (v := .bool (decide (8 ≤ b))) rfl rfl) (Za ?_)))))))))))
 have q1 : ¬ (8 ≤ b) := (by omega)
 rw [decide_eq_false q1]
 refine Cf (Zi (Sn (Qs 2 rfl (Za (Zn (Zg (v := .int .i64 0) rfl (Z9 results76 rfl) ?_))))))
 exact ⟨_, rfl, rfl, hbb, (hp1.Zh hU2), ((HU.Zr hU1).Zr hU2)⟩
theorem get1_bad {Bt Bb : Nat} {x b : Int} {pb : Nat} {a : Option Addr} {n c p : Nat} {bs : List Int} (w : World) (ht : Blk w Bt [.pointer (some ⟨pb, 0, none⟩)]) (hbb : Blk w Bb [.int .u8 x]) (hp : Blk w pb [.slice a n c, .int .i64 p]) (hs : Sl w (fun g => g < w.heap.size ∧ g ≠ pb) 1 (.slice a n c) n (ints .u8 bs)) (hb : Byt bs) (hpn : p ≤ n) (hn : n ≤ 140737488355328) (hd : Bt ≠ pb ∧ Bb ≠ pb ∧ Bb ≠ Bt) (hlt : p < n) (hx : bs.getD p 0 = b) (h8 : 8 ≤ b) :
  Calls Tryz.prog 76 #[.pointer (some ⟨Bt, 0, none⟩), .pointer (some ⟨Bb, 0, none⟩)] w (Ret fun v w' => v = .int .i64 7 ∧ Blk w' Bb [.int .u8 b] ∧ Blk w' pb [.slice a n c, .int .i64 ((p + 1 : Nat) : Int)] ∧ Upd (fun g => g = Bb ∨ g = pb) w w') := by
 have HU : Upd (fun b => b = Bb ∨ b = pb) w w := Upd.refl _ _
 have hbl_ht := ht.lt
 have hbl_hbb := hbb.lt
 have hbl_hp := hp.lt
 have hl_hs := ZC hs
 have hc_hs := hs.cap.1
 have hgb := Yi hb p
 rw [hx] at hgb
 refine Zq func76 rfl ntmps76 (by simp) (Sn (Qs 1 rfl (Za (Sn (Zk isAgg77 rfl ht rfl (Zj (Zv rfl call77 rfl) (byte_in _ hp (hs.cur (by intro h1; have h3 : (pb < w.heap.size ∧ pb ≠ pb) := h1; first | omega | simp at h3)) hb (by omega) (by omega) (by omega)) ?_))))))
 rintro v w1 ⟨rfl, hp1, hU1⟩
 have:=hU1.size
 have hbl_hp1 := hp1.lt
 refine Qs 2 rfl ?_
 rw [hx]
 refine Qs 1 rfl ?_
 replace hbb := hbb.Zh hU1
 refine Xc [.int .u8 b] sizeOf5 rfl hbb rfl rfl rfl rfl rfl ?_
 intro w2 hU2 hzz2 hbb
 refine Qs 1 rfl (Za (Sm (Qs 1 rfl (Zf (v := .bool true) (YK (a := 0) (b := 0) rfl rfl) (Qs 1 rfl (Gt (Zk isAgg5 rfl hbb rfl (Gt (Qs 1 rfl (Zf (Zx (v := .bool (decide (8 ≤ b))) rfl rfl) (Za ?_)))))))))))
 have q1 : 8 ≤ b := (by omega)
 rw [decide_eq_true q1]
 refine Ct (Zl (Qs 1 rfl (Za (Sn (Qs 2 rfl (Za (Zn (Zg (v := .int .i64 7) rfl (Z9 results76 rfl) ?_))))))))
 exact ⟨_, rfl, rfl, hbb, (hp1.Zh hU2), ((HU.Zr hU1).Zr hU2)⟩
theorem get1_end {Bt Bb : Nat} {x : Int} {pb : Nat} {a : Option Addr} {n c p : Nat} {bs : List Int} (w : World) (ht : Blk w Bt [.pointer (some ⟨pb, 0, none⟩)]) (hbb : Blk w Bb [.int .u8 x]) (hp : Blk w pb [.slice a n c, .int .i64 p]) (hs : Sl w (fun g => g < w.heap.size ∧ g ≠ pb) 1 (.slice a n c) n (ints .u8 bs)) (hb : Byt bs) (hpn : p ≤ n) (hn : n ≤ 140737488355328) (hd : Bt ≠ pb ∧ Bb ≠ pb ∧ Bb ≠ Bt) (hlt : ¬ p < n) :
  Calls Tryz.prog 76 #[.pointer (some ⟨Bt, 0, none⟩), .pointer (some ⟨Bb, 0, none⟩)] w (Ret fun v w' => v = .int .i64 3 ∧ Blk w' Bb [.int .u8 0] ∧ Blk w' pb [.slice a n c, .int .i64 p] ∧ Upd (fun g => g = Bb ∨ g = pb) w w') := by
 have HU : Upd (fun b => b = Bb ∨ b = pb) w w := Upd.refl _ _
 have hbl_ht := ht.lt
 have hbl_hbb := hbb.lt
 have hbl_hp := hp.lt
 have hl_hs := ZC hs
 have hc_hs := hs.cap.1
 refine Zq func76 rfl ntmps76 (by simp) (Sn (Qs 1 rfl (Za (Sn (Zk isAgg77 rfl ht rfl (Zj (Zv rfl call77 rfl) (byte_end _ hp (hs.cur (by intro h1; have h3 : (pb < w.heap.size ∧ pb ≠ pb) := h1; first | omega | simp at h3)) hb (by omega) (by omega) (by omega)) ?_))))))
 rintro v w1 ⟨rfl, hp1, hU1⟩
 have:=hU1.size
 have hbl_hp1 := hp1.lt
 refine Qs 3 rfl ?_
 replace hbb := hbb.Zh hU1
 refine Xc [.int .u8 0] sizeOf5 rfl hbb rfl rfl rfl rfl rfl ?_
 intro w2 hU2 hzz2 hbb
 refine Qs 1 rfl (Za (Sm (Qs 1 rfl (Zf (v := .bool false) (YK (a := 3) (b := 0) rfl rfl) (Qs 1 rfl (Gf (Gf (Zf (Zw (v := .bool false) rfl rfl) (Za (Cf (Zi (Sn (Qs 2 rfl (Za (Zn (Zg (v := .int .i64 3) rfl (Z9 results76 rfl) ?_))))))))))))))))
 exact ⟨_, rfl, rfl, hbb, (hp1.Zh hU2), ((HU.Zr hU1).Zr hU2)⟩
theorem get2_ok {Bt Bh : Nat} {b : Int} {pb : Nat} {a : Option Addr} {n c p : Nat} {bs : List Int} (w : World) (ht : Blk w Bt [.pointer (some ⟨pb, 0, none⟩)]) (hh : Blk w Bh [.int .i64 0, .int .i64 (-1), .int .u32 0, .bool false]) (hp : Blk w pb [.slice a n c, .int .i64 p]) (hs : Sl w (fun g => g < w.heap.size ∧ g ≠ pb) 1 (.slice a n c) n (ints .u8 bs)) (hb : Byt bs) (hpn : p ≤ n) (hn : n ≤ 140737488355328) (hd : Bt ≠ pb ∧ Bh ≠ pb ∧ Bh ≠ Bt) (hlt : p < n) (hx : bs.getD p 0 = b) (h8 : b ≤ 136) :
  Calls Tryz.prog 78 #[.pointer (some ⟨Bt, 0, none⟩), .pointer (some ⟨Bh, 0, none⟩)] w (Ret fun v w' => v = .int .i64 0 ∧ Blk w' Bh [.int .i64 (hw b), .int .i64 (-1), .int .u32 0, .bool false] ∧ Blk w' pb [.slice a n c, .int .i64 ((p + 1 : Nat) : Int)] ∧ Upd (fun g => g = Bh ∨ g = pb) w w') := by
 have HU : Upd (fun b => b = Bh ∨ b = pb) w w := Upd.refl _ _
 have hbl_ht := ht.lt
 have hbl_hh := hh.lt
 have hbl_hp := hp.lt
 have hl_hs := ZC hs
 have hc_hs := hs.cap.1
 have hgb := Yi hb p
 rw [hx] at hgb
 refine Zq func78 rfl ntmps78 (by simp) (Sn (Qs 1 rfl (Za (Sn (Zk isAgg77 rfl ht rfl (Zj (Zv rfl call77 rfl) (byte_in _ hp (hs.cur (by intro h1; have h3 : (pb < w.heap.size ∧ pb ≠ pb) := h1; first | omega | simp at h3)) hb (by omega) (by omega) (by omega)) ?_))))))
 rintro v w1 ⟨rfl, hp1, hU1⟩
 have:=hU1.size
 have hbl_hp1 := hp1.lt
 refine Qs 2 rfl ?_
 rw [hx]
 refine Qs 3 rfl (Za (Sm (Qs 1 rfl (Zf (v := .bool true) (YK (a := 0) (b := 0) rfl rfl) (Za (Ct (Zl (Qs 1 rfl (Zj (Zv rfl call79 rfl) (window_ok _ (by omega)) ?_)))))))))
 rintro v w2 ⟨rfl, hU2⟩
 have:=hU2.size
 refine Qs 3 rfl (Zf (Zo underlying34 rfl sizeOf3 rfl rfl) ?_)
 replace hh := (hh.Zh hU1).Zc hU2
 refine Xc [.int .i64 (hw b), .int .i64 (-1), .int .u32 0, .bool false] sizeOf3 rfl hh rfl rfl rfl rfl rfl ?_
 intro w3 hU3 hzz3 hh
 refine Qs 1 rfl (Za (Sn (Qs 2 rfl (Za (Zn (Zg (v := .int .i64 0) rfl (Z9 results78 rfl) ?_))))))
 exact ⟨_, rfl, rfl, hh, ((hp1.Zc hU2).Zh hU3), (((HU.Zr hU1).Zb hU2).Zr hU3)⟩
theorem get2_bad {Bt Bh : Nat} {b : Int} {pb : Nat} {a : Option Addr} {n c p : Nat} {bs : List Int} (w : World) (ht : Blk w Bt [.pointer (some ⟨pb, 0, none⟩)]) (hh : Blk w Bh [.int .i64 0, .int .i64 (-1), .int .u32 0, .bool false]) (hp : Blk w pb [.slice a n c, .int .i64 p]) (hs : Sl w (fun g => g < w.heap.size ∧ g ≠ pb) 1 (.slice a n c) n (ints .u8 bs)) (hb : Byt bs) (hpn : p ≤ n) (hn : n ≤ 140737488355328) (hd : Bt ≠ pb ∧ Bh ≠ pb ∧ Bh ≠ Bt) (hlt : p < n) (hx : bs.getD p 0 = b) (h8 : 136 < b) :
  Calls Tryz.prog 78 #[.pointer (some ⟨Bt, 0, none⟩), .pointer (some ⟨Bh, 0, none⟩)] w (Ret fun v w' => v = .int .i64 7 ∧ Blk w' Bh [.int .i64 0, .int .i64 (-1), .int .u32 0, .bool false] ∧ Blk w' pb [.slice a n c, .int .i64 ((p + 1 : Nat) : Int)] ∧ Upd (fun g => g = Bh ∨ g = pb) w w') := by
 have HU : Upd (fun b => b = Bh ∨ b = pb) w w := Upd.refl _ _
 have hbl_ht := ht.lt
 have hbl_hh := hh.lt
 have hbl_hp := hp.lt
 have hl_hs := ZC hs
 have hc_hs := hs.cap.1
 have hgb := Yi hb p
 rw [hx] at hgb
 refine Zq func78 rfl ntmps78 (by simp) (Sn (Qs 1 rfl (Za (Sn (Zk isAgg77 rfl ht rfl (Zj (Zv rfl call77 rfl) (byte_in _ hp (hs.cur (by intro h1; have h3 : (pb < w.heap.size ∧ pb ≠ pb) := h1; first | omega | simp at h3)) hb (by omega) (by omega) (by omega)) ?_))))))
 rintro v w1 ⟨rfl, hp1, hU1⟩
 have:=hU1.size
 have hbl_hp1 := hp1.lt
 refine Qs 2 rfl ?_
 rw [hx]
 refine Qs 3 rfl (Za (Sm (Qs 1 rfl (Zf (v := .bool true) (YK (a := 0) (b := 0) rfl rfl) (Za (Ct (Zl (Qs 1 rfl (Zj (Zv rfl call79 rfl) (window_no _ (by omega)) ?_)))))))))
 rintro v w2 ⟨rfl, hU2⟩
 have:=hU2.size
 refine Qs 3 rfl (Zf (Zo underlying34 rfl sizeOf3 rfl rfl) ?_)
 replace hh := (hh.Zh hU1).Zc hU2
 refine Xc [.int .i64 0, .int .i64 (-1), .int .u32 0, .bool false] sizeOf3 rfl hh rfl rfl rfl rfl rfl ?_
 intro w3 hU3 hzz3 hh
 refine Qs 1 rfl (Za (Sn (Qs 2 rfl (Za (Zn (Zg (v := .int .i64 7) rfl (Z9 results78 rfl) ?_))))))
 exact ⟨_, rfl, rfl, hh, ((hp1.Zc hU2).Zh hU3), (((HU.Zr hU1).Zb hU2).Zr hU3)⟩
theorem get2_end {Bt Bh : Nat} {pb : Nat} {a : Option Addr} {n c p : Nat} {bs : List Int} (w : World) (ht : Blk w Bt [.pointer (some ⟨pb, 0, none⟩)]) (hh : Blk w Bh [.int .i64 0, .int .i64 (-1), .int .u32 0, .bool false]) (hp : Blk w pb [.slice a n c, .int .i64 p]) (hs : Sl w (fun g => g < w.heap.size ∧ g ≠ pb) 1 (.slice a n c) n (ints .u8 bs)) (hb : Byt bs) (hpn : p ≤ n) (hn : n ≤ 140737488355328) (hd : Bt ≠ pb ∧ Bh ≠ pb ∧ Bh ≠ Bt) (hlt : ¬ p < n) :
  Calls Tryz.prog 78 #[.pointer (some ⟨Bt, 0, none⟩), .pointer (some ⟨Bh, 0, none⟩)] w (Ret fun v w' => v = .int .i64 3 ∧ Blk w' Bh [.int .i64 0, .int .i64 (-1), .int .u32 0, .bool false] ∧ Blk w' pb [.slice a n c, .int .i64 p] ∧ Upd (fun g => g = Bh ∨ g = pb) w w') := by
 have HU : Upd (fun b => b = Bh ∨ b = pb) w w := Upd.refl _ _
 have hbl_ht := ht.lt
 have hbl_hh := hh.lt
 have hbl_hp := hp.lt
 have hl_hs := ZC hs
 have hc_hs := hs.cap.1
 refine Zq func78 rfl ntmps78 (by simp) (Sn (Qs 1 rfl (Za (Sn (Zk isAgg77 rfl ht rfl (Zj (Zv rfl call77 rfl) (byte_end _ hp (hs.cur (by intro h1; have h3 : (pb < w.heap.size ∧ pb ≠ pb) := h1; first | omega | simp at h3)) hb (by omega) (by omega) (by omega)) ?_))))))
 rintro v w1 ⟨rfl, hp1, hU1⟩
 have:=hU1.size
 have hbl_hp1 := hp1.lt
 refine Qs 5 rfl (Za (Sm (Qs 1 rfl (Zf (v := .bool false) (YK (a := 3) (b := 0) rfl rfl) (Za (Cf (Zi (Sn (Qs 2 rfl (Za (Zn (Zg (v := .int .i64 3) rfl (Z9 results78 rfl) ?_))))))))))))
 exact ⟨_, rfl, rfl, (hh.Zh hU1), hp1, (HU.Zr hU1)⟩
theorem get3_skip {Bt Bb Bh : Nat} {b wz : Int} {pb : Nat} {a : Option Addr} {n c p : Nat} {bs : List Int} (w : World) (ht : Blk w Bt [.pointer (some ⟨pb, 0, none⟩)]) (hbb : Blk w Bb [.int .u8 b]) (hh : Blk w Bh [.int .i64 wz, .int .i64 (-1), .int .u32 0, .bool false]) (hp : Blk w pb [.slice a n c, .int .i64 p]) (hs : Sl w (fun g => g < w.heap.size ∧ g ≠ pb) 1 (.slice a n c) n (ints .u8 bs)) (hb : Byt bs) (hpn : p ≤ n) (hn : n ≤ 140737488355328) (hd : Bt ≠ pb ∧ Bh ≠ pb ∧ Bh ≠ Bt ∧ Bb ≠ pb ∧ Bb ≠ Bt ∧ Bh ≠ Bb) (hbr : 0 ≤ b ∧ b < 8) (h4 : ¬ b / 4 = 1) :
  Calls Tryz.prog 80 #[.pointer (some ⟨Bb, 0, none⟩), .pointer (some ⟨Bt, 0, none⟩), .pointer (some ⟨Bh, 0, none⟩)] w (Ret fun v w' => v = .int .i64 0 ∧ Upd No w w') := by
 have HU := Upd.Yo w
 have hbl_ht := ht.lt
 have hbl_hbb := hbb.lt
 have hbl_hh := hh.lt
 have hbl_hp := hp.lt
 have hl_hs := ZC hs
 have hc_hs := hs.cap.1
 refine Zq func80 rfl ntmps80 (by simp) (Sn (Qs 1 rfl (Za (Sm (Zk isAgg5 rfl hbb rfl (Zf (r_and rfl rfl (and4 (by omega) (by omega))) (Qs 1 rfl (Za ?_))))))))
 have q1 : ¬ ((b / 4 % 2 * 4) ≠ 0) := (by omega)
 rw [decide_eq_false q1]
 exact Cf (Zi (Sn (Qs 2 rfl (Za (Zn (Zg rfl (Z9 results80 rfl) ⟨_, rfl, rfl, HU⟩))))))
theorem get3_err {Bt Bb Bh q : Nat} {b wz dv er : Int} {pb : Nat} {a : Option Addr} {n c p : Nat} {bs : List Int} (w : World) (ht : Blk w Bt [.pointer (some ⟨pb, 0, none⟩)]) (hbb : Blk w Bb [.int .u8 b]) (hh : Blk w Bh [.int .i64 wz, .int .i64 (-1), .int .u32 0, .bool false]) (hp : Blk w pb [.slice a n c, .int .i64 p]) (hs : Sl w (fun g => g < w.heap.size ∧ g ≠ pb) 1 (.slice a n c) n (ints .u8 bs)) (hb : Byt bs) (hpn : p ≤ n) (hn : n ≤ 140737488355328) (hd : Bt ≠ pb ∧ Bh ≠ pb ∧ Bh ≠ Bt ∧ Bb ≠ pb ∧ Bb ≠ Bt ∧ Bh ≠ Bb) (hbr : 0 ≤ b ∧ b < 8) (h4 : b / 4 = 1) (hg : ZE bs p = (dv, q, er)) (h8 : er ≠ 0) :
  Calls Tryz.prog 80 #[.pointer (some ⟨Bb, 0, none⟩), .pointer (some ⟨Bt, 0, none⟩), .pointer (some ⟨Bh, 0, none⟩)] w (Ret fun v w' => v = .int .i64 er ∧ Blk w' Bh [.int .i64 wz, .int .i64 (-1), .int .u32 dv, .bool false] ∧ Blk w' pb [.slice a n c, .int .i64 q] ∧ Upd (fun g => g = Bh ∨ g = pb) w w') := by
 have HU : Upd (fun b => b = Bh ∨ b = pb) w w := Upd.refl _ _
 have hbl_ht := ht.lt
 have hbl_hbb := hbb.lt
 have hbl_hh := hh.lt
 have hbl_hp := hp.lt
 have hl_hs := ZC hs
 have hc_hs := hs.cap.1
 refine Zq func80 rfl ntmps80 (by simp) (Sn (Qs 1 rfl (Za (Sm (Zk isAgg5 rfl hbb rfl (Zf (r_and rfl rfl (and4 (by omega) (by omega))) (Qs 1 rfl (Za ?_))))))))
 have q1 : (b / 4 % 2 * 4) ≠ 0 := (by omega)
 rw [decide_eq_true q1]
 refine Ct (Sn (Zk isAgg77 rfl ht rfl (Zj (Zv rfl call51 rfl) (cword_at (x := dv) (q := q) (er := er) _ hp (hs.cur (by intro h1; have h3 : (pb < w.heap.size ∧ pb ≠ pb) := h1; first | omega | simp at h3)) hb (by omega) (by omega) hg) ?_)))
 rintro v w1 ⟨rfl, hp1, hU1⟩
 have:=hU1.size
 have hbl_hp1 := hp1.lt
 refine Qs 3 rfl (Zf (Zo underlying34 rfl sizeOf32 rfl rfl) ?_)
 replace hh := hh.Zh hU1
 refine Xc [.int .i64 wz, .int .i64 (-1), .int .u32 dv, .bool false] sizeOf32 rfl hh rfl rfl rfl rfl rfl ?_
 intro w2 hU2 hzz2 hh
 refine Qs 1 rfl (Za (Sn (Qs 3 rfl ?_)))
 have q2 : ¬ (er = 0) := (by omega)
 rw [decide_eq_false q2]
 refine Gf (Gf (Gf (Zf (Zw (v := .bool false) rfl rfl) (Za (Cf (Zi (Sn (Qs 2 rfl (Za (Zn (Zg (v := .int .i64 er) rfl (Z9 results80 rfl) ?_)))))))))))
 exact ⟨_, rfl, rfl, hh, (hp1.Zh hU2), ((HU.Zr hU1).Zr hU2)⟩
theorem get3_zero {Bt Bb Bh q : Nat} {b wz dv er : Int} {pb : Nat} {a : Option Addr} {n c p : Nat} {bs : List Int} (w : World) (ht : Blk w Bt [.pointer (some ⟨pb, 0, none⟩)]) (hbb : Blk w Bb [.int .u8 b]) (hh : Blk w Bh [.int .i64 wz, .int .i64 (-1), .int .u32 0, .bool false]) (hp : Blk w pb [.slice a n c, .int .i64 p]) (hs : Sl w (fun g => g < w.heap.size ∧ g ≠ pb) 1 (.slice a n c) n (ints .u8 bs)) (hb : Byt bs) (hpn : p ≤ n) (hn : n ≤ 140737488355328) (hd : Bt ≠ pb ∧ Bh ≠ pb ∧ Bh ≠ Bt ∧ Bb ≠ pb ∧ Bb ≠ Bt ∧ Bh ≠ Bb) (hbr : 0 ≤ b ∧ b < 8) (h4 : b / 4 = 1) (hg : ZE bs p = (dv, q, er)) (h8 : er = 0 ∧ dv = 0) :
  Calls Tryz.prog 80 #[.pointer (some ⟨Bb, 0, none⟩), .pointer (some ⟨Bt, 0, none⟩), .pointer (some ⟨Bh, 0, none⟩)] w (Ret fun v w' => v = .int .i64 7 ∧ Blk w' Bh [.int .i64 wz, .int .i64 (-1), .int .u32 dv, .bool false] ∧ Blk w' pb [.slice a n c, .int .i64 q] ∧ Upd (fun g => g = Bh ∨ g = pb) w w') := by
 have HU : Upd (fun b => b = Bh ∨ b = pb) w w := Upd.refl _ _
 have hbl_ht := ht.lt
 have hbl_hbb := hbb.lt
 have hbl_hh := hh.lt
 have hbl_hp := hp.lt
 have hl_hs := ZC hs
 have hc_hs := hs.cap.1
 refine Zq func80 rfl ntmps80 (by simp) (Sn (Qs 1 rfl (Za (Sm (Zk isAgg5 rfl hbb rfl (Zf (r_and rfl rfl (and4 (by omega) (by omega))) (Qs 1 rfl (Za ?_))))))))
 have q1 : (b / 4 % 2 * 4) ≠ 0 := (by omega)
 rw [decide_eq_true q1]
 refine Ct (Sn (Zk isAgg77 rfl ht rfl (Zj (Zv rfl call51 rfl) (cword_at (x := dv) (q := q) (er := er) _ hp (hs.cur (by intro h1; have h3 : (pb < w.heap.size ∧ pb ≠ pb) := h1; first | omega | simp at h3)) hb (by omega) (by omega) hg) ?_)))
 rintro v w1 ⟨rfl, hp1, hU1⟩
 have:=hU1.size
 have hbl_hp1 := hp1.lt
 refine Qs 3 rfl (Zf (Zo underlying34 rfl sizeOf32 rfl rfl) ?_)
 replace hh := hh.Zh hU1
 refine Xc [.int .i64 wz, .int .i64 (-1), .int .u32 dv, .bool false] sizeOf32 rfl hh rfl rfl rfl rfl rfl ?_
 intro w2 hU2 hzz2 hh
 refine Qs 1 rfl (Za (Sn (Qs 3 rfl ?_)))
 have q2 : er = 0 := h8.1
 rw [decide_eq_true q2]
 refine Gt (Zf (Zo underlying34 rfl sizeOf32 rfl rfl) (Gt (Zk isAgg32 rfl hh rfl (Gt (Qs 1 rfl (Zf (Zx (v := .bool (decide (dv = 0))) rfl rfl) (Za ?_)))))))
 have q3 : dv = 0 := h8.2
 rw [decide_eq_true q3]
 refine Ct (Zl (Qs 1 rfl (Za (Sn (Qs 2 rfl (Za (Zn (Zg (v := .int .i64 7) rfl (Z9 results80 rfl) ?_))))))))
 exact ⟨_, rfl, rfl, hh, (hp1.Zh hU2), ((HU.Zr hU1).Zr hU2)⟩
theorem get3_ok {Bt Bb Bh q : Nat} {b wz dv er : Int} {pb : Nat} {a : Option Addr} {n c p : Nat} {bs : List Int} (w : World) (ht : Blk w Bt [.pointer (some ⟨pb, 0, none⟩)]) (hbb : Blk w Bb [.int .u8 b]) (hh : Blk w Bh [.int .i64 wz, .int .i64 (-1), .int .u32 0, .bool false]) (hp : Blk w pb [.slice a n c, .int .i64 p]) (hs : Sl w (fun g => g < w.heap.size ∧ g ≠ pb) 1 (.slice a n c) n (ints .u8 bs)) (hb : Byt bs) (hpn : p ≤ n) (hn : n ≤ 140737488355328) (hd : Bt ≠ pb ∧ Bh ≠ pb ∧ Bh ≠ Bt ∧ Bb ≠ pb ∧ Bb ≠ Bt ∧ Bh ≠ Bb) (hbr : 0 ≤ b ∧ b < 8) (h4 : b / 4 = 1) (hg : ZE bs p = (dv, q, er)) (h8 : er = 0 ∧ dv ≠ 0) :
  Calls Tryz.prog 80 #[.pointer (some ⟨Bb, 0, none⟩), .pointer (some ⟨Bt, 0, none⟩), .pointer (some ⟨Bh, 0, none⟩)] w (Ret fun v w' => v = .int .i64 0 ∧ Blk w' Bh [.int .i64 wz, .int .i64 (-1), .int .u32 dv, .bool false] ∧ Blk w' pb [.slice a n c, .int .i64 q] ∧ Upd (fun g => g = Bh ∨ g = pb) w w') := by
 have HU : Upd (fun b => b = Bh ∨ b = pb) w w := Upd.refl _ _
 have hbl_ht := ht.lt
 have hbl_hbb := hbb.lt
 have hbl_hh := hh.lt
 have hbl_hp := hp.lt
 have hl_hs := ZC hs
 have hc_hs := hs.cap.1
 refine Zq func80 rfl ntmps80 (by simp) (Sn (Qs 1 rfl (Za (Sm (Zk isAgg5 rfl hbb rfl (Zf (r_and rfl rfl (and4 (by omega) (by omega))) (Qs 1 rfl (Za ?_))))))))
 have q1 : (b / 4 % 2 * 4) ≠ 0 := (by omega)
 rw [decide_eq_true q1]
 refine Ct (Sn (Zk isAgg77 rfl ht rfl (Zj (Zv rfl call51 rfl) (cword_at (x := dv) (q := q) (er := er) _ hp (hs.cur (by intro h1; have h3 : (pb < w.heap.size ∧ pb ≠ pb) := h1; first | omega | simp at h3)) hb (by omega) (by omega) hg) ?_)))
 rintro v w1 ⟨rfl, hp1, hU1⟩
 have:=hU1.size
 have hbl_hp1 := hp1.lt
 refine Qs 3 rfl (Zf (Zo underlying34 rfl sizeOf32 rfl rfl) ?_)
 replace hh := hh.Zh hU1
 refine Xc [.int .i64 wz, .int .i64 (-1), .int .u32 dv, .bool false] sizeOf32 rfl hh rfl rfl rfl rfl rfl ?_
 intro w2 hU2 hzz2 hh
 refine Qs 1 rfl (Za (Sn (Qs 3 rfl ?_)))
 have q2 : er = 0 := h8.1
 rw [decide_eq_true q2]
 refine Gt (Zf (Zo underlying34 rfl sizeOf32 rfl rfl) (Gt (Zk isAgg32 rfl hh rfl (Gt (Qs 1 rfl (Zf (Zx (v := .bool (decide (dv = 0))) rfl rfl) (Za ?_)))))))
 have q3 : ¬ (dv = 0) := h8.2
 rw [decide_eq_false q3]
 refine Cf (Zi (Sn (Qs 2 rfl (Za (Zn (Zg (v := .int .i64 er) rfl (Z9 results80 rfl) ?_))))))
 exact ⟨_, rfl, (by first | rfl | exact Zt (by omega)), hh, (hp1.Zh hU2), ((HU.Zr hU1).Zr hU2)⟩
theorem get4_skip {Bt Bb Bh : Nat} {b wz dv : Int} {pb : Nat} {a : Option Addr} {n c p : Nat} {bs : List Int} (w : World) (ht : Blk w Bt [.pointer (some ⟨pb, 0, none⟩)]) (hbb : Blk w Bb [.int .u8 b]) (hh : Blk w Bh [.int .i64 wz, .int .i64 (-1), .int .u32 dv, .bool false]) (hp : Blk w pb [.slice a n c, .int .i64 p]) (hs : Sl w (fun g => g < w.heap.size ∧ g ≠ pb) 1 (.slice a n c) n (ints .u8 bs)) (hb : Byt bs) (hpn : p ≤ n) (hn : n ≤ 140737488355328) (hd : Bt ≠ pb ∧ Bh ≠ pb ∧ Bh ≠ Bt ∧ Bb ≠ pb ∧ Bb ≠ Bt ∧ Bh ≠ Bb) (hbr : 0 ≤ b ∧ b < 8) (h4 : ¬ b % 2 = 1) :
  Calls Tryz.prog 81 #[.pointer (some ⟨Bb, 0, none⟩), .pointer (some ⟨Bt, 0, none⟩), .pointer (some ⟨Bh, 0, none⟩)] w (Ret fun v w' => v = .int .i64 0 ∧ Upd No w w') := by
 have HU := Upd.Yo w
 have hbl_ht := ht.lt
 have hbl_hbb := hbb.lt
 have hbl_hh := hh.lt
 have hbl_hp := hp.lt
 have hl_hs := ZC hs
 have hc_hs := hs.cap.1
 refine Zq func81 rfl ntmps81 (by simp) (Sn (Qs 1 rfl (Za (Sm (Zk isAgg5 rfl hbb rfl (Zf (r_and rfl rfl (and1 (by omega) (by omega))) (Qs 1 rfl (Za ?_))))))))
 have q1 : ¬ ((b % 2) ≠ 0) := (by omega)
 rw [decide_eq_false q1]
 exact Cf (Zi (Sn (Qs 2 rfl (Za (Zn (Zg rfl (Z9 results81 rfl) ⟨_, rfl, rfl, HU⟩))))))
theorem get4_do {Bt Bb Bh q : Nat} {b wz dv er : Int} {pb : Nat} {a : Option Addr} {n c p : Nat} {bs : List Int} {nv : Int} (w : World) (ht : Blk w Bt [.pointer (some ⟨pb, 0, none⟩)]) (hbb : Blk w Bb [.int .u8 b]) (hh : Blk w Bh [.int .i64 wz, .int .i64 (-1), .int .u32 dv, .bool false]) (hp : Blk w pb [.slice a n c, .int .i64 p]) (hs : Sl w (fun g => g < w.heap.size ∧ g ≠ pb) 1 (.slice a n c) n (ints .u8 bs)) (hb : Byt bs) (hpn : p ≤ n) (hn : n ≤ 140737488355328) (hd : Bt ≠ pb ∧ Bh ≠ pb ∧ Bh ≠ Bt ∧ Bb ≠ pb ∧ Bb ≠ Bt ∧ Bh ≠ Bb) (hbr : 0 ≤ b ∧ b < 8) (h4 : b % 2 = 1) (hg : ZN bs p = (nv, q, er)) (hv : 0 ≤ nv ∧ nv ≤ 4611686018427387903) :
  Calls Tryz.prog 81 #[.pointer (some ⟨Bb, 0, none⟩), .pointer (some ⟨Bt, 0, none⟩), .pointer (some ⟨Bh, 0, none⟩)] w (Ret fun v w' => v = .int .i64 er ∧ Blk w' Bh [.int .i64 wz, .int .i64 nv, .int .u32 dv, .bool false] ∧ Blk w' pb [.slice a n c, .int .i64 q] ∧ Upd (fun g => g = Bh ∨ g = pb) w w') := by
 have HU : Upd (fun b => b = Bh ∨ b = pb) w w := Upd.refl _ _
 have hbl_ht := ht.lt
 have hbl_hbb := hbb.lt
 have hbl_hh := hh.lt
 have hbl_hp := hp.lt
 have hl_hs := ZC hs
 have hc_hs := hs.cap.1
 refine Zq func81 rfl ntmps81 (by simp) (Sn (Qs 1 rfl (Za (Sm (Zk isAgg5 rfl hbb rfl (Zf (r_and rfl rfl (and1 (by omega) (by omega))) (Qs 1 rfl (Za ?_))))))))
 have q1 : (b % 2) ≠ 0 := (by omega)
 rw [decide_eq_true q1]
 refine Ct (Sn (Qs 1 rfl (Za (Sn (Zk isAgg77 rfl ht rfl (Zj (Zv rfl call82 rfl) (cvarint_at (x := nv) (q := q) (er := er) _ hp (hs.cur (by intro h1; have h3 : (pb < w.heap.size ∧ pb ≠ pb) := h1; first | omega | simp at h3)) hb (by omega) (by omega) hg) ?_))))))
 rintro v w1 ⟨rfl, hp1, hU1⟩
 have:=hU1.size
 have hbl_hp1 := hp1.lt
 refine Qs 5 rfl (Za (Zl (Qs 1 rfl (Zf (ZZ underlying101 underlying3 rfl ZY) (Zf (Zo underlying34 rfl sizeOf3 rfl rfl) ?_)))))
 replace hh := hh.Zh hU1
 refine Xc [.int .i64 wz, .int .i64 nv, .int .u32 dv, .bool false] sizeOf3 rfl hh rfl rfl rfl rfl rfl ?_
 intro w2 hU2 hzz2 hh
 refine Za (Sn (Qs 2 rfl (Za (Zn (Zg (v := .int .i64 er) rfl (Z9 results81 rfl) ?_)))))
 exact ⟨_, rfl, rfl, hh, (hp1.Zh hU2), ((HU.Zr hU1).Zr hU2)⟩
end Go.Proofs.YtbjjhfoeckkacaaGreatDoor
