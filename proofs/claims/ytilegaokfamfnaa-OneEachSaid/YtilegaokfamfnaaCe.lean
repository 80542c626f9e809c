/-
  Canonical codes: what the stage's theorem says of them.
-/
import Derived.Test.YtilegaokfamfnaaCd
import Derived.Test.YtilegaokfamfnaaXe
set_option linter.unusedVariables false
namespace Go.Proofs.Ytilegaokfamfnaa
open Go.Fw

def bg (s k : Nat) : Int := if s < k then 1 else 0
theorem bg_bd (s k : Nat) : 0 ≤ bg s k ∧ bg s k ≤ 1 := by unfold bg; split <;> omega
theorem bg_hit {s k : Nat} (h : s = k) : bg s (k + 1) = 1 ∧ bg s k = 0 := by subst h; unfold bg; rw [if_pos (by omega), if_neg (by omega)]; exact ⟨rfl, rfl⟩
theorem bg_miss {s k : Nat} (h : s ≠ k) : bg s (k + 1) = bg s k := by
  unfold bg
  by_cases h1 : s < k
  · rw [if_pos h1, if_pos (by omega)]
  · rw [if_neg h1, if_neg (by omega)]
theorem bg_in {s k : Nat} (h : s < k) : bg s k = 1 := by unfold bg; rw [if_pos h]
theorem bg_zero (s : Nat) : bg s 0 = 0 := by unfold bg; rw [if_neg (by omega)]
theorem beg_test {l : List Int} (hr : Rt l) {b : Int} {k : Nat} (hk : k < l.length) (h0 : 0 < l.getD k 0) :
    ((cds l).getD k (0, 0)).2 = b / 2 ^ (min (11 - l.getD k 0).toNat IntKind.u64.bits) ↔ Beg l b k := by
  have hg := hr.1.gd k
  rw [cds_get hk, show min (11 - l.getD k 0).toNat IntKind.u64.bits = (11 - l.getD k 0).toNat from by show min _ 64 = _; omega, ← kw_pow h0]
  exact ⟨fun h => ⟨hk, h0, h.symm⟩, fun h => h.2.2.symm⟩
theorem dec11 {l : List Int} (hr : Rt l) {b : Int} (h0 : 0 ≤ b) (h1 : b < 2048) {k : Nat} (hb : Beg l b k) : dec l b 11 = ((k : Int), l.getD k 0, 0) := by
  have hva : Va b 11 := ⟨by omega, .inr (by
    rw [show min (11 : Int).toNat IntKind.u64.bits = 11 from by decide]
    omega)⟩
  have hw : win b 11 = b := by unfold win; rw [if_pos (by omega)]; simp
  have hg := hr.1.gd k
  have := dec_sel hr h0 (by omega) hva
  rw [hw, sel_eq hr h0 h1 hb, if_pos hg.2] at this
  exact this
theorem sy_at {l : List Int} (hr : Rt l) {k : Nat} (hk : k < l.length) (h0 : 0 < l.getD k 0) : sy l ((cds l).getD k (0, 0)) = k := by rw [cds_get hk]; exact sy_own hr hk h0
/-- the code word before the i-th one -/
def lst (l : List Int) (i : Nat) : Int × Int := if i = 0 then (0, 0) else (cds l).getD ((ord l).getD (i - 1) 0).toNat (0, 0)
theorem lst_succ (l : List Int) (i : Nat) : lst l (i + 1) = (cds l).getD ((ord l).getD i 0).toNat (0, 0) := by
  unfold lst; rw [if_neg (by omega), Nat.add_sub_cancel]
theorem lst_bd {l : List Int} (hr : Rt l) (i : Nat) : (0 ≤ (lst l i).1 ∧ (lst l i).1 ≤ 11) ∧ (0 ≤ (lst l i).2 ∧ (lst l i).2 < 4294967296) := by
  unfold lst
  split
  · exact ⟨by decide, by decide⟩
  · refine ⟨?_, cds_bd hr _⟩
    rcases Nat.lt_or_ge ((ord l).getD (i - 1) 0).toNat l.length with h1 | h1
    · rw [cds_get h1, cd_fst hr.1]; exact hr.1.gd _
    · rw [List.getD_eq_getElem?_getD, List.getElem?_eq_none (by rw [cds_len]; exact h1)]; decide
theorem lst_rise {l : List Int} (hr : Rt l) {i j : Nat} (hi : i < (ord l).length) (hj : (ord l).getD i 0 = (j : Int)) (hjl : j < l.length) (h : 0 < (lst l i).1) :
    (lst l i).1 ≤ ((cds l).getD j (0, 0)).1 ∧ (lst l i).2 < ((cds l).getD j (0, 0)).2 / 2 ^ (min (((cds l).getD j (0, 0)).1 - (lst l i).1).toNat IntKind.u32.bits) ∧ ¬ Pfx (lst l i) ((cds l).getD j (0, 0)) := by
  cases i with
  | zero => exact absurd h (by show ¬ (0 : Int) < 0; omega)
  | succ k =>
    obtain ⟨i, hi', hil, hi0, hi11⟩ := ord_at (l := l) (i := k) (by omega)
    have e := lst_succ l k
    rw [hi', Int.toNat_natCast, cds_get hil] at e
    have hg := hr.1.gd j
    obtain ⟨h1, h2⟩ := cd_rise hr hi hi' hj
    rw [e, cds_get hjl, cd_fst hr.1, cd_fst hr.1]
    have em : min (l.getD j 0 - l.getD i 0).toNat IntKind.u32.bits = (l.getD j 0 - l.getD i 0).toNat := by show min _ 32 = _; omega
    refine ⟨h1, by rw [em, h2]; omega, ?_⟩
    rintro ⟨_, _, _, h3⟩
    rw [cd_fst hr.1, cd_fst hr.1, em, h2] at h3
    omega
theorem lst_last {l : List Int} (hr : Rt l) : 1 ≤ (lst l (ord l).length).1 ∧ (lst l (ord l).length).2 = 2 ^ (lst l (ord l).length).1.toNat - 1 := by
  have hp := ord_pos hr
  obtain ⟨k, hk⟩ : ∃ k, (ord l).length = k + 1 := ⟨(ord l).length - 1, by omega⟩
  obtain ⟨i, hi', hil, hi0, hi11⟩ := ord_at (l := l) (i := k) (by omega)
  rw [hk, lst_succ, hi', Int.toNat_natCast, cds_get hil, cd_fst hr.1]
  exact ⟨by omega, cd_last hr hk.symm hi' hi0 hi11⟩
end Go.Proofs.Ytilegaokfamfnaa
