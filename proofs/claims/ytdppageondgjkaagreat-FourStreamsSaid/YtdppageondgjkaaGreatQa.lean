/-
  Four streams: the parts of a number, the section of four streams, and what it reads back to.
-/
import Derived.Test.YtdppageondgjkaaGreatZC
import Derived.Test.YtdppageondgjkaaGreatUA
set_option linter.unusedVariables false
namespace Go.Proofs.YtdppageondgjkaaGreat
open Go.Fw Nu
/-- the error of a number of bytes that has no four parts -/
def paF (n : Int) : Int := if 0 ≤ n ∧ n ≤ 131072 then (if 3 * ((n + 3) / 4) < n then 0 else 11) else 2
theorem paF_inv {n : Int} (h : paF n = 0) : (0 ≤ n ∧ n ≤ 131072) ∧ 3 * ((n + 3) / 4) < n := by
  unfold paF at h
  split at h
  · split at h
    · exact ⟨by assumption, by assumption⟩
    · cases h
  · cases h
theorem paF_cases (n : Int) : (paF n = 0 ∧ 0 ≤ n ∧ n ≤ 131072 ∧ 3 * ((n + 3) / 4) < n) ∨ (paF n = 11 ∧ 0 ≤ n ∧ n ≤ 131072 ∧ ¬ 3 * ((n + 3) / 4) < n) ∨ (paF n = 2 ∧ ¬ (0 ≤ n ∧ n ≤ 131072)) := by
  unfold paF
  split
  · split
    · exact .inl ⟨rfl, by omega, by omega, by assumption⟩
    · exact .inr (.inl ⟨rfl, by omega, by omega, by assumption⟩)
  · exact .inr (.inr ⟨rfl, by assumption⟩)
/-- the section of four streams -/
def jn (a b c d : List Int) : List Int := vi ((a.length : Nat) : Int) ++ (vi ((b.length : Nat) : Int) ++ (vi ((c.length : Nat) : Int) ++ (a ++ (b ++ (c ++ d)))))
theorem jn_byt {a b c d : List Int} (ha : Byt a) (hb : Byt b) (hc : Byt c) (hd : Byt d) : Byt (jn a b c d) :=
  (vi_byt (by omega)).append ((vi_byt (by omega)).append ((vi_byt (by omega)).append (ha.append (hb.append (hc.append hd)))))
/-! ### reading a section -/
abbrev u1 (b : List Int) : Int × Nat × Int := gnum b 0 131072
abbrev u2 (b : List Int) : Int × Nat × Int := gnum b (u1 b).2.1 131072
abbrev u3 (b : List Int) : Int × Nat × Int := gnum b (u2 b).2.1 131072
abbrev y1 (b : List Int) : List Int × Nat × Int := gbytes b (u3 b).2.1 (u1 b).1
abbrev y2 (b : List Int) : List Int × Nat × Int := gbytes b (y1 b).2.1 (u2 b).1
abbrev y3 (b : List Int) : List Int × Nat × Int := gbytes b (y2 b).2.1 (u3 b).1
abbrev y4 (b : List Int) : List Int := b.drop (y3 b).2.1
/-- the error of a section that has no four streams -/
def e4 (b : List Int) : Int := if (u1 b).2.2 ≠ 0 then (u1 b).2.2 else if (u2 b).2.2 ≠ 0 then (u2 b).2.2 else if (u3 b).2.2 ≠ 0 then (u3 b).2.2 else if (y1 b).2.2 ≠ 0 then (y1 b).2.2 else if (y2 b).2.2 ≠ 0 then (y2 b).2.2 else (y3 b).2.2
theorem e4_inv {b : List Int} (h : e4 b = 0) : (u1 b).2.2 = 0 ∧ (u2 b).2.2 = 0 ∧ (u3 b).2.2 = 0 ∧ (y1 b).2.2 = 0 ∧ (y2 b).2.2 = 0 ∧ (y3 b).2.2 = 0 := by
  unfold e4 at h
  split at h
  · exact absurd h ‹_›
  · split at h
    · exact absurd h ‹_›
    · split at h
      · exact absurd h ‹_›
      · split at h
        · exact absurd h ‹_›
        · split at h
          · exact absurd h ‹_›
          · simp_all
theorem e4_z {b : List Int} (h1 : (u1 b).2.2 = 0) (h2 : (u2 b).2.2 = 0) (h3 : (u3 b).2.2 = 0) (h4 : (y1 b).2.2 = 0) (h5 : (y2 b).2.2 = 0) : e4 b = (y3 b).2.2 := by
  rw [e4, if_neg (not_not_intro h1), if_neg (not_not_intro h2), if_neg (not_not_intro h3), if_neg (not_not_intro h4), if_neg (not_not_intro h5)]
/-- the error of the three lengths -/
def e3 (b : List Int) : Int := if (u1 b).2.2 ≠ 0 then (u1 b).2.2 else if (u2 b).2.2 ≠ 0 then (u2 b).2.2 else (u3 b).2.2
theorem e3_1 {b : List Int} (h : ¬ (u1 b).2.2 = 0) : e3 b = (u1 b).2.2 := by rw [e3, if_pos h]
theorem e3_2 {b : List Int} (h1 : (u1 b).2.2 = 0) (h : ¬ (u2 b).2.2 = 0) : e3 b = (u2 b).2.2 := by rw [e3, if_neg (not_not_intro h1), if_pos h]
theorem e3_3 {b : List Int} (h1 : (u1 b).2.2 = 0) (h2 : (u2 b).2.2 = 0) : e3 b = (u3 b).2.2 := by rw [e3, if_neg (not_not_intro h1), if_neg (not_not_intro h2)]
theorem e3_inv {b : List Int} (h : e3 b = 0) : (u1 b).2.2 = 0 ∧ (u2 b).2.2 = 0 ∧ (u3 b).2.2 = 0 := by
  have h1 : (u1 b).2.2 = 0 := Classical.byContradiction fun hn => hn (by rw [← e3_1 hn]; exact h)
  have h2 : (u2 b).2.2 = 0 := Classical.byContradiction fun hn => hn (by rw [← e3_2 h1 hn]; exact h)
  exact ⟨h1, h2, by rw [← e3_3 h1 h2]; exact h⟩
theorem e4_3 {b : List Int} (h : ¬ e3 b = 0) : e4 b = e3 b := by
  unfold e4
  split
  · exact (e3_1 ‹_›).symm
  · next h1 =>
    have h1 := Classical.not_not.1 h1
    split
    · exact (e3_2 h1 ‹_›).symm
    · next h2 =>
      have h2 := Classical.not_not.1 h2
      have h3 := e3_3 h1 h2
      rw [if_pos (by rw [← h3]; exact h), h3]
theorem e4_y1 {b : List Int} (h : e3 b = 0) (hy : ¬ (y1 b).2.2 = 0) : e4 b = (y1 b).2.2 := by
  obtain ⟨h1, h2, h3⟩ := e3_inv h
  rw [e4, if_neg (not_not_intro h1), if_neg (not_not_intro h2), if_neg (not_not_intro h3), if_pos hy]
theorem e4_y2 {b : List Int} (h : e3 b = 0) (hy1 : (y1 b).2.2 = 0) (hy : ¬ (y2 b).2.2 = 0) : e4 b = (y2 b).2.2 := by
  obtain ⟨h1, h2, h3⟩ := e3_inv h
  rw [e4, if_neg (not_not_intro h1), if_neg (not_not_intro h2), if_neg (not_not_intro h3), if_neg (not_not_intro hy1), if_pos hy]
theorem e4_y3 {b : List Int} (h : e3 b = 0) (hy1 : (y1 b).2.2 = 0) (hy2 : (y2 b).2.2 = 0) : e4 b = (y3 b).2.2 := by
  obtain ⟨h1, h2, h3⟩ := e3_inv h
  exact e4_z h1 h2 h3 hy1 hy2
theorem e4_e3 {b : List Int} (h : e4 b = 0) : e3 b = 0 := Classical.byContradiction fun hn => hn (by rw [← e4_3 hn]; exact h)
theorem gnum_at {bs rest : List Int} {p : Nat} {n : Int} (h0 : 0 ≤ n) (h1 : n ≤ 131072) (hd : bs.drop p = vi n ++ rest) : gnum bs p 131072 = (n, p + (vi n).length, 0) := by
  have h := gvar_vi h0 (by omega) hd
  rw [gnum_ok (by rw [h]) (by rw [h]; show ¬ max 131072 0 < n; omega), h]
theorem drop_more {bs a rest : List Int} {p : Nat} (hd : bs.drop p = a ++ rest) : bs.drop (p + a.length) = rest := by
  rw [← List.drop_drop, hd, List.drop_left]
theorem drop_le {bs a rest : List Int} {p : Nat} (hp : p ≤ bs.length) (hd : bs.drop p = a ++ rest) : p + a.length ≤ bs.length := by
  have := congrArg List.length hd
  rw [List.length_drop, List.length_append] at this
  omega
theorem jn_split {a b c d : List Int} (ha : a.length ≤ 131072) (hb : b.length ≤ 131072) (hc : c.length ≤ 131072) :
    e4 (jn a b c d) = 0 ∧ (y1 (jn a b c d)).1 = a ∧ (y2 (jn a b c d)).1 = b ∧ (y3 (jn a b c d)).1 = c ∧ y4 (jn a b c d) = d := by
  obtain ⟨s, hs⟩ : ∃ s, s = jn a b c d := ⟨_, rfl⟩
  rw [← hs]
  have d0 : s.drop 0 = vi ((a.length : Nat) : Int) ++ (vi ((b.length : Nat) : Int) ++ (vi ((c.length : Nat) : Int) ++ (a ++ (b ++ (c ++ d))))) := by rw [hs]; rfl
  obtain ⟨va, hva⟩ : ∃ x, x = vi ((a.length : Nat) : Int) := ⟨_, rfl⟩
  obtain ⟨vb', hvb⟩ : ∃ x, x = vi ((b.length : Nat) : Int) := ⟨_, rfl⟩
  obtain ⟨vc, hvc⟩ : ∃ x, x = vi ((c.length : Nat) : Int) := ⟨_, rfl⟩
  have g1 : u1 s = (((a.length : Nat) : Int), 0 + va.length, 0) := by rw [hva]; exact gnum_at (by omega) (by omega) d0
  rw [← hva, ← hvb, ← hvc] at d0
  have l1 := drop_le (Nat.zero_le _) d0
  have d1 := drop_more d0
  have g2 : u2 s = (((b.length : Nat) : Int), 0 + va.length + vb'.length, 0) := by
    show gnum s (u1 s).2.1 131072 = _
    rw [g1, hvb]; exact gnum_at (by omega) (by omega) (by rw [← hvb]; exact d1)
  have l2 := drop_le l1 d1
  have d2 := drop_more d1
  have g3 : u3 s = (((c.length : Nat) : Int), 0 + va.length + vb'.length + vc.length, 0) := by
    show gnum s (u2 s).2.1 131072 = _
    rw [g2, hvc]; exact gnum_at (by omega) (by omega) (by rw [← hvc]; exact d2)
  have l3 := drop_le l2 d2
  have d3 := drop_more d2
  have h1 : y1 s = (a, 0 + va.length + vb'.length + vc.length + a.length, 0) := by
    show gbytes s (u3 s).2.1 (u1 s).1 = _
    rw [g3, g1]; exact gbytes_at rfl d3 l3
  have l4 := drop_le l3 d3
  have d4 := drop_more d3
  have h2 : y2 s = (b, 0 + va.length + vb'.length + vc.length + a.length + b.length, 0) := by
    show gbytes s (y1 s).2.1 (u2 s).1 = _
    rw [h1, g2]; exact gbytes_at rfl d4 l4
  have l5 := drop_le l4 d4
  have d5 := drop_more d4
  have h3 : y3 s = (c, 0 + va.length + vb'.length + vc.length + a.length + b.length + c.length, 0) := by
    show gbytes s (y2 s).2.1 (u3 s).1 = _
    rw [h2, g3]; exact gbytes_at rfl d5 l5
  have d6 := drop_more d5
  refine ⟨?_, by rw [h1], by rw [h2], by rw [h3], ?_⟩
  · rw [e4_z (by rw [g1]) (by rw [g2]) (by rw [g3]) (by rw [h1]) (by rw [h2]), h3]
  · show s.drop (y3 s).2.1 = d
    rw [h3]; exact d6
theorem gnum_once {bs : List Int} {p : Nat} (hb : Byt bs) (hp : p ≤ bs.length) (h : (gnum bs p 131072).2.2 = 0) :
    bs.drop p = vi (gnum bs p 131072).1 ++ bs.drop (gnum bs p 131072).2.1 ∧ 0 ≤ (gnum bs p 131072).1 ∧ (gnum bs p 131072).1 ≤ 131072 ∧ (gnum bs p 131072).2.1 ≤ bs.length := by
  have h1 : (gvar bs p).2.2 = 0 := Classical.byContradiction fun hn => by rw [gnum_err hn] at h; exact hn h
  have h2 : ¬ max 131072 0 < (gvar bs p).1 := fun hn => by rw [gnum_lim h1 hn] at h; exact absurd (show (18 : Int) = 0 from h) (by decide)
  rw [gnum_ok h1 h2]
  have hg := gvar_props bs p hp
  obtain ⟨h3, h4⟩ := gvar_once hb h1
  refine ⟨?_, hg.1, by omega, hg.2.2.1⟩
  have h5 : bs.drop (gvar bs p).2.1 = (bs.drop p).drop ((gvar bs p).2.1 - p) := by rw [List.drop_drop, show p + ((gvar bs p).2.1 - p) = (gvar bs p).2.1 from by omega]
  rw [← h3, h5, List.take_append_drop]
theorem gbytes_once {bs : List Int} {p : Nat} {k : Int} (hp : p ≤ bs.length) (h : (gbytes bs p k).2.2 = 0) :
    bs.drop p = (gbytes bs p k).1 ++ bs.drop (gbytes bs p k).2.1 ∧ (((gbytes bs p k).1.length : Nat) : Int) = k ∧ (gbytes bs p k).2.1 ≤ bs.length := by
  have h0 : 0 ≤ k := by
    rcases Int.lt_or_le k 0 with h0 | h0
    · rw [gbytes_neg h0] at h; exact absurd (show (2 : Int) = 0 from h) (by decide)
    · exact h0
  have h1 : k ≤ bs.length - p := by
    rcases Int.lt_or_le (bs.length - p) k with h1 | h1
    · rw [gbytes_long h0 h1] at h; exact absurd (show (3 : Int) = 0 from h) (by decide)
    · exact h1
  rw [gbytes_ok h0 h1]
  refine ⟨?_, ?_, ?_⟩
  · show bs.drop p = (bs.drop p).take k.toNat ++ bs.drop (p + k.toNat)
    rw [← List.drop_drop, List.take_append_drop]
  · show (((bs.drop p).take k.toNat).length : Int) = k
    rw [List.length_take, List.length_drop]; omega
  · show p + k.toNat ≤ bs.length
    omega
theorem jn_of {s : List Int} (hs : Byt s) (h : e4 s = 0) : jn (y1 s).1 (y2 s).1 (y3 s).1 (y4 s) = s := by
  obtain ⟨h1, h2, h3, h4, h5, h6⟩ := e4_inv h
  obtain ⟨a1, b1, c1, l1⟩ := gnum_once hs (Nat.zero_le _) h1
  obtain ⟨a2, b2, c2, l2⟩ := gnum_once hs l1 h2
  obtain ⟨a3, b3, c3, l3⟩ := gnum_once hs l2 h3
  obtain ⟨a4, k4, l4⟩ := gbytes_once l3 h4
  obtain ⟨a5, k5, l5⟩ := gbytes_once l4 h5
  obtain ⟨a6, k6, l6⟩ := gbytes_once l5 h6
  unfold jn
  rw [k4, k5, k6]
  rw [List.drop_zero] at a1
  show vi (u1 s).1 ++ (vi (u2 s).1 ++ (vi (u3 s).1 ++ ((y1 s).1 ++ ((y2 s).1 ++ ((y3 s).1 ++ s.drop (y3 s).2.1))))) = s
  rw [← a6, ← a5, ← a4, ← a3, ← a2]
  exact a1.symm
end Go.Proofs.YtdppageondgjkaaGreat
