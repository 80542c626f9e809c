/-
  Several texts of this project, put together.
-/
import Derived.Test.YtbjjhfoeckkacaaGreatDoorKD
import Derived.Test.YtbjjhfoeckkacaaGreatDoorFB
import Derived.Lib.ItoaNum
import Derived.Lib.AppendIntMem
import Derived.Lib.Builder
import Derived.Lib.UnsafeStr
import Derived.ChangeKeysEq
set_option linter.unusedVariables false
set_option maxRecDepth 100000
set_option maxHeartbeats 16000000
namespace Go.Proofs.YtbjjhfoeckkacaaGreatDoor
open Go.Fw
/-! ### blocks -/
abbrev BK := Int × Int × Int × Int × Bool
def bnum (bs : List Int) (p : Nat) : Int := bs.getD p 0 + 256 * bs.getD (p + 1) 0 + 65536 * bs.getD (p + 2) 0
def bkd (bs : List Int) (p : Nat) : Int := bnum bs p / 2 % 4
def bsz (bs : List Int) (p : Nat) : Int := bnum bs p / 8
def bla (bs : List Int) (p : Nat) : Bool := decide (bnum bs p % 2 = 1)
def bst (bs : List Int) (p : Nat) : Int := if bkd bs p = 1 then 1 else bsz bs p
def berr (bs : List Int) (p : Nat) : Int := if bs.length < p + 3 then 3 else if bkd bs p = 3 then 10 else if ((bs.length - (p + 3) : Nat) : Int) < bst bs p then 3 else 0
def bk (bs : List Int) (p : Nat) : BK := ((p : Int), bkd bs p, bsz bs p, bst bs p, bla bs p)
def bnx (bs : List Int) (p : Nat) : Nat := p + 3 + (bst bs p).toNat
theorem berr_short {bs : List Int} {p : Nat} (h : bs.length < p + 3) : berr bs p = 3 := if_pos h
theorem berr_none {bs : List Int} {p : Nat} (h : ¬ bs.length < p + 3) (h2 : bkd bs p = 3) : berr bs p = 10 := by unfold berr; rw [if_neg h, if_pos h2]
theorem berr_long {bs : List Int} {p : Nat} (h : ¬ bs.length < p + 3) (h2 : ¬ bkd bs p = 3) (h3 : ((bs.length - (p + 3) : Nat) : Int) < bst bs p) : berr bs p = 3 := by unfold berr; rw [if_neg h, if_neg h2, if_pos h3]
theorem berr_ok {bs : List Int} {p : Nat} (h : ¬ bs.length < p + 3) (h2 : ¬ bkd bs p = 3) (h3 : ¬ ((bs.length - (p + 3) : Nat) : Int) < bst bs p) : berr bs p = 0 := by unfold berr; rw [if_neg h, if_neg h2, if_neg h3]
theorem berr_inv {bs : List Int} {p : Nat} (h : berr bs p = 0) : p + 3 ≤ bs.length ∧ bkd bs p ≠ 3 ∧ bst bs p ≤ ((bs.length - (p + 3) : Nat) : Int) := by
  unfold berr at h
  split at h
  · cases h
  · split at h
    · cases h
    · split at h
      · cases h
      · exact ⟨by omega, by assumption, by omega⟩
theorem bnum_bd {bs : List Int} (hb : Byt bs) (p : Nat) : 0 ≤ bnum bs p ∧ bnum bs p < 16777216 := by
  have h0 := Yi hb p
  have h1 := Yi hb (p + 1)
  have h2 := Yi hb (p + 2)
  unfold bnum; omega
theorem bst_bd {bs : List Int} (hb : Byt bs) (p : Nat) : 0 ≤ bst bs p ∧ bst bs p < 2097152 := by
  have := bnum_bd hb p
  unfold bst bsz
  split <;> omega
theorem bk_bd {bs : List Int} (hb : Byt bs) (p : Nat) : 0 ≤ bsz bs p ∧ bsz bs p < 2097152 ∧ 0 ≤ bkd bs p ∧ bkd bs p < 4 := by
  have := bnum_bd hb p
  unfold bsz bkd; omega
theorem bnx_le {bs : List Int} {p : Nat} (h : berr bs p = 0) : p + 3 ≤ bnx bs p ∧ bnx bs p ≤ bs.length := by
  have := berr_inv h
  unfold bnx; omega
def blks (bs : List Int) : Nat → Nat → List BK × Nat × Int
  | 0, p => ([], p, 3)
  | f + 1, p => if berr bs p ≠ 0 then ([], p, berr bs p) else if bla bs p = true then ([bk bs p], bnx bs p, 0) else (bk bs p :: (blks bs f (bnx bs p)).1, (blks bs f (bnx bs p)).2)
theorem blks_fuel (bs : List Int) : ∀ (f g p : Nat), bs.length < p + f → bs.length < p + g → blks bs f p = blks bs g p
  | 0, g, p, h, k => by
    cases g with
    | zero => rfl
    | succ g =>
      have : berr bs p = 3 := berr_short (by omega)
      unfold blks
      rw [if_pos (by rw [this]; decide), this]
  | f + 1, 0, p, h, k => by
    have : berr bs p = 3 := berr_short (by omega)
    unfold blks
    rw [if_pos (by rw [this]; decide), this]
  | f + 1, g + 1, p, h, k => by
    unfold blks
    by_cases h1 : berr bs p ≠ 0
    · rw [if_pos h1, if_pos h1]
    · rw [if_neg h1, if_neg h1]
      have := bnx_le (Classical.not_not.1 h1)
      rw [blks_fuel bs f g (bnx bs p) (by omega) (by omega)]
def gb (bs : List Int) (p : Nat) : List BK × Nat × Int := blks bs (bs.length + 1) p
theorem gb_err {bs : List Int} {p : Nat} (h : ¬ berr bs p = 0) : gb bs p = ([], p, berr bs p) := by unfold gb blks; rw [if_pos h]
theorem gb_last {bs : List Int} {p : Nat} (h : berr bs p = 0) (h2 : bla bs p = true) : gb bs p = ([bk bs p], bnx bs p, 0) := by unfold gb blks; rw [if_neg (not_not_intro h), if_pos h2]
theorem gb_more {bs : List Int} {p : Nat} (h : berr bs p = 0) (h2 : ¬ bla bs p = true) : gb bs p = (bk bs p :: (gb bs (bnx bs p)).1, (gb bs (bnx bs p)).2) := by
  have := bnx_le h
  have e : gb bs (bnx bs p) = blks bs bs.length (bnx bs p) := blks_fuel bs _ _ _ (by omega) (by omega)
  rw [e]
  conv => lhs; unfold gb blks
  rw [if_neg (not_not_intro h), if_neg h2]
theorem gb_ind {bs : List Int} {Q : Nat → Prop} (h0 : ∀ p, ¬ berr bs p = 0 → Q p) (h1 : ∀ p, berr bs p = 0 → bla bs p = true → Q p) (h2 : ∀ p, berr bs p = 0 → ¬ bla bs p = true → Q (bnx bs p) → Q p) (p : Nat) : Q p := by
  have key : ∀ f p, bs.length < p + f → Q p := by
    intro f
    induction f with
    | zero => intro p hp; exact h0 p (by rw [berr_short (by omega)]; decide)
    | succ f ih =>
      intro p hp
      by_cases he : berr bs p = 0
      · by_cases hl : bla bs p = true
        · exact h1 p he hl
        · exact h2 p he hl (ih _ (by have := bnx_le he; omega))
      · exact h0 p he
  exact key (bs.length + 1) p (by omega)
theorem gb_le {bs : List Int} (p : Nat) (h : (gb bs p).2.2 = 0) : p + 3 ≤ (gb bs p).2.1 ∧ (gb bs p).2.1 ≤ bs.length := by
  revert h
  refine gb_ind (bs := bs) (Q := fun p => (gb bs p).2.2 = 0 → p + 3 ≤ (gb bs p).2.1 ∧ (gb bs p).2.1 ≤ bs.length) ?_ ?_ ?_ p
  · intro p h h2; rw [gb_err h] at h2; exact absurd h2 h
  · intro p h h2 _; rw [gb_last h h2]; exact bnx_le h
  · intro p h h2 ih h3
    rw [gb_more h h2] at h3 ⊢
    have := ih h3
    have := bnx_le h
    show p + 3 ≤ (gb bs (bnx bs p)).2.1 ∧ (gb bs (bnx bs p)).2.1 ≤ bs.length
    omega
/-! ### parts -/
structure PT where
  at_ : Int
  sz : Int
  sk : Bool
  pl : Int
  hd : Hd
  bl : List BK
  ck : Int
def pt0 : PT := ⟨0, 0, false, 0, hz, [], 0⟩
def ZK (bs : List Int) (p : Nat) : PT × Nat × Int :=
  if (hmk bs p).2 ≠ 0 then (pt0, p, (hmk bs p).2) else
  if (hmk bs p).1 = 1 then
    if (ZA bs p).2.2 ≠ 0 then (pt0, p, (ZA bs p).2.2) else
    if (gb bs (ZA bs p).2.1).2.2 ≠ 0 then (pt0, p, (gb bs (ZA bs p).2.1).2.2) else
    if (ZA bs p).1.2.2.2 = true then
      if (ZE bs (gb bs (ZA bs p).2.1).2.1).2.2 ≠ 0 then (pt0, p, (ZE bs (gb bs (ZA bs p).2.1).2.1).2.2) else
      (⟨(p : Int), (((ZE bs (gb bs (ZA bs p).2.1).2.1).2.1 : Nat) : Int) - (p : Int), false, 0, (ZA bs p).1, (gb bs (ZA bs p).2.1).1, (ZE bs (gb bs (ZA bs p).2.1).2.1).1⟩, (ZE bs (gb bs (ZA bs p).2.1).2.1).2.1, 0)
    else (⟨(p : Int), (((gb bs (ZA bs p).2.1).2.1 : Nat) : Int) - (p : Int), false, 0, (ZA bs p).1, (gb bs (ZA bs p).2.1).1, 0⟩, (gb bs (ZA bs p).2.1).2.1, 0)
  else
    if (Yc bs p).2.2 ≠ 0 then (pt0, p, (Yc bs p).2.2) else
    (⟨(p : Int), (((Yc bs p).2.1 : Nat) : Int) - (p : Int), true, (((Yc bs p).1.length : Nat) : Int), hz, [], 0⟩, (Yc bs p).2.1, 0)
section
variable {bs : List Int} {p : Nat}
theorem gp_mk (h : ¬ (hmk bs p).2 = 0) : ZK bs p = (pt0, p, (hmk bs p).2) := if_pos h
theorem gp_head (h : (hmk bs p).2 = 0) (h1 : (hmk bs p).1 = 1) (h2 : ¬ (ZA bs p).2.2 = 0) : ZK bs p = (pt0, p, (ZA bs p).2.2) := by unfold ZK; rw [if_neg (not_not_intro h), if_pos h1, if_pos h2]
theorem gp_blk (h : (hmk bs p).2 = 0) (h1 : (hmk bs p).1 = 1) (h2 : (ZA bs p).2.2 = 0) (h3 : ¬ (gb bs (ZA bs p).2.1).2.2 = 0) : ZK bs p = (pt0, p, (gb bs (ZA bs p).2.1).2.2) := by
  unfold ZK; rw [if_neg (not_not_intro h), if_pos h1, if_neg (not_not_intro h2), if_pos h3]
theorem gp_word (h : (hmk bs p).2 = 0) (h1 : (hmk bs p).1 = 1) (h2 : (ZA bs p).2.2 = 0) (h3 : (gb bs (ZA bs p).2.1).2.2 = 0) (h4 : (ZA bs p).1.2.2.2 = true) (h5 : ¬ (ZE bs (gb bs (ZA bs p).2.1).2.1).2.2 = 0) :
    ZK bs p = (pt0, p, (ZE bs (gb bs (ZA bs p).2.1).2.1).2.2) := by
  unfold ZK; rw [if_neg (not_not_intro h), if_pos h1, if_neg (not_not_intro h2), if_neg (not_not_intro h3), if_pos h4, if_pos h5]
theorem gp_sum (h : (hmk bs p).2 = 0) (h1 : (hmk bs p).1 = 1) (h2 : (ZA bs p).2.2 = 0) (h3 : (gb bs (ZA bs p).2.1).2.2 = 0) (h4 : (ZA bs p).1.2.2.2 = true) (h5 : (ZE bs (gb bs (ZA bs p).2.1).2.1).2.2 = 0) :
    ZK bs p = (⟨(p : Int), (((ZE bs (gb bs (ZA bs p).2.1).2.1).2.1 : Nat) : Int) - (p : Int), false, 0, (ZA bs p).1, (gb bs (ZA bs p).2.1).1, (ZE bs (gb bs (ZA bs p).2.1).2.1).1⟩, (ZE bs (gb bs (ZA bs p).2.1).2.1).2.1, 0) := by
  unfold ZK; rw [if_neg (not_not_intro h), if_pos h1, if_neg (not_not_intro h2), if_neg (not_not_intro h3), if_pos h4, if_neg (not_not_intro h5)]
theorem gp_frame (h : (hmk bs p).2 = 0) (h1 : (hmk bs p).1 = 1) (h2 : (ZA bs p).2.2 = 0) (h3 : (gb bs (ZA bs p).2.1).2.2 = 0) (h4 : ¬ (ZA bs p).1.2.2.2 = true) :
    ZK bs p = (⟨(p : Int), (((gb bs (ZA bs p).2.1).2.1 : Nat) : Int) - (p : Int), false, 0, (ZA bs p).1, (gb bs (ZA bs p).2.1).1, 0⟩, (gb bs (ZA bs p).2.1).2.1, 0) := by
  unfold ZK; rw [if_neg (not_not_intro h), if_pos h1, if_neg (not_not_intro h2), if_neg (not_not_intro h3), if_neg h4]
theorem gp_skerr (h : (hmk bs p).2 = 0) (h1 : ¬ (hmk bs p).1 = 1) (h2 : ¬ (Yc bs p).2.2 = 0) : ZK bs p = (pt0, p, (Yc bs p).2.2) := by
  unfold ZK; rw [if_neg (not_not_intro h), if_neg h1, if_pos h2]
theorem gp_skip (h : (hmk bs p).2 = 0) (h1 : ¬ (hmk bs p).1 = 1) (h2 : (Yc bs p).2.2 = 0) :
    ZK bs p = (⟨(p : Int), (((Yc bs p).2.1 : Nat) : Int) - (p : Int), true, (((Yc bs p).1.length : Nat) : Int), hz, [], 0⟩, (Yc bs p).2.1, 0) := by
  unfold ZK; rw [if_neg (not_not_intro h), if_neg h1, if_neg (not_not_intro h2)]
end
theorem gskip_ok {bs : List Int} {p : Nat} (h : (Yc bs p).2.2 = 0) : (hmk bs p).2 = 0 ∧ ¬ (hmk bs p).1 = 1 ∧ (ZE bs (p + 4)).2.2 = 0 ∧ (ZW bs (p + 8) (ZE bs (p + 4)).1).2.2 = 0 ∧ Yc bs p = ZW bs (p + 8) (ZE bs (p + 4)).1 := by
  by_cases h1 : (hmk bs p).2 = 0
  · by_cases h2 : (hmk bs p).1 = 1
    · rw [gs_kind h1 h2] at h; exact absurd (show (6 : Int) = 0 from h) (by decide)
    · by_cases h3 : (ZE bs (p + 4)).2.2 = 0
      · by_cases h4 : (ZW bs (p + 8) (ZE bs (p + 4)).1).2.2 = 0
        · exact ⟨h1, h2, h3, h4, gs_ok h1 h2 h3 h4⟩
        · rw [gs_err h1 h2 h3 h4] at h; exact absurd h h4
      · rw [gs_word h1 h2 h3] at h; exact absurd h h3
  · rw [gs_mk h1] at h; exact absurd h h1
theorem gbytes_inv {bs : List Int} {p : Nat} {k : Int} (h : (ZW bs p k).2.2 = 0) : 0 ≤ k ∧ k ≤ ((bs.length - p : Nat) : Int) ∧ ZW bs p k = ((bs.drop p).take k.toNat, p + k.toNat, 0) := by
  rcases Int.lt_or_le k 0 with h0 | h0
  · rw [gbytes_neg h0] at h; exact absurd (show (2 : Int) = 0 from h) (by decide)
  · rcases Int.lt_or_le ((bs.length : Int) - p) k with h1 | h1
    · rw [YP h0 h1] at h; exact absurd (show (3 : Int) = 0 from h) (by decide)
    · exact ⟨h0, by omega, YR h0 (by omega)⟩
theorem gword_inv {bs : List Int} {q : Nat} (h : (ZE bs q).2.2 = 0) : q + 4 ≤ bs.length ∧ ZE bs q = (wval ((bs.drop q).take 4), q + 4, 0) := by
  unfold ZE at h ⊢
  by_cases h1 : bs.length < q + 4
  · rw [if_pos h1] at h; exact absurd (show (3 : Int) = 0 from h) (by decide)
  · rw [if_neg h1]; exact ⟨by omega, rfl⟩
theorem gskip_le {bs : List Int} {p : Nat} (h : (Yc bs p).2.2 = 0) : p + 8 ≤ (Yc bs p).2.1 ∧ (Yc bs p).2.1 ≤ bs.length ∧ (Yc bs p).2.1 = p + 8 + (Yc bs p).1.length := by
  obtain ⟨h1, h2, h3, h4, h5⟩ := gskip_ok h
  obtain ⟨w1, w2⟩ := gword_inv h3
  obtain ⟨b1, b2, b3⟩ := gbytes_inv h4
  rw [h5, b3]
  simp only [List.length_take, List.length_drop]
  omega
theorem ghead_inv {bs : List Int} {p : Nat} (h : (ZA bs p).2.2 = 0) : Hm bs p ∧ ¬ 7 < bs.getD (p + 4) 0 ∧ ¬ bs.length < p + 6 ∧ ¬ hw (bs.getD (p + 5) 0) = 0 ∧ (ZV bs p).2.2 = 0 ∧ ¬ (bs.getD (p + 4) 0 / 4 = 1 ∧ (ZV bs p).1 = 0) ∧ (Yu bs p (ZV bs p).2.1).2.2 = 0 := by
  by_cases c1 : (hmk bs p).2 = 0
  · by_cases c2 : (hmk bs p).1 = 1
    · have HM : Hm bs p := ⟨c1, c2⟩
      by_cases c5 : bs.length < p + 5
      · rw [gh_5 HM c5] at h; exact absurd (show (3 : Int) = 0 from h) (by decide)
      · by_cases c7 : 7 < bs.getD (p + 4) 0
        · rw [gh_bits HM c5 c7] at h; exact absurd (show (7 : Int) = 0 from h) (by decide)
        · by_cases c6 : bs.length < p + 6
          · rw [gh_6 HM c5 c7 c6] at h; exact absurd (show (3 : Int) = 0 from h) (by decide)
          · by_cases cw : hw (bs.getD (p + 5) 0) = 0
            · rw [gh_win HM c5 c7 c6 cw] at h; exact absurd (show (7 : Int) = 0 from h) (by decide)
            · by_cases cd : (ZV bs p).2.2 = 0
              · by_cases cz : bs.getD (p + 4) 0 / 4 = 1 ∧ (ZV bs p).1 = 0
                · rw [gh_zero HM c7 c6 cw cd cz] at h; exact absurd (show (7 : Int) = 0 from h) (by decide)
                · by_cases cs : (Yu bs p (ZV bs p).2.1).2.2 = 0
                  · exact ⟨HM, c7, c6, cw, cd, cz, cs⟩
                  · rw [gh_size HM c7 c6 cw cd cz cs] at h; exact absurd h cs
              · rw [gh_dict HM c7 c6 cw cd] at h; exact absurd h cd
    · rw [gh_kind c1 c2] at h; exact absurd (show (6 : Int) = 0 from h) (by decide)
  · rw [gh_mk c1] at h; exact absurd h c1
theorem hdict_le {bs : List Int} {p : Nat} (h6 : ¬ bs.length < p + 6) (h : (ZV bs p).2.2 = 0) : p + 6 ≤ (ZV bs p).2.1 ∧ (ZV bs p).2.1 ≤ bs.length := by
  by_cases hd : bs.getD (p + 4) 0 / 4 = 1
  · have e : ZV bs p = ZE bs (p + 6) := if_pos hd
    rw [e] at h ⊢
    obtain ⟨h1, h2⟩ := gword_inv h
    rw [h2]; show p + 6 ≤ p + 6 + 4 ∧ p + 6 + 4 ≤ bs.length; omega
  · have e : ZV bs p = (0, p + 6, 0) := if_neg hd
    rw [e]; show p + 6 ≤ p + 6 ∧ p + 6 ≤ bs.length; omega
theorem hsize_le {bs : List Int} {p q : Nat} (hq : q ≤ bs.length) : q ≤ (Yu bs p q).2.1 ∧ (Yu bs p q).2.1 ≤ bs.length := by
  by_cases hd : bs.getD (p + 4) 0 % 2 = 1
  · have e : Yu bs p q = ZN bs q := if_pos hd
    rw [e]
    have := Yw bs q hq
    omega
  · have e : Yu bs p q = (-1, q, 0) := if_neg hd
    rw [e]; exact ⟨Nat.le_refl _, hq⟩
theorem ghead_ge {bs : List Int} {p : Nat} (h : (ZA bs p).2.2 = 0) : p + 6 ≤ (ZA bs p).2.1 ∧ (ZA bs p).2.1 ≤ bs.length := by
  obtain ⟨HM, c7, c6, cw, cd, cz, cs⟩ := ghead_inv h
  rw [gh_ok HM c7 c6 cw cd cz cs]
  have h1 := hdict_le c6 cd
  have h2 := hsize_le (bs := bs) (p := p) (q := (ZV bs p).2.1) h1.2
  show p + 6 ≤ (Yu bs p (ZV bs p).2.1).2.1 ∧ (Yu bs p (ZV bs p).2.1).2.1 ≤ bs.length
  omega
theorem gpart_inv {bs : List Int} {p : Nat} (h : (ZK bs p).2.2 = 0) :
    (hmk bs p).2 = 0 ∧ (((hmk bs p).1 = 1 ∧ (ZA bs p).2.2 = 0 ∧ (gb bs (ZA bs p).2.1).2.2 = 0 ∧ ((ZA bs p).1.2.2.2 = true → (ZE bs (gb bs (ZA bs p).2.1).2.1).2.2 = 0)) ∨ (¬ (hmk bs p).1 = 1 ∧ (Yc bs p).2.2 = 0)) := by
  by_cases c1 : (hmk bs p).2 = 0
  · refine ⟨c1, ?_⟩
    by_cases c2 : (hmk bs p).1 = 1
    · left
      by_cases c3 : (ZA bs p).2.2 = 0
      · by_cases c4 : (gb bs (ZA bs p).2.1).2.2 = 0
        · refine ⟨c2, c3, c4, fun c5 => ?_⟩
          by_cases c6 : (ZE bs (gb bs (ZA bs p).2.1).2.1).2.2 = 0
          · exact c6
          · rw [gp_word c1 c2 c3 c4 c5 c6] at h; exact absurd h c6
        · rw [gp_blk c1 c2 c3 c4] at h; exact absurd h c4
      · rw [gp_head c1 c2 c3] at h; exact absurd h c3
    · right
      by_cases c3 : (Yc bs p).2.2 = 0
      · exact ⟨c2, c3⟩
      · rw [gp_skerr c1 c2 c3] at h; exact absurd h c3
  · rw [gp_mk c1] at h; exact absurd h c1
theorem gpart_le {bs : List Int} {p : Nat} (h : (ZK bs p).2.2 = 0) : p + 8 ≤ (ZK bs p).2.1 ∧ (ZK bs p).2.1 ≤ bs.length ∧ (ZK bs p).1.at_ = p ∧ (ZK bs p).1.sz = (((ZK bs p).2.1 : Nat) : Int) - p := by
  obtain ⟨c1, h2 | h2⟩ := gpart_inv h
  · obtain ⟨c2, c3, c4, c5⟩ := h2
    have h3 := ghead_ge c3
    have h4 := gb_le _ c4
    by_cases cs : (ZA bs p).1.2.2.2 = true
    · obtain ⟨w1, w2⟩ := gword_inv (c5 cs)
      rw [gp_sum c1 c2 c3 c4 cs (c5 cs)]
      refine ⟨?_, ?_, rfl, rfl⟩
      · show p + 8 ≤ (ZE bs (gb bs (ZA bs p).2.1).2.1).2.1; rw [w2]; show p + 8 ≤ _ + 4; omega
      · show (ZE bs (gb bs (ZA bs p).2.1).2.1).2.1 ≤ bs.length; rw [w2]; exact w1
    · rw [gp_frame c1 c2 c3 c4 cs]
      refine ⟨?_, h4.2, rfl, rfl⟩
      show p + 8 ≤ (gb bs (ZA bs p).2.1).2.1; omega
  · obtain ⟨c2, c3⟩ := h2
    have := gskip_le c3
    rw [gp_skip c1 c2 c3]
    exact ⟨this.1, this.2.1, rfl, rfl⟩
def pts (bs : List Int) : Nat → Nat → List PT × Int
  | 0, p => ([], 0)
  | f + 1, p => if bs.length ≤ p then ([], 0) else if (ZK bs p).2.2 ≠ 0 then ([], (ZK bs p).2.2) else ((ZK bs p).1 :: (pts bs f (ZK bs p).2.1).1, (pts bs f (ZK bs p).2.1).2)
theorem pts_fuel (bs : List Int) : ∀ (f g p : Nat), bs.length ≤ p + f → bs.length ≤ p + g → pts bs f p = pts bs g p
  | 0, g, p, h, k => by
    cases g with
    | zero => rfl
    | succ g => unfold pts; rw [if_pos (by omega)]
  | f + 1, 0, p, h, k => by unfold pts; rw [if_pos (by omega)]
  | f + 1, g + 1, p, h, k => by
    unfold pts
    by_cases h0 : bs.length ≤ p
    · rw [if_pos h0, if_pos h0]
    · rw [if_neg h0, if_neg h0]
      by_cases h1 : (ZK bs p).2.2 ≠ 0
      · rw [if_pos h1, if_pos h1]
      · rw [if_neg h1, if_neg h1]
        have := gpart_le (Classical.not_not.1 h1)
        rw [pts_fuel bs f g (ZK bs p).2.1 (by omega) (by omega)]
def ga (bs : List Int) (p : Nat) : List PT × Int := pts bs bs.length p
theorem ga_end {bs : List Int} {p : Nat} (h : bs.length ≤ p) : ga bs p = ([], 0) := by
  unfold ga
  cases hl : bs.length with
  | zero => rfl
  | succ k => unfold pts; rw [if_pos h]
theorem ga_err {bs : List Int} {p : Nat} (h : p < bs.length) (h1 : ¬ (ZK bs p).2.2 = 0) : ga bs p = ([], (ZK bs p).2.2) := by
  unfold ga
  cases hl : bs.length with
  | zero => omega
  | succ k => unfold pts; rw [if_neg (by omega), if_pos h1]
theorem ga_more {bs : List Int} {p : Nat} (h : p < bs.length) (h1 : (ZK bs p).2.2 = 0) : ga bs p = ((ZK bs p).1 :: (ga bs (ZK bs p).2.1).1, (ga bs (ZK bs p).2.1).2) := by
  have h2 := gpart_le h1
  have e : ga bs (ZK bs p).2.1 = pts bs (bs.length - 1) (ZK bs p).2.1 := pts_fuel bs _ _ _ (by omega) (by omega)
  rw [e]
  unfold ga
  cases hl : bs.length with
  | zero => omega
  | succ k =>
    conv => lhs; unfold pts
    rw [if_neg (by omega), if_neg (not_not_intro h1)]
    rfl
theorem ga_ind {bs : List Int} {Q : Nat → Prop} (h0 : ∀ p, bs.length ≤ p → Q p) (h1 : ∀ p, p < bs.length → ¬ (ZK bs p).2.2 = 0 → Q p) (h2 : ∀ p, p < bs.length → (ZK bs p).2.2 = 0 → Q (ZK bs p).2.1 → Q p) (p : Nat) : Q p := by
  have key : ∀ f p, bs.length ≤ p + f → Q p := by
    intro f
    induction f with
    | zero => intro p hp; exact h0 p (by omega)
    | succ f ih =>
      intro p hp
      rcases Nat.lt_or_ge p bs.length with h3 | h3
      · by_cases he : (ZK bs p).2.2 = 0
        · exact h2 p h3 he (ih _ (by have := gpart_le he; omega))
        · exact h1 p h3 he
      · exact h0 p h3
  exact key bs.length p (by omega)
end Go.Proofs.YtbjjhfoeckkacaaGreatDoor
namespace Go.Proofs.YtbjjhfoeckkacaaGreatDoor
open Go.Fw
def Agr (A : List Int) (p : Nat) (B : List Int) (q n : Nat) : Prop := (A.drop p).take n = (B.drop q).take n ∧ p + n ≤ A.length ∧ q + n ≤ B.length
theorem Agr.sub {A B : List Int} {p q n : Nat} (h : Agr A p B q n) {i m : Nat} (hm : i + m ≤ n) : Agr A (p + i) B (q + i) m := by
  obtain ⟨h1, h2, h3⟩ := h
  refine ⟨?_, by omega, by omega⟩
  have e : ((A.drop p).take n).drop i = ((B.drop q).take n).drop i := by rw [h1]
  rw [List.drop_take, List.drop_take, List.drop_drop, List.drop_drop] at e
  have e2 := congrArg (List.take m) e
  rwa [List.take_take, List.take_take, Nat.min_eq_left (by omega)] at e2
theorem Agr.gd {A B : List Int} {p q n : Nat} (h : Agr A p B q n) {i : Nat} (hi : i < n) : B.getD (q + i) 0 = A.getD (p + i) 0 := by
  have e := congrArg (fun l : List Int => l.getD i 0) h.1
  simp only [gd_take hi, gd_drop] at e
  exact e.symm
theorem Agr.tk {A B : List Int} {p q n : Nat} (h : Agr A p B q n) {m : Nat} (hm : m ≤ n) : (B.drop q).take m = (A.drop p).take m := by
  have := (h.sub (i := 0) (m := m) (by omega)).1
  exact this.symm
theorem Agr.hmk {A B : List Int} {p q n : Nat} (h : Agr A p B q n) (hn : 4 ≤ n) : hmk B q = hmk A p := by
  have := h.2
  unfold Proofs.YtbjjhfoeckkacaaGreatDoor.hmk
  rw [if_neg (show ¬ B.length < q + 4 by omega), if_neg (show ¬ A.length < p + 4 by omega), h.tk hn]
theorem Agr.ZE {A B : List Int} {p q n : Nat} (h : Agr A p B q n) (hn : 4 ≤ n) : ZE A p = ((ZE A p).1, p + 4, 0) ∧ ZE B q = ((ZE A p).1, q + 4, 0) := by
  have := h.2
  unfold Proofs.YtbjjhfoeckkacaaGreatDoor.ZE
  rw [if_neg (by omega), if_neg (by omega), h.tk hn]
  exact ⟨rfl, rfl⟩
theorem Agr.ZW {A B : List Int} {p q n : Nat} (h : Agr A p B q n) {k : Int} (h0 : 0 ≤ k) (hn : k.toNat ≤ n) : ZW B q k = ((A.drop p).take k.toNat, q + k.toNat, 0) := by
  have := h.2
  rw [YR h0 (by omega), h.tk hn]
theorem Agr.ZN {A B : List Int} {p q n : Nat} (hA : Byt A) (h : Agr A p B q n) (h0 : (ZN A p).2.2 = 0) (hn : (ZN A p).2.1 ≤ p + n) : ZN B q = ((ZN A p).1, q + ((ZN A p).2.1 - p), 0) := by
  obtain ⟨g1, g2⟩ := gvar_once hA h0
  have hp := Yw A p (by have := h.2; omega)
  have hl : (vi (Proofs.YtbjjhfoeckkacaaGreatDoor.ZN A p).1).length = (Proofs.YtbjjhfoeckkacaaGreatDoor.ZN A p).2.1 - p := by omega
  have e : B.drop q = vi (Proofs.YtbjjhfoeckkacaaGreatDoor.ZN A p).1 ++ B.drop (q + ((Proofs.YtbjjhfoeckkacaaGreatDoor.ZN A p).2.1 - p)) := by
    rw [← g1, ← List.drop_drop, ← h.tk (by omega), List.take_append_drop]
  rw [gvar_vi hp.1 hp.2.1 e, hl]
theorem Agr.ZV {A B : List Int} {p q n : Nat} (h : Agr A p B q n) (h6 : 6 ≤ n) (h0 : (ZV A p).2.2 = 0) (hn : (ZV A p).2.1 ≤ p + n) : ZV B q = ((ZV A p).1, q + ((ZV A p).2.1 - p), 0) := by
  have g4 := h.gd (i := 4) (by omega)
  by_cases hd : A.getD (p + 4) 0 / 4 = 1
  · have eA : Proofs.YtbjjhfoeckkacaaGreatDoor.ZV A p = Proofs.YtbjjhfoeckkacaaGreatDoor.ZE A (p + 6) := if_pos hd
    have eB : Proofs.YtbjjhfoeckkacaaGreatDoor.ZV B q = Proofs.YtbjjhfoeckkacaaGreatDoor.ZE B (q + 6) := if_pos (by rw [g4]; exact hd)
    rw [eA] at h0 hn ⊢
    obtain ⟨w1, w2⟩ := gword_inv h0
    have hn2 : p + 6 + 4 ≤ p + n := by rw [w2] at hn; exact hn
    obtain ⟨k1, k2⟩ := (h.sub (i := 6) (m := 4) (by omega)).ZE (Nat.le_refl _)
    rw [eB, k2, k1]
    show (_, _, _) = (_, q + (p + 6 + 4 - p), _)
    rw [show q + (p + 6 + 4 - p) = q + 6 + 4 from by omega]
  · have eA : Proofs.YtbjjhfoeckkacaaGreatDoor.ZV A p = (0, p + 6, 0) := if_neg hd
    have eB : Proofs.YtbjjhfoeckkacaaGreatDoor.ZV B q = (0, q + 6, 0) := if_neg (by rw [g4]; exact hd)
    rw [eA, eB]
    show (_, _, _) = (_, q + (p + 6 - p), _)
    rw [show q + (p + 6 - p) = q + 6 from by omega]
theorem Agr.Yu {A B : List Int} {p q n i : Nat} (hA : Byt A) (h : Agr A p B q n) (h6 : 6 ≤ n) (hi : i ≤ n) (h0 : (Yu A p (p + i)).2.2 = 0) (hn : (Yu A p (p + i)).2.1 ≤ p + n) : Yu B q (q + i) = ((Yu A p (p + i)).1, q + ((Yu A p (p + i)).2.1 - p), 0) := by
  have g4 := h.gd (i := 4) (by omega)
  by_cases hd : A.getD (p + 4) 0 % 2 = 1
  · have eA : Proofs.YtbjjhfoeckkacaaGreatDoor.Yu A p (p + i) = Proofs.YtbjjhfoeckkacaaGreatDoor.ZN A (p + i) := if_pos hd
    have eB : Proofs.YtbjjhfoeckkacaaGreatDoor.Yu B q (q + i) = Proofs.YtbjjhfoeckkacaaGreatDoor.ZN B (q + i) := if_pos (by rw [g4]; exact hd)
    rw [eA] at h0 hn ⊢
    have hp := Yw A (p + i) (by have := h.2; omega)
    rw [eB, (h.sub (i := i) (m := n - i) (by omega)).ZN hA h0 (by omega), show q + i + ((Proofs.YtbjjhfoeckkacaaGreatDoor.ZN A (p + i)).2.1 - (p + i)) = q + ((Proofs.YtbjjhfoeckkacaaGreatDoor.ZN A (p + i)).2.1 - p) from by omega]
  · have eA : Proofs.YtbjjhfoeckkacaaGreatDoor.Yu A p (p + i) = (-1, p + i, 0) := if_neg hd
    have eB : Proofs.YtbjjhfoeckkacaaGreatDoor.Yu B q (q + i) = (-1, q + i, 0) := if_neg (by rw [g4]; exact hd)
    rw [eA, eB]
    show (_, _, _) = (_, q + (p + i - p), _)
    rw [show q + (p + i - p) = q + i from by omega]
theorem Agr.ZA {A B : List Int} {p q n : Nat} (hA : Byt A) (h : Agr A p B q n) (h0 : (ZA A p).2.2 = 0) (hn : (ZA A p).2.1 ≤ p + n) : ZA B q = ((ZA A p).1, q + ((ZA A p).2.1 - p), 0) := by
  have hg := ghead_ge h0
  obtain ⟨HM, c7, c6, cw, cd, cz, cs⟩ := ghead_inv h0
  have e := gh_ok HM c7 c6 cw cd cz cs
  have hd := hdict_le c6 cd
  have hs := hsize_le (bs := A) (p := p) (q := (Proofs.YtbjjhfoeckkacaaGreatDoor.ZV A p).2.1) hd.2
  have e1 : (Proofs.YtbjjhfoeckkacaaGreatDoor.ZA A p).2.1 = (Proofs.YtbjjhfoeckkacaaGreatDoor.Yu A p (Proofs.YtbjjhfoeckkacaaGreatDoor.ZV A p).2.1).2.1 := by rw [e]
  have g4 := h.gd (i := 4) (by omega)
  have g5 := h.gd (i := 5) (by omega)
  have kd := h.ZV (by omega) cd (by omega)
  have ej : p + ((Proofs.YtbjjhfoeckkacaaGreatDoor.ZV A p).2.1 - p) = (Proofs.YtbjjhfoeckkacaaGreatDoor.ZV A p).2.1 := by omega
  have ks := h.Yu (i := (Proofs.YtbjjhfoeckkacaaGreatDoor.ZV A p).2.1 - p) hA (by omega) (by omega) (by rw [ej]; exact cs) (by rw [ej]; omega)
  rw [ej] at ks
  have hm := h.hmk (by omega)
  have kd1 : (Proofs.YtbjjhfoeckkacaaGreatDoor.ZV B q).2.1 = q + ((Proofs.YtbjjhfoeckkacaaGreatDoor.ZV A p).2.1 - p) := by rw [kd]
  have hB := h.2.2
  rw [gh_ok (bs := B) (p := q) ⟨by rw [hm]; exact HM.1, by rw [hm]; exact HM.2⟩ (by rw [g4]; exact c7) (by omega) (by rw [g5]; exact cw) (by rw [kd]) (by rw [g4, kd]; exact cz) (by rw [kd1, ks]), kd1, ks, g4, g5, e]
  rw [kd]
theorem Agr.bnum {A B : List Int} {p q n : Nat} (h : Agr A p B q n) (hn : 3 ≤ n) : bnum B q = bnum A p := by
  have g0 := h.gd (i := 0) (by omega)
  have g1 := h.gd (i := 1) (by omega)
  have g2 := h.gd (i := 2) (by omega)
  unfold Proofs.YtbjjhfoeckkacaaGreatDoor.bnum
  rw [g1, g2]
  rw [Nat.add_zero, Nat.add_zero] at g0
  rw [g0]
def bsh (d : Int) (x : BK) : BK := (x.1 + d, x.2)
theorem Agr.blk {A B : List Int} {p q n : Nat} (h : Agr A p B q n) (h0 : berr A p = 0) (hn : bnx A p ≤ p + n) : berr B q = 0 ∧ bk B q = bsh ((q : Int) - p) (bk A p) ∧ bnx B q = q + (bnx A p - p) ∧ bla B q = bla A p := by
  have hx := bnx_le h0
  have hi := berr_inv h0
  have e := h.bnum (by omega)
  have e1 : bkd B q = bkd A p := by unfold bkd; rw [e]
  have e2 : bsz B q = bsz A p := by unfold bsz; rw [e]
  have e3 : bla B q = bla A p := by unfold bla; rw [e]
  have e4 : bst B q = bst A p := by unfold bst; rw [e1, e2]
  have hB := h.2.2
  have hu : bnx A p = p + 3 + (bst A p).toNat := rfl
  refine ⟨berr_ok (by omega) (by rw [e1]; exact hi.2.1) (by rw [e4]; omega), ?_, ?_, e3⟩
  · unfold bk bsh
    rw [e1, e2, e3, e4]
    simp only [Prod.mk.injEq, and_true]
    omega
  · unfold bnx; rw [e4]; omega
theorem Agr.gb {A B : List Int} {p q n : Nat} (h : Agr A p B q n) (h0 : (gb A p).2.2 = 0) (hn : (gb A p).2.1 ≤ p + n) : gb B q = ((gb A p).1.map (bsh ((q : Int) - p)), q + ((gb A p).2.1 - p), 0) := by
  revert q n
  refine gb_ind (bs := A) (Q := fun p => (Proofs.YtbjjhfoeckkacaaGreatDoor.gb A p).2.2 = 0 → ∀ {q n : Nat}, Agr A p B q n → (Proofs.YtbjjhfoeckkacaaGreatDoor.gb A p).2.1 ≤ p + n → Proofs.YtbjjhfoeckkacaaGreatDoor.gb B q = ((Proofs.YtbjjhfoeckkacaaGreatDoor.gb A p).1.map (bsh ((q : Int) - p)), q + ((Proofs.YtbjjhfoeckkacaaGreatDoor.gb A p).2.1 - p), 0)) ?_ ?_ ?_ p h0
  · intro p h1 h2; rw [gb_err h1] at h2; exact absurd h2 h1
  · intro p h1 h2 h0 q n h hn
    rw [gb_last h1 h2] at hn ⊢
    obtain ⟨k1, k2, k3, k4⟩ := h.blk h1 hn
    rw [gb_last k1 (by rw [k4]; exact h2), k2, k3]
    rfl
  · intro p h1 h2 ih h0 q n h hn
    have e := gb_more h1 h2
    rw [e] at h0 hn ⊢
    have hx := bnx_le h1
    have hl := gb_le _ h0
    have hn' : (Proofs.YtbjjhfoeckkacaaGreatDoor.gb A (bnx A p)).2.1 ≤ p + n := hn
    obtain ⟨k1, k2, k3, k4⟩ := h.blk h1 (by omega)
    rw [gb_more k1 (by rw [k4]; exact h2), k2, k3]
    have hs : Agr A (bnx A p) B (q + (bnx A p - p)) (n - (bnx A p - p)) := by
      have := h.sub (i := bnx A p - p) (m := n - (bnx A p - p)) (by omega)
      rwa [show p + (bnx A p - p) = bnx A p from by omega] at this
    rw [ih h0 hs (by omega)]
    have ed : (((q + (bnx A p - p) : Nat) : Int) - ((bnx A p : Nat) : Int)) = (q : Int) - p := by omega
    rw [ed]
    show (_ :: _, _, _) = (_ :: _, _, _)
    rw [show q + (bnx A p - p) + ((Proofs.YtbjjhfoeckkacaaGreatDoor.gb A (bnx A p)).2.1 - bnx A p) = q + ((Proofs.YtbjjhfoeckkacaaGreatDoor.gb A (bnx A p)).2.1 - p) from by omega]
def psh (d : Int) (x : PT) : PT := { x with at_ := x.at_ + d, bl := x.bl.map (bsh d) }
theorem Agr.Yc {A B : List Int} {p q n : Nat} (h : Agr A p B q n) (h0 : (Yc A p).2.2 = 0) (hn : (Yc A p).2.1 ≤ p + n) : Yc B q = ((Yc A p).1, q + ((Yc A p).2.1 - p), 0) := by
  have hl := gskip_le h0
  obtain ⟨h1, h2, h3, h4, h5⟩ := gskip_ok h0
  obtain ⟨b1, b2, b3⟩ := gbytes_inv h4
  have hm := h.hmk (by omega)
  obtain ⟨k1, k2⟩ := (h.sub (i := 4) (m := 4) (by omega)).ZE (Nat.le_refl _)
  have e2 : (Proofs.YtbjjhfoeckkacaaGreatDoor.Yc A p).2.1 = p + 8 + (Proofs.YtbjjhfoeckkacaaGreatDoor.ZE A (p + 4)).1.toNat := by rw [h5, b3]
  have kb := (h.sub (i := 8) (m := n - 8) (by omega)).ZW b1 (by omega)
  have hw : (Proofs.YtbjjhfoeckkacaaGreatDoor.ZE B (q + 4)).1 = (Proofs.YtbjjhfoeckkacaaGreatDoor.ZE A (p + 4)).1 := by rw [k2]
  rw [gs_ok (bs := B) (p := q) (by rw [hm]; exact h1) (by rw [hm]; exact h2) (by rw [k2]) (by rw [hw, kb]), hw, kb, e2, h5, b3]
  show (_, _, _) = (_, _, _)
  rw [show q + (p + 8 + (Proofs.YtbjjhfoeckkacaaGreatDoor.ZE A (p + 4)).1.toNat - p) = q + 8 + (Proofs.YtbjjhfoeckkacaaGreatDoor.ZE A (p + 4)).1.toNat from by omega]
theorem pt_eq {d a a' s s' l c : Int} {k : Bool} {h : Hd} {bl bl' : List BK} {n n' : Nat} (h1 : a' = a + d) (h2 : s' = s) (h3 : bl' = bl.map (bsh d)) (h4 : n' = n) :
    ((⟨a', s', k, l, h, bl', c⟩ : PT), n', (0 : Int)) = (psh d ⟨a, s, k, l, h, bl, c⟩, n, 0) := by subst h1 h2 h3 h4; rfl
theorem Agr.ZK {A B : List Int} {p q n : Nat} (hA : Byt A) (h : Agr A p B q n) (h0 : (ZK A p).2.2 = 0) (hn : (ZK A p).2.1 ≤ p + n) : ZK B q = (psh ((q : Int) - p) (ZK A p).1, q + ((ZK A p).2.1 - p), 0) := by
  have hl := gpart_le h0
  obtain ⟨c1, h2 | h2⟩ := gpart_inv h0
  · obtain ⟨c2, c3, c4, c5⟩ := h2
    have hg := ghead_ge c3
    have hb := gb_le _ c4
    have hm := h.hmk (by omega)
    obtain ⟨H, hH⟩ : ∃ H, H = (Proofs.YtbjjhfoeckkacaaGreatDoor.ZA A p).2.1 := ⟨_, rfl⟩
    obtain ⟨E, hE⟩ : ∃ E, E = (Proofs.YtbjjhfoeckkacaaGreatDoor.gb A H).2.1 := ⟨_, rfl⟩
    have hE2 : E ≤ p + n ∧ ((Proofs.YtbjjhfoeckkacaaGreatDoor.ZA A p).1.2.2.2 = true → E + 4 ≤ p + n) := by
      by_cases cs : (Proofs.YtbjjhfoeckkacaaGreatDoor.ZA A p).1.2.2.2 = true
      · obtain ⟨w1, w2⟩ := gword_inv (c5 cs)
        rw [gp_sum c1 c2 c3 c4 cs (c5 cs)] at hn
        have hn : (Proofs.YtbjjhfoeckkacaaGreatDoor.ZE A (Proofs.YtbjjhfoeckkacaaGreatDoor.gb A (Proofs.YtbjjhfoeckkacaaGreatDoor.ZA A p).2.1).2.1).2.1 ≤ p + n := hn
        rw [w2] at hn
        have hn : (Proofs.YtbjjhfoeckkacaaGreatDoor.gb A (Proofs.YtbjjhfoeckkacaaGreatDoor.ZA A p).2.1).2.1 + 4 ≤ p + n := hn
        rw [← hH, ← hE] at hn
        exact ⟨by omega, fun _ => hn⟩
      · rw [gp_frame c1 c2 c3 c4 cs] at hn
        have hn : (Proofs.YtbjjhfoeckkacaaGreatDoor.gb A (Proofs.YtbjjhfoeckkacaaGreatDoor.ZA A p).2.1).2.1 ≤ p + n := hn
        rw [← hH, ← hE] at hn
        exact ⟨hn, fun h => absurd h cs⟩
    rw [← hH] at c4 c5 hg hb
    rw [← hE] at c5 hb
    have kg := h.ZA hA c3 (by omega)
    rw [← hH] at kg
    have hs : Agr A H B (q + (H - p)) (n - (H - p)) := by
      have := h.sub (i := H - p) (m := n - (H - p)) (by omega)
      rwa [show p + (H - p) = H from by omega] at this
    have kb := hs.gb c4 (by omega)
    rw [← hE] at kb
    have ed : (((q + (H - p) : Nat) : Int) - (H : Int)) = (q : Int) - p := by omega
    rw [ed] at kb
    have g1 : (Proofs.YtbjjhfoeckkacaaGreatDoor.ZA B q).2.1 = q + (H - p) := by rw [kg]
    have g0 : (Proofs.YtbjjhfoeckkacaaGreatDoor.ZA B q).1 = (Proofs.YtbjjhfoeckkacaaGreatDoor.ZA A p).1 := by rw [kg]
    have b1 : (Proofs.YtbjjhfoeckkacaaGreatDoor.gb B (q + (H - p))).2.1 = q + (H - p) + (E - H) := by rw [kb]
    have b0 : (Proofs.YtbjjhfoeckkacaaGreatDoor.gb B (q + (H - p))).1 = (Proofs.YtbjjhfoeckkacaaGreatDoor.gb A H).1.map (bsh ((q : Int) - p)) := by rw [kb]
    have m1 : (Proofs.YtbjjhfoeckkacaaGreatDoor.hmk B q).2 = 0 := by rw [hm]; exact c1
    have m2 : (Proofs.YtbjjhfoeckkacaaGreatDoor.hmk B q).1 = 1 := by rw [hm]; exact c2
    by_cases cs : (Proofs.YtbjjhfoeckkacaaGreatDoor.ZA A p).1.2.2.2 = true
    · obtain ⟨w1, w2⟩ := gword_inv (c5 cs)
      have hs2 : Agr A E B (q + (E - p)) 4 := by
        have := h.sub (i := E - p) (m := 4) (by have := hE2.2 cs; omega)
        rwa [show p + (E - p) = E from by omega] at this
      obtain ⟨k1, k2⟩ := hs2.ZE (Nat.le_refl _)
      have eq1 : q + (H - p) + (E - H) = q + (E - p) := by omega
      rw [gp_sum (bs := B) (p := q) m1 m2 (by rw [kg]) (by rw [g1, kb]) (by rw [g0]; exact cs) (by rw [g1, b1, eq1, k2]), gp_sum (bs := A) (p := p) c1 c2 c3 (by rw [← hH]; exact c4) cs (by rw [← hH, ← hE]; exact c5 cs), g1, b1, b0, g0, eq1, k2, ← hH, ← hE, k1]
      dsimp only
      exact pt_eq (by omega) (by omega) rfl (by omega)
    · rw [gp_frame (bs := B) (p := q) m1 m2 (by rw [kg]) (by rw [g1, kb]) (by rw [g0]; exact cs), gp_frame (bs := A) (p := p) c1 c2 c3 (by rw [← hH]; exact c4) cs, g1, b1, b0, g0, ← hH, ← hE]
      dsimp only
      exact pt_eq (by omega) (by omega) rfl (by omega)
  · obtain ⟨c2, c3⟩ := h2
    have hk := gskip_le c3
    have hm := h.hmk (by omega)
    have e := gp_skip c1 c2 c3
    have e1 : (Proofs.YtbjjhfoeckkacaaGreatDoor.ZK A p).2.1 = (Proofs.YtbjjhfoeckkacaaGreatDoor.Yc A p).2.1 := by rw [e]
    have ks := h.Yc c3 (by omega)
    rw [gp_skip (bs := B) (p := q) (by rw [hm]; exact c1) (by rw [hm]; exact c2) (by rw [ks]), e, ks]
    dsimp only
    exact pt_eq (by omega) (by omega) rfl rfl
end Go.Proofs.YtbjjhfoeckkacaaGreatDoor
namespace Go.Proofs.YtbjjhfoeckkacaaGreatDoor
open Go.Fw
/-! ### a prefix -/
end Go.Proofs.YtbjjhfoeckkacaaGreatDoor
namespace Go.Proofs.YtbjjhfoeckkacaaGreatDoor
open Go.Fw
theorem e64 : (2 ^ IntKind.i64.bits : Int) = 18446744073709551616 := by decide
theorem orN {a b k : Nat} (h : a < 2 ^ k) : a ||| (b * 2 ^ k) = a + b * 2 ^ k := by
  rw [Nat.or_comm, Nat.mul_comm b, ← Nat.two_pow_add_eq_or_of_lt h]; omega
theorem or_i64 {a b : Int} (k : Nat) (c : Int) (hc : c = ((2 ^ k : Nat) : Int)) (h0 : 0 ≤ a) (h1 : a < c) (g0 : 0 ≤ b) (g1 : a + b * c < 9223372036854775808) :
    IntKind.i64.wrap (((a % 2 ^ IntKind.i64.bits).toNat ||| ((b * c) % 2 ^ IntKind.i64.bits).toNat : Nat) : Int) = a + b * c := by
  have hbc : 0 ≤ b * c := Int.mul_nonneg g0 (by omega)
  rw [e64, show a % 18446744073709551616 = a from by omega, show (b * c) % 18446744073709551616 = b * c from by omega]
  have e : (b * c).toNat = b.toNat * 2 ^ k := by
    have h2 : ((b.toNat * 2 ^ k : Nat) : Int) = b * c := by rw [Int.natCast_mul, hc, Int.toNat_of_nonneg g0]
    omega
  rw [e, orN (by omega)]
  have h2 : ((b.toNat * 2 ^ k : Nat) : Int) = b * c := by rw [Int.natCast_mul, hc, Int.toNat_of_nonneg g0]
  rw [ZY (by omega) (by omega)]
  omega
theorem and1_i64 {x : Int} (h0 : 0 ≤ x) (h1 : x < 9223372036854775808) : IntKind.i64.wrap (((x % 2 ^ IntKind.i64.bits).toNat &&& ((1 : Int) % 2 ^ IntKind.i64.bits).toNat : Nat) : Int) = x % 2 := by
  rw [e64, show x % 18446744073709551616 = x from by omega, show ((1 : Int) % 18446744073709551616).toNat = 2 ^ 1 - 1 from by decide, Nat.and_two_pow_sub_one_eq_mod]
  rw [ZY (by omega) (by omega)]; omega
theorem and3_i64 {x : Int} (h0 : 0 ≤ x) (h1 : x < 9223372036854775808) : IntKind.i64.wrap (((x % 2 ^ IntKind.i64.bits).toNat &&& ((3 : Int) % 2 ^ IntKind.i64.bits).toNat : Nat) : Int) = x % 4 := by
  rw [e64, show x % 18446744073709551616 = x from by omega, show ((3 : Int) % 18446744073709551616).toNat = 2 ^ 2 - 1 from by decide, Nat.and_two_pow_sub_one_eq_mod]
  rw [ZY (by omega) (by omega)]; omega
theorem shl8_i64 {x : Int} (h0 : 0 ≤ x) (h1 : x < 256) : IntKind.i64.wrap (x * 2 ^ (min (8 : Int).toNat IntKind.i64.bits)) = x * 256 := by
  rw [show (2 : Int) ^ (min (8 : Int).toNat IntKind.i64.bits) = 256 from by decide]; exact ZY (by omega) (by omega)
theorem shl16_i64 {x : Int} (h0 : 0 ≤ x) (h1 : x < 256) : IntKind.i64.wrap (x * 2 ^ (min (16 : Int).toNat IntKind.i64.bits)) = x * 65536 := by
  rw [show (2 : Int) ^ (min (16 : Int).toNat IntKind.i64.bits) = 65536 from by decide]; exact ZY (by omega) (by omega)
theorem bnum_cut {bs : List Int} {p : Nat} : ((bs.drop p).take 3).getD 0 0 + ((bs.drop p).take 3).getD 1 0 * 256 + ((bs.drop p).take 3).getD 2 0 * 65536 = bnum bs p := by
  rw [gd_cut (by decide), gd_cut (by decide), gd_cut (by decide), Nat.add_zero]
  unfold bnum; omega
end Go.Proofs.YtbjjhfoeckkacaaGreatDoor
namespace Go.Proofs.YtbjjhfoeckkacaaGreatDoor
open Go.Fw
theorem bla_iff {bs : List Int} {p : Nat} : bnum bs p % 2 = 1 ↔ bla bs p = true := decide_eq_true_iff.symm
theorem berr_gb {bs : List Int} {p : Nat} (h : ¬ bs.length < p + 3) (h2 : ¬ bkd bs p = 3) (h0 : 0 ≤ bst bs p) :
    berr bs p = (ZW bs (p + 3) (bst bs p)).2.2 ∧ ((ZW bs (p + 3) (bst bs p)).2.2 = 0 → (ZW bs (p + 3) (bst bs p)).2.1 = bnx bs p) := by
  rcases Int.lt_or_le ((bs.length : Int) - ((p + 3 : Nat) : Int)) (bst bs p) with h1 | h1
  · rw [YP h0 h1, berr_long h h2 (by omega)]
    exact ⟨rfl, fun h => absurd (show (3 : Int) = 0 from h) (by decide)⟩
  · rw [YR h0 h1, berr_ok h h2 (by omega)]
    exact ⟨rfl, fun _ => rfl⟩
def encK (x : BK) : List Value := [.int .i64 x.1, .int .i64 x.2.1, .int .i64 x.2.2.1, .int .i64 x.2.2.2.1, .bool (decide (x.2.2.2.2 = true))]
theorem Y2 (x : BK) : (encK x).length = 5 := rfl
theorem encK_one (x : BK) : ∀ u ∈ encK x, u.oneCell' = true := by intro u hu; simp [encK] at hu; rcases hu with rfl | rfl | rfl | rfl | rfl <;> rfl
abbrev PV := PT × Option Addr × Nat × Nat
def pv0 : PV := (pt0, none, 0, 0)
def encP (x : PV) : List Value := [.int .i64 x.1.at_, .int .i64 x.1.sz, .bool (decide (x.1.sk = true)), .int .i64 x.1.pl, .int .i64 x.1.hd.1, .int .i64 x.1.hd.2.1, .int .u32 x.1.hd.2.2.1, .bool (decide (x.1.hd.2.2.2 = true)), .slice x.2.1 x.2.2.1 x.2.2.2, .int .u32 x.1.ck]
theorem encP_len (x : PV) : (encP x).length = 10 := rfl
theorem encP_one (x : PV) : ∀ u ∈ encP x, u.oneCell' = true := by intro u hu; simp [encP] at hu; rcases hu with rfl | rfl | rfl | rfl | rfl | rfl | rfl | rfl | rfl | rfl <;> rfl
def Pb (w : World) (lo hi go : Nat) (x : PV) : Prop := Sl w (fun g => lo ≤ g ∧ g < hi ∧ g ≠ go) 5 (.slice x.2.1 x.2.2.1 x.2.2.2) x.2.2.1 (rows encK x.1.bl)
def Pbs (w : World) (lo hi go : Nat) (l : List PV) : Prop := ∀ x ∈ l, Pb w lo hi go x
theorem Pbs.upd {w w' : World} {lo hi go : Nat} {l : List PV} {S : Nat → Prop} (h : Pbs w lo hi go l) (hu : Upd S w w') (hS : ∀ g, S g → g < lo ∨ hi ≤ g ∨ g = go := by intro _ _; omega) : Pbs w' lo hi go l :=
  fun x hx => (h x hx).upd hu fun g hg hs => by have := hS g hs; omega
theorem Pbs.Zc {w w' : World} {lo hi go : Nat} {l : List PV} (h : Pbs w lo hi go l) (hu : Upd No w w') : Pbs w' lo hi go l := h.upd hu fun _ x => x.elim
theorem Pbs.Zh {w w' : World} {lo hi go x : Nat} {l : List PV} (h : Pbs w lo hi go l) (hu : Upd (Is x) w w') (hx : x < lo ∨ hi ≤ x ∨ x = go := by omega) : Pbs w' lo hi go l := h.upd hu fun g hg => by cases hg; exact hx
theorem Pbs.nil (w : World) (lo hi go : Nat) : Pbs w lo hi go [] := fun x hx => by cases hx
theorem Pbs.wide {w : World} {lo hi go hi' go' : Nat} {l : List PV} (h : Pbs w lo hi go l) (h1 : hi ≤ hi') (h2 : go' = go ∨ hi ≤ go') : Pbs w lo hi' go' l :=
  fun x hx => Sl.weak (h x hx) fun g hg => by omega
theorem Pbs.low {w : World} {lo lo' hi go : Nat} {l : List PV} (h : Pbs w lo hi go l) (h1 : lo' ≤ lo) : Pbs w lo' hi go l := fun x hx => Sl.weak (h x hx) fun g hg => by omega
theorem Pbs.snoc {w : World} {lo hi go : Nat} {l : List PV} {x : PV} (h : Pbs w lo hi go l) (hx : Pb w lo hi go x) : Pbs w lo hi go (l ++ [x]) := fun y hy => by
  rcases List.mem_append.1 hy with h1 | h1
  · exact h y h1
  · rw [List.mem_singleton.1 h1]; exact hx
theorem Pbs.get {w : World} {lo hi go : Nat} {l : List PV} (h : Pbs w lo hi go l) {i : Nat} (hi2 : i < l.length) : Pb w lo hi go (l.getD i pv0) := by
  rw [List.getD_eq_getElem?_getD, List.getElem?_eq_getElem hi2]; exact h _ (List.getElem_mem hi2)
def Pts (w : World) (lo hi : Nat) (a : Option Addr) (n c : Nat) (l : List PT) : Prop :=
  ∃ vs : List PV, vs.map (·.1) = l ∧ Sl w (fun g => lo ≤ g ∧ g < hi) 10 (.slice a n c) n (rows encP vs) ∧ Pbs w lo hi hi vs
theorem Pts.upd {w w' : World} {lo hi n c : Nat} {a : Option Addr} {l : List PT} {S : Nat → Prop} (h : Pts w lo hi a n c l) (hu : Upd S w w') (hS : ∀ g, S g → g < lo ∨ hi ≤ g := by intro _ _; omega) : Pts w' lo hi a n c l := by
  obtain ⟨vs, h1, h2, h3⟩ := h
  exact ⟨vs, h1, h2.upd hu (fun g hg hs => by have := hS g hs; omega), h3.upd hu fun g hs => by have := hS g hs; omega⟩
theorem Pts.Zc {w w' : World} {lo hi n c : Nat} {a : Option Addr} {l : List PT} (h : Pts w lo hi a n c l) (hu : Upd No w w') : Pts w' lo hi a n c l := h.upd hu fun _ x => x.elim
theorem Pts.Zh {w w' : World} {lo hi n c x : Nat} {a : Option Addr} {l : List PT} (h : Pts w lo hi a n c l) (hu : Upd (Is x) w w') (hx : x < lo ∨ hi ≤ x := by omega) : Pts w' lo hi a n c l := h.upd hu fun g hg => by cases hg; exact hx
theorem Pts.nil (w : World) (lo hi : Nat) : Pts w lo hi none 0 0 [] := ⟨[], rfl, Sl.nil _ _ _, Pbs.nil _ _ _ _⟩
theorem Pts.len {w : World} {lo hi n c : Nat} {a : Option Addr} {l : List PT} (h : Pts w lo hi a n c l) : l.length = n := by
  obtain ⟨vs, h1, h2, _⟩ := h
  rw [← h1, List.length_map]; exact Ya encP_len (by decide) h2
theorem Pts.cap {w : World} {lo hi n c : Nat} {a : Option Addr} {l : List PT} (h : Pts w lo hi a n c l) : n ≤ c ∧ c ≤ maxLen := let ⟨_, _, h2, _⟩ := h; h2.cap
theorem Pts.of {w : World} {lo hi go n c : Nat} {a : Option Addr} {vs : List PV} {R : Nat → Prop} (h : Sl w R 10 (.slice a n c) n (rows encP vs)) (hR : ∀ g, R g → lo ≤ g ∧ g < hi) (hP : Pbs w lo hi go vs) : Pts w lo hi a n c (vs.map (·.1)) :=
  ⟨vs, rfl, h.weak hR, fun x hx => Sl.weak (hP x hx) fun g hg => by omega⟩
theorem map_gd {vs : List PV} {i : Nat} : (vs.map (·.1)).getD i pt0 = (vs.getD i pv0).1 := by
  rw [List.getD_eq_getElem?_getD, List.getD_eq_getElem?_getD, List.getElem?_map]
  cases vs[i]? <;> rfl
end Go.Proofs.YtbjjhfoeckkacaaGreatDoor
namespace Go.Fw
section
variable {P : Program} {ro : Option Nat} {w : World} {ρ : Operand → Value} {d : Option Tmp} {t : TypeId} {p : String} {e : Array Edge} {g : Option (Nat × Bool)}
theorem strOfNums_size (a : List Int) : (strOfNums a).size = a.length := by show (List.toArray _).size = _; simp
theorem strOfNums_app (a b : List Int) : strOfNums a ++ strOfNums b = strOfNums (a ++ b) := by
  apply ByteArray.ext
  rw [ByteArray.data_append]
  simp [strOfNums]
theorem r_addstr {xt yt : TypeId} {x y : Operand} {a b : List Int} (hx : ρ x = .string (strOfNums a)) (hy : ρ y = .string (strOfNums b)) (hl : a.length + b.length ≤ 9223372036854775807) :
    (Oper.semAt ro ρ ⟨d, .binOp .add xt x y yt, t, p, e, g⟩).run P w = .ok (.value (.string (strOfNums (a ++ b)))) w := by
  rw [ZT (by simp)]
  have h : ¬ (((strOfNums a).size + (strOfNums b).size : Nat) : Int) > IntKind.i64.max := by rw [strOfNums_size, strOfNums_size]; show ¬ _ > (9223372036854775807 : Int); omega
  simp only [execOp, hx, hy, eqGuard, binOp, Op.stringOp, if_neg h, strOfNums_app]; simp
theorem r_slicearrh {at' et : TypeId} {x z : Operand} {sz len b : Nat} {k' : IntKind} {h : Int} {h' : Nat} (hu : P.underlying at' = some (.array len et)) (hsz : ∀ w, (sizeOf et).run P w = .ok sz w) (hx : ρ x = .pointer (some ⟨b, 0, none⟩))
    (hz : ρ z = .int k' h) (hh : h = h') (h2 : h' ≤ len) :
    (Oper.semAt ro ρ ⟨d, .slice at' x none (some z) none, t, p, e, g⟩).run P w = .ok (.value (.slice (some ⟨b, 0, none⟩) h' len)) w := by
  subst hh
  have e1 : ¬ len < h' := by omega
  have e3 : (⟨b, 0, none⟩ : Addr).add 0 = ⟨b, 0, none⟩ := rfl
  rw [ZT (by simp)]; simp [execOp, hx, hz, Instr.sliceAt, Instr.sliceBounds, Instr.sliceBound, asIntOf, run_underlying hu, hsz, Instr.sureAddr, e1, e3]
end
end Go.Fw
namespace Go.Proofs.YtbjjhfoeckkacaaGreatDoor
open Go.Fw Go.RowKit
theorem upd_of_below {w w' : World} (h : Below w.heap.size w w') : Upd No w w' := ⟨h.os, h.tape, h.output, h.size, fun b hb _ => h.block b hb⟩
theorem below_of_upd {w w' : World} {B : Nat} {S : Nat → Prop} (h : Upd S w w') (hB : B ≤ w.heap.size) (hS : ∀ g, S g → B ≤ g) : Below B w w' :=
  ⟨h.os, h.tape, h.output, h.size, fun k hk => h.block k (by omega) fun hs => by have := hS k hs; omega⟩
theorem upd_of_belowS {w w' : World} {B : Nat} (h : Below B w w') : Upd (fun g => B ≤ g) w w' := ⟨h.os, h.tape, h.output, h.size, fun b hb hs => h.block b (Nat.lt_of_not_le hs)⟩
def Tab (w : World) (g0 : Nat) : Prop := g0 ≤ w.heap.size ∧ Lib.TabBelow Tryz.prog g0 w "internal/strconv.uint64pow10" .u64 Lib.pow10Tab
theorem Tab.upd {w w' : World} {g0 : Nat} {S : Nat → Prop} (h : Tab w g0) (hu : Upd S w w') (hS : ∀ g, S g → g0 ≤ g := by intro _ _; omega) : Tab w' g0 := ⟨Nat.le_trans h.1 hu.size, h.2.on (below_of_upd hu h.1 hS)⟩
theorem Tab.Zc {w w' : World} {g0 : Nat} (h : Tab w g0) (hu : Upd No w w') : Tab w' g0 := h.upd hu fun _ x => x.elim
theorem Tab.Zh {w w' : World} {g0 x : Nat} (h : Tab w g0) (hu : Upd (Is x) w w') (hx : g0 ≤ x := by omega) : Tab w' g0 := h.upd hu fun g hg => by cases hg; exact hx
def nums (l : List UInt8) : List Int := l.map fun c => ((c.toNat : Nat) : Int)
theorem nums_len (l : List UInt8) : (nums l).length = l.length := by simp [nums]
theorem nums_app (a b : List UInt8) : nums (a ++ b) = nums a ++ nums b := by simp [nums]
theorem nums_byt (l : List UInt8) : Byt (nums l) := by
  intro x hx
  obtain ⟨c, _, rfl⟩ := List.mem_map.1 hx
  have := c.toNat_lt
  omega
theorem ba_nums (l : List UInt8) : (⟨l.toArray⟩ : ByteArray) = strOfNums (nums l) := by
  have h : (nums l).map (fun n => UInt8.ofNat n.toNat) = l := by
    induction l with
    | nil => rfl
    | cons c l ih =>
      simp only [nums, List.map_cons] at ih ⊢
      rw [ih]
      congr 1
      show UInt8.ofNat c.toNat = c
      exact UInt8.ofNat_toNat
  show (⟨l.toArray⟩ : ByteArray) = ⟨((nums l).map fun n => UInt8.ofNat n.toNat).toArray⟩
  rw [h]
theorem strOfNums_nums {l : List Int} (h : Byt l) : nums ((strOfNums l).data.toList) = l := by
  induction l with
  | nil => rfl
  | cons a t ih =>
    have ha := h a (by simp)
    have := ih fun x hx => h x (by simp [hx])
    simp only [strOfNums, nums, List.map_cons, List.toList_toArray] at this ⊢
    rw [this]
    congr 1
    rw [UInt8.toNat_ofNat']
    omega
def dig (n : Int) : List Int := nums (Lib.itoa n)
def digN (u : Nat) : List Int := nums (Lib.decDigits u)
theorem nd_le : ∀ (k u : Nat), u < 10 ^ (k + 1) → Lib.nDigits u ≤ k + 1
  | 0, u, h => by rw [Lib.nDigits_small (by omega)]; omega
  | k + 1, u, h => by
    by_cases h1 : u < 10
    · rw [Lib.nDigits_small h1]; omega
    · rw [Lib.nDigits_big h1]
      have := nd_le k (u / 10) (by rw [Nat.pow_succ] at h; omega)
      omega
theorem digN_len {u : Nat} (h : u < 18446744073709551616) : (digN u).length ≤ 20 := by
  rw [digN, nums_len, Lib.decDigits_length]
  exact nd_le 19 u (by omega)
theorem dig_len {n : Int} (h : -9223372036854775808 ≤ n ∧ n ≤ 9223372036854775807) : (dig n).length ≤ 21 := by
  unfold dig Lib.itoa
  rw [nums_len]
  split
  · rw [List.length_cons, Lib.decDigits_length]
    have := nd_le 19 n.natAbs (by omega)
    omega
  · rw [Lib.decDigits_length]
    have := nd_le 19 n.toNat (by omega)
    omega
theorem dig_byt (n : Int) : Byt (dig n) := nums_byt _
theorem digN_byt (u : Nat) : Byt (digN u) := nums_byt _
theorem dig_pos {n : Int} (h : ¬ n < 0) : dig n = digN n.toNat := by unfold dig Lib.itoa; rw [if_neg h]; rfl
theorem digN_small {u : Nat} (h : u < 10) : digN u = [((48 + u : Nat) : Int)] := by
  rw [digN, Lib.decDigits_one h]
  show [(((UInt8.ofNat (48 + u)).toNat : Nat) : Int)] = _
  rw [UInt8.toNat_ofNat', Nat.mod_eq_of_lt (by omega)]
theorem digN_big {u : Nat} (h : ¬ u < 10) : digN u = digN (u / 10) ++ [((48 + u % 10 : Nat) : Int)] := by
  rw [digN, Lib.decDigits, dif_neg h, nums_app]
  show _ ++ [(((UInt8.ofNat (48 + u % 10)).toNat : Nat) : Int)] = _
  rw [UInt8.toNat_ofNat', Nat.mod_eq_of_lt (by omega)]; rfl
def encS (x : List Int) : List Value := [.string (strOfNums x)]
theorem Y1 (x : List Int) : (encS x).length = 1 := rfl
theorem encS_one (x : List Int) : ∀ u ∈ encS x, u.oneCell' = true := by intro u hu; simp [encS] at hu; subst hu; rfl
def jnw : List (List Int) → List Int
  | [] => []
  | [x] => x
  | x :: y :: r => x ++ 32 :: jnw (y :: r)
theorem jnw_cons (x : List Int) (r : List (List Int)) : jnw (x :: r) = x ++ (r.map fun y => 32 :: y).flatten := by
  induction r generalizing x with
  | nil => simp [jnw]
  | cons y r ih => rw [jnw, ih]; simp
end Go.Proofs.YtbjjhfoeckkacaaGreatDoor
namespace Go.Proofs.YtbjjhfoeckkacaaGreatDoor
open Go.Fw
/-! ### the text of a part -/
def wrd (k : Int) : List Int := if k = 0 then [114, 97, 119] else if k = 1 then [114, 117, 110] else [99, 111, 100, 101, 100]
def btx (x : BK) : List Int :=
  if x.2.1 < 0 ∨ 3 ≤ x.2.1 then [110, 111, 110, 101] ++ 32 :: dig x.2.2.1
  else wrd x.2.1 ++ 32 :: (dig x.2.2.1 ++ if x.2.2.2.1 = x.2.2.1 then [] else 47 :: dig x.2.2.2.1)
def wsz (p : PT) : List (List Int) := if 0 ≤ p.hd.2.1 then [[99, 111, 110, 116, 101, 110, 116], dig p.hd.2.1] else []
def wdi (p : PT) : List (List Int) := if p.hd.2.2.1 = 0 then [] else [[100, 105, 99, 116, 105, 111, 110, 97, 114, 121], digN p.hd.2.2.1.toNat]
def wck (p : PT) : List (List Int) := if p.hd.2.2.2 = true then [[99, 104, 101, 99, 107], digN p.ck.toNat] else []
def wv5 (p : PT) : List (List Int) := [[102, 114, 97, 109, 101], dig p.at_, dig p.sz, [119, 105, 110, 100, 111, 119], dig p.hd.1]
def lin (p : PT) : List Int :=
  if p.sk = true then jnw [[115, 107, 105, 112], dig p.at_, dig p.sz, dig p.pl] else jnw (wv5 p ++ wsz p ++ wdi p ++ wck p ++ p.bl.map btx)
theorem lin_skip {p : PT} (h : p.sk = true) : lin p = jnw [[115, 107, 105, 112], dig p.at_, dig p.sz, dig p.pl] := if_pos h
theorem lin_frame {p : PT} (h : ¬ p.sk = true) : lin p = jnw (wv5 p ++ wsz p ++ wdi p ++ wck p ++ p.bl.map btx) := if_neg h
def rg (n : Int) : Prop := -9223372036854775808 ≤ n ∧ n ≤ 9223372036854775807
def okB (x : BK) : Prop := rg x.2.1 ∧ rg x.2.2.1 ∧ rg x.2.2.2.1
structure okP (p : PT) : Prop where
  at_ : rg p.at_
  sz : rg p.sz
  pl : rg p.pl
  h1 : rg p.hd.1
  h2 : rg p.hd.2.1
  h3 : 0 ≤ p.hd.2.2.1 ∧ p.hd.2.2.1 < 4294967296
  ck : 0 ≤ p.ck ∧ p.ck < 4294967296
  bl : ∀ x ∈ p.bl, okB x
  bn : p.bl.length ≤ 100000
theorem wrd_len (k : Int) : (wrd k).length ≤ 5 := by
  unfold wrd; split
  · decide
  · split <;> decide
theorem btx_len {x : BK} (h : okB x) : (btx x).length ≤ 50 := by
  have h1 := dig_len h.2.1
  have h2 := dig_len h.2.2
  have h3 := wrd_len x.2.1
  unfold btx
  split
  · simp; omega
  · split <;> simp <;> omega
theorem byt_cons {x : Int} {l : List Int} (hx : 0 ≤ x ∧ x < 256) (h : Byt l) : Byt (x :: l) := fun y hy => by
  rcases List.mem_cons.1 hy with rfl | h1
  · exact hx
  · exact h y h1
theorem YU {l : List Int} (h : l.all fun x => decide (0 ≤ x ∧ x < 256)) : Byt l := fun x hx => by simpa using List.all_eq_true.1 h x hx
theorem wrd_byt (k : Int) : Byt (wrd k) := by
  unfold wrd; split
  · exact YU (by decide)
  · split <;> exact YU (by decide)
theorem btx_byt (x : BK) : Byt (btx x) := by
  unfold btx
  split
  · exact Yq (YU (by decide)) (byt_cons (by decide) (dig_byt _))
  · refine Yq (wrd_byt _) (byt_cons (by decide) (Yq (dig_byt _) ?_))
    split
    · exact ZO
    · exact byt_cons (by decide) (dig_byt _)
theorem jnw_len {l : List (List Int)} {k : Nat} (h : ∀ x ∈ l, x.length ≤ k) : (jnw l).length ≤ l.length * (k + 1) := by
  match l, h with
  | [], _ => simp [jnw]
  | [x], h => have := h x (by simp); simp [jnw]; omega
  | x :: y :: r, h =>
    have h1 := h x (by simp)
    have h2 := jnw_len (l := y :: r) (k := k) fun z hz => h z (by simp [hz])
    rw [jnw, List.length_append, List.length_cons, List.length_cons (a := x), Nat.succ_mul]
    omega
theorem jnw_byt {l : List (List Int)} (h : ∀ x ∈ l, Byt x) : Byt (jnw l) := by
  match l, h with
  | [], _ => exact ZO
  | [x], h => exact h x (by simp)
  | x :: y :: r, h => exact Yq (h x (by simp)) (byt_cons (by decide) (jnw_byt (l := y :: r) fun z hz => h z (by simp [hz])))
theorem w_ok {p : PT} (h : okP p) : ∀ x ∈ wv5 p ++ wsz p ++ wdi p ++ wck p ++ p.bl.map btx, x.length ≤ 50 ∧ Byt x := by
  have g : ∀ n, rg n → (dig n).length ≤ 50 ∧ Byt (dig n) := fun n hn => ⟨by have := dig_len hn; omega, dig_byt n⟩
  have g2 : ∀ n : Int, 0 ≤ n ∧ n < 4294967296 → (digN n.toNat).length ≤ 50 ∧ Byt (digN n.toNat) := fun n hn => ⟨by have := digN_len (u := n.toNat) (by omega); omega, digN_byt _⟩
  intro x hx
  simp only [List.mem_append] at hx
  rcases hx with (((hx | hx) | hx) | hx) | hx
  · simp only [wv5, List.mem_cons, List.not_mem_nil, or_false] at hx
    rcases hx with rfl | rfl | rfl | rfl | rfl
    · exact ⟨by decide, YU (by decide)⟩
    · exact g _ h.at_
    · exact g _ h.sz
    · exact ⟨by decide, YU (by decide)⟩
    · exact g _ h.h1
  · unfold wsz at hx
    split at hx
    · simp only [List.mem_cons, List.not_mem_nil, or_false] at hx
      rcases hx with rfl | rfl
      · exact ⟨by decide, YU (by decide)⟩
      · exact g _ h.h2
    · cases hx
  · unfold wdi at hx
    split at hx
    · cases hx
    · simp only [List.mem_cons, List.not_mem_nil, or_false] at hx
      rcases hx with rfl | rfl
      · exact ⟨by decide, YU (by decide)⟩
      · exact g2 _ h.h3
  · unfold wck at hx
    split at hx
    · simp only [List.mem_cons, List.not_mem_nil, or_false] at hx
      rcases hx with rfl | rfl
      · exact ⟨by decide, YU (by decide)⟩
      · exact g2 _ h.ck
    · cases hx
  · obtain ⟨y, hy, rfl⟩ := List.mem_map.1 hx
    exact ⟨btx_len (h.bl y hy), btx_byt y⟩
theorem w_cnt {p : PT} : (wv5 p ++ wsz p ++ wdi p ++ wck p ++ p.bl.map btx).length ≤ 11 + p.bl.length := by
  have h1 : (wsz p).length ≤ 2 := by unfold wsz; split <;> simp
  have h2 : (wdi p).length ≤ 2 := by unfold wdi; split <;> simp
  have h3 : (wck p).length ≤ 2 := by unfold wck; split <;> simp
  simp [wv5]; omega
theorem lin_len {p : PT} (h : okP p) : (lin p).length ≤ 6000000 := by
  have := h.bn
  unfold lin
  split
  · have h1 := dig_len h.at_
    have h2 := dig_len h.sz
    have h3 := dig_len h.pl
    simp [jnw]; omega
  · have h1 := jnw_len (k := 50) fun x hx => (w_ok h x hx).1
    have h2 := w_cnt (p := p)
    omega
theorem lin_byt {p : PT} (h : okP p) : Byt (lin p) := by
  unfold lin
  split
  · exact jnw_byt fun x hx => by
      simp only [List.mem_cons, List.not_mem_nil, or_false] at hx
      rcases hx with rfl | rfl | rfl | rfl
      · exact YU (by decide)
      · exact dig_byt _
      · exact dig_byt _
      · exact dig_byt _
  · exact jnw_byt fun x hx => (w_ok h x hx).2
def txt (l : List PT) : List Int := (l.map fun p => lin p ++ [10]).flatten
theorem txt_snoc (l : List PT) (p : PT) : txt (l ++ [p]) = txt l ++ (lin p ++ [10]) := by simp [txt]
theorem txt_len {l : List PT} (h : ∀ p ∈ l, okP p) : (txt l).length ≤ l.length * 6000001 := by
  induction l with
  | nil => simp [txt]
  | cons p l ih =>
    have h1 := ih fun q hq => h q (by simp [hq])
    have h2 := lin_len (h p (by simp))
    simp only [txt, List.map_cons, List.flatten_cons, List.length_append, List.length_cons, List.length_nil] at h1 ⊢
    omega
/-! ### totals -/
abbrev T7 := Int × Int × Int × Int × Int × Int × Int
def t70 : T7 := (0, 0, 0, 0, 0, 0, 0)
def cb (t : T7) (x : BK) : T7 := (t.1, t.2.1, t.2.2.1 + (if x.2.1 = 0 then 1 else 0), t.2.2.2.1 + (if x.2.1 = 1 then 1 else 0), t.2.2.2.2.1 + (if x.2.1 = 2 then 1 else 0), t.2.2.2.2.2.1 + (if x.2.1 = 2 then 0 else x.2.2.1), t.2.2.2.2.2.2 + x.2.2.2.1)
def cp (t : T7) (p : PT) : T7 := if p.sk = true then (t.1, t.2.1 + 1, t.2.2) else p.bl.foldl cb (t.1 + 1, t.2)
def cnts (l : List PT) : T7 := l.foldl cp t70
theorem cb_0 {t : T7} {x : BK} (h : x.2.1 = 0) : cb t x = (t.1, t.2.1, t.2.2.1 + 1, t.2.2.2.1, t.2.2.2.2.1, t.2.2.2.2.2.1 + x.2.2.1, t.2.2.2.2.2.2 + x.2.2.2.1) := by simp [cb, h]
theorem cb_1 {t : T7} {x : BK} (h : x.2.1 = 1) : cb t x = (t.1, t.2.1, t.2.2.1, t.2.2.2.1 + 1, t.2.2.2.2.1, t.2.2.2.2.2.1 + x.2.2.1, t.2.2.2.2.2.2 + x.2.2.2.1) := by simp [cb, h]
theorem cb_2 {t : T7} {x : BK} (h : x.2.1 = 2) : cb t x = (t.1, t.2.1, t.2.2.1, t.2.2.2.1, t.2.2.2.2.1 + 1, t.2.2.2.2.2.1, t.2.2.2.2.2.2 + x.2.2.2.1) := by simp [cb, h]
def tbd (t : T7) (B : Int) : Prop := (0 ≤ t.1 ∧ t.1 ≤ B) ∧ (0 ≤ t.2.1 ∧ t.2.1 ≤ B) ∧ (0 ≤ t.2.2.1 ∧ t.2.2.1 ≤ B) ∧ (0 ≤ t.2.2.2.1 ∧ t.2.2.2.1 ≤ B) ∧ (0 ≤ t.2.2.2.2.1 ∧ t.2.2.2.2.1 ≤ B) ∧ (0 ≤ t.2.2.2.2.2.1 ∧ t.2.2.2.2.2.1 ≤ B) ∧ (0 ≤ t.2.2.2.2.2.2 ∧ t.2.2.2.2.2.2 ≤ B)
def smB (x : BK) : Prop := (x.2.1 = 0 ∨ x.2.1 = 1 ∨ x.2.1 = 2) ∧ (0 ≤ x.2.2.1 ∧ x.2.2.1 < 2097152) ∧ (0 ≤ x.2.2.2.1 ∧ x.2.2.2.1 < 2097152)
def smP (p : PT) : Prop := (∀ x ∈ p.bl, smB x) ∧ p.bl.length ≤ 100000
theorem tbd_cb {t : T7} {B : Int} {x : BK} (h : tbd t B) (hx : smB x) : tbd (cb t x) (B + 2097152) := by
  obtain ⟨h1, h2, h3⟩ := hx
  obtain ⟨a1, a2, a3, a4, a5, a6, a7⟩ := h
  rcases h1 with h1 | h1 | h1
  · rw [cb_0 h1]; unfold tbd; dsimp only; omega
  · rw [cb_1 h1]; unfold tbd; dsimp only; omega
  · rw [cb_2 h1]; unfold tbd; dsimp only; omega
end Go.Proofs.YtbjjhfoeckkacaaGreatDoor
namespace Go.Proofs.YtbjjhfoeckkacaaGreatDoor
open Go.Fw
theorem ghead_bd {bs : List Int} (hb : Byt bs) {p : Nat} (h : (ZA bs p).2.2 = 0) : (1024 ≤ (ZA bs p).1.1 ∧ (ZA bs p).1.1 ≤ 134217728) ∧ (-1 ≤ (ZA bs p).1.2.1 ∧ (ZA bs p).1.2.1 ≤ 4611686018427387903) ∧ 0 ≤ (ZA bs p).1.2.2.1 ∧ (ZA bs p).1.2.2.1 < 4294967296 := by
  obtain ⟨HM, c7, c6, cw, cd, cz, cs⟩ := ghead_inv h
  rw [gh_ok HM c7 c6 cw cd cz cs]
  have h5 := Yi hb (p + 5)
  have hw1 := hw_bd h5.1 h5.2
  have hd2 := hdict_le c6 cd
  refine ⟨?_, ?_, ?_⟩
  · show 1024 ≤ hw (bs.getD (p + 5) 0) ∧ hw (bs.getD (p + 5) 0) ≤ 134217728; omega
  · show -1 ≤ (Yu bs p (ZV bs p).2.1).1 ∧ (Yu bs p (ZV bs p).2.1).1 ≤ 4611686018427387903
    by_cases hd : bs.getD (p + 4) 0 % 2 = 1
    · have e : Yu bs p (ZV bs p).2.1 = ZN bs (ZV bs p).2.1 := if_pos hd
      rw [e]
      have := Yw bs (ZV bs p).2.1 hd2.2
      omega
    · have e : Yu bs p (ZV bs p).2.1 = (-1, (ZV bs p).2.1, 0) := if_neg hd
      rw [e]; show (-1 : Int) ≤ -1 ∧ (-1 : Int) ≤ 4611686018427387903; decide
  · show 0 ≤ (ZV bs p).1 ∧ (ZV bs p).1 < 4294967296
    by_cases hd : bs.getD (p + 4) 0 / 4 = 1
    · have e : ZV bs p = ZE bs (p + 6) := if_pos hd
      rw [e]; exact gword_le hb _
    · have e : ZV bs p = (0, p + 6, 0) := if_neg hd
      rw [e]; show (0 : Int) ≤ 0 ∧ (0 : Int) < 4294967296; decide
theorem bk_sm {bs : List Int} (hb : Byt bs) {p : Nat} (h : berr bs p = 0) (hp : p ≤ 100000) : smB (bk bs p) ∧ okB (bk bs p) := by
  have h1 := bk_bd hb p
  have h2 := bst_bd hb p
  have h3 := (berr_inv h).2.1
  refine ⟨⟨?_, ?_, ?_⟩, ?_, ?_, ?_⟩
  · show bkd bs p = 0 ∨ bkd bs p = 1 ∨ bkd bs p = 2; omega
  · exact ⟨h1.1, h1.2.1⟩
  · exact h2
  · show rg (bkd bs p); unfold rg; omega
  · show rg (bsz bs p); unfold rg; omega
  · show rg (bst bs p); unfold rg; omega
theorem gb_sm {bs : List Int} (hb : Byt bs) (hn : bs.length ≤ 100000) (p : Nat) : (∀ x ∈ (gb bs p).1, smB x ∧ okB x) ∧ (p ≤ bs.length → p + (gb bs p).1.length * 3 ≤ bs.length) := by
  refine gb_ind (bs := bs) (Q := fun p => (∀ x ∈ (gb bs p).1, smB x ∧ okB x) ∧ (p ≤ bs.length → p + (gb bs p).1.length * 3 ≤ bs.length)) ?_ ?_ ?_ p
  · intro p h; rw [gb_err h]; exact ⟨fun x hx => (List.not_mem_nil hx).elim, fun h => by simpa using h⟩
  · intro p h h2
    rw [gb_last h h2]
    have := bnx_le h
    refine ⟨fun x hx => ?_, fun _ => by simp; omega⟩
    rw [List.mem_singleton.1 hx]; exact bk_sm hb h (by omega)
  · intro p h h2 ih
    rw [gb_more h h2]
    have := bnx_le h
    refine ⟨fun x hx => ?_, fun _ => ?_⟩
    · rcases List.mem_cons.1 hx with rfl | hx
      · exact bk_sm hb h (by omega)
      · exact ih.1 x hx
    · have := ih.2 (by omega)
      show p + (_ :: _).length * 3 ≤ _
      rw [List.length_cons]; omega
theorem rg_0 : rg 0 := by unfold rg; decide
theorem z_32 : (0 : Int) ≤ 0 ∧ (0 : Int) < 4294967296 := by decide
theorem okP_0 : okP pt0 := ⟨rg_0, rg_0, rg_0, rg_0, rg_0, z_32, z_32, fun x hx => (List.not_mem_nil hx).elim, Nat.zero_le _⟩
theorem gpart_ok {bs : List Int} (hb : Byt bs) (hn : bs.length ≤ 100000) {p : Nat} (hp : p ≤ bs.length) (h : (ZK bs p).2.2 = 0) : okP (ZK bs p).1 ∧ smP (ZK bs p).1 := by
  have hl := gpart_le h
  have h1 : rg (ZK bs p).1.at_ := by rw [hl.2.2.1]; unfold rg; omega
  have h2 : rg (ZK bs p).1.sz := by rw [hl.2.2.2]; unfold rg; omega
  obtain ⟨c1, c | c⟩ := gpart_inv h
  · obtain ⟨c2, c3, c4, c5⟩ := c
    have hB := ghead_bd hb c3
    have hG := ghead_ge c3
    have hS := gb_sm hb hn (ZA bs p).2.1
    have hL := hS.2 hG.2
    have hr1 : rg (ZA bs p).1.1 := by unfold rg; omega
    have hr2 : rg (ZA bs p).1.2.1 := by unfold rg; omega
    have hb2 : (gb bs (ZA bs p).2.1).1.length ≤ 100000 := by omega
    by_cases cs : (ZA bs p).1.2.2.2 = true
    · rw [gp_sum c1 c2 c3 c4 cs (c5 cs)] at h1 h2 ⊢
      exact ⟨⟨h1, h2, rg_0, hr1, hr2, hB.2.2, gword_le hb _, fun x hx => (hS.1 x hx).2, hb2⟩, fun x hx => (hS.1 x hx).1, hb2⟩
    · rw [gp_frame c1 c2 c3 c4 cs] at h1 h2 ⊢
      exact ⟨⟨h1, h2, rg_0, hr1, hr2, hB.2.2, z_32, fun x hx => (hS.1 x hx).2, hb2⟩, fun x hx => (hS.1 x hx).1, hb2⟩
  · obtain ⟨c2, c3⟩ := c
    have hk := gskip_le c3
    have hr : rg (((Yc bs p).1.length : Nat) : Int) := by unfold rg; omega
    rw [gp_skip c1 c2 c3] at h1 h2 ⊢
    exact ⟨⟨h1, h2, hr, rg_0, rg_0, z_32, z_32, fun x hx => (List.not_mem_nil hx).elim, Nat.zero_le _⟩, fun x hx => (List.not_mem_nil hx).elim, Nat.zero_le _⟩
theorem ga_ok {bs : List Int} (hb : Byt bs) (hn : bs.length ≤ 100000) (p : Nat) : (∀ x ∈ (ga bs p).1, okP x ∧ smP x) ∧ (p ≤ bs.length → p + (ga bs p).1.length * 8 ≤ bs.length) := by
  refine ga_ind (bs := bs) (Q := fun p => (∀ x ∈ (ga bs p).1, okP x ∧ smP x) ∧ (p ≤ bs.length → p + (ga bs p).1.length * 8 ≤ bs.length)) ?_ ?_ ?_ p
  · intro p h; rw [ga_end h]; exact ⟨fun x hx => (List.not_mem_nil hx).elim, fun h => by simpa using h⟩
  · intro p h h2; rw [ga_err h h2]; exact ⟨fun x hx => (List.not_mem_nil hx).elim, fun h => by simpa using h⟩
  · intro p h h2 ih
    have hl := gpart_le h2
    rw [ga_more h h2]
    refine ⟨fun x hx => ?_, fun _ => ?_⟩
    · rcases List.mem_cons.1 hx with rfl | hx
      · exact gpart_ok hb hn (by omega) h2
      · exact ih.1 x hx
    · have := ih.2 hl.2.1
      show p + (_ :: _).length * 8 ≤ _
      rw [List.length_cons]; omega
theorem ga_okd {bs : List Int} (hb : Byt bs) (hn : bs.length ≤ 100000) (i : Nat) : okP ((ga bs 0).1.getD i pt0) ∧ smP ((ga bs 0).1.getD i pt0) := by
  rw [List.getD_eq_getElem?_getD]
  cases h : (ga bs 0).1[i]? with
  | none => exact ⟨okP_0, fun x hx => (List.not_mem_nil hx).elim, Nat.zero_le _⟩
  | some x => exact (ga_ok hb hn 0).1 x (List.mem_of_getElem? h)
theorem ga_len {bs : List Int} (hb : Byt bs) (hn : bs.length ≤ 100000) : (ga bs 0).1.length * 8 ≤ bs.length := by have := (ga_ok hb hn 0).2 (Nat.zero_le _); omega
/-! ### totals -/
theorem smB_gd {l : List BK} (h : ∀ x ∈ l, smB x) (i : Nat) : smB (l.getD i (0, 0, 0, 0, false)) := by
  rw [List.getD_eq_getElem?_getD]
  cases hi : l[i]? with
  | none => exact ⟨.inl rfl, by decide, by decide⟩
  | some x => exact h x (List.mem_of_getElem? hi)
theorem tk_snoc {α : Type} (l : List α) (d : α) {i : Nat} (h : i < l.length) : l.take (i + 1) = l.take i ++ [l.getD i d] := by
  rw [List.getD_eq_getElem?_getD, List.getElem?_eq_getElem h, List.take_succ_eq_append_getElem h]; rfl
theorem cb_snoc {t : T7} {l : List BK} {i : Nat} (h : i < l.length) : (l.take (i + 1)).foldl cb t = cb ((l.take i).foldl cb t) (l.getD i (0, 0, 0, 0, false)) := by
  rw [tk_snoc l (0, 0, 0, 0, false) h, List.foldl_append]; rfl
theorem cp_snoc {t : T7} {l : List PT} {i : Nat} (h : i < l.length) : (l.take (i + 1)).foldl cp t = cp ((l.take i).foldl cp t) (l.getD i pt0) := by
  rw [tk_snoc l pt0 h, List.foldl_append]; rfl
theorem tbd_mono {t : T7} {A B : Int} (h : tbd t A) (hAB : A ≤ B) : tbd t B := by
  obtain ⟨a1, a2, a3, a4, a5, a6, a7⟩ := h
  unfold tbd; omega
theorem tbd_cbs {t : T7} {B : Int} (h : tbd t B) {l : List BK} (hl : ∀ x ∈ l, smB x) : tbd (l.foldl cb t) (B + (l.length : Int) * 2097152) := by
  induction l generalizing t B with
  | nil => simpa using h
  | cons x l ih =>
    have h1 := ih (tbd_cb h (hl x (by simp))) fun y hy => hl y (by simp [hy])
    rw [List.foldl_cons]
    exact tbd_mono h1 (by rw [List.length_cons]; omega)
theorem cp_skip {t : T7} {p : PT} (h : p.sk = true) : cp t p = (t.1, t.2.1 + 1, t.2.2) := if_pos h
theorem cp_fr {t : T7} {p : PT} (h : ¬ p.sk = true) : cp t p = p.bl.foldl cb (t.1 + 1, t.2) := if_neg h
theorem tbd_cp {t : T7} {B : Int} {p : PT} (h : tbd t B) (hp : smP p) : tbd (cp t p) (B + 209715300000) := by
  by_cases hk : p.sk = true
  · rw [cp_skip hk]
    obtain ⟨a1, a2, a3, a4, a5, a6, a7⟩ := h
    unfold tbd; dsimp only; omega
  · rw [cp_fr hk]
    have h1 : tbd (t.1 + 1, t.2) (B + 1) := by
      obtain ⟨a1, a2, a3, a4, a5, a6, a7⟩ := h
      unfold tbd; dsimp only; omega
    have := hp.2
    exact tbd_mono (tbd_cbs h1 hp.1) (by omega)
theorem tbd_cps {t : T7} {B : Int} (h : tbd t B) {l : List PT} (hl : ∀ x ∈ l, smP x) : tbd (l.foldl cp t) (B + (l.length : Int) * 209715300000) := by
  induction l generalizing t B with
  | nil => simpa using h
  | cons x l ih =>
    have h1 := ih (tbd_cp h (hl x (by simp))) fun y hy => hl y (by simp [hy])
    rw [List.foldl_cons]
    exact tbd_mono h1 (by rw [List.length_cons]; omega)
theorem tbd_0 : tbd t70 0 := by unfold tbd t70; decide
theorem tbd_ga {bs : List Int} (hb : Byt bs) (hn : bs.length ≤ 100000) (i : Nat) : tbd (((ga bs 0).1.take i).foldl cp t70) 3000000000000000 := by
  have h1 := ga_ok hb hn 0
  have h2 := h1.2 (Nat.zero_le _)
  have h3 : ((ga bs 0).1.take i).length ≤ (ga bs 0).1.length := by rw [List.length_take]; omega
  exact tbd_mono (tbd_cps tbd_0 fun x hx => (h1.1 x (List.mem_of_mem_take hx)).2) (by omega)
theorem tbd_in {t : T7} {p : PT} (h : tbd t 3000000000000000) (hp : smP p) (q : Nat) : tbd ((p.bl.take q).foldl cb (t.1 + 1, t.2)) 4000000000000000 := by
  have h1 : tbd (t.1 + 1, t.2) 3000000000000001 := by
    obtain ⟨a1, a2, a3, a4, a5, a6, a7⟩ := h
    unfold tbd; dsimp only; omega
  have h2 := hp.2
  have h3 : (p.bl.take q).length ≤ p.bl.length := by rw [List.length_take]; omega
  exact tbd_mono (tbd_cbs h1 fun x hx => hp.1 x (List.mem_of_mem_take hx)) (by omega)
end Go.Proofs.YtbjjhfoeckkacaaGreatDoor
namespace Go.Proofs.YtbjjhfoeckkacaaGreatDoor
open Go.Fw
def jt (l : List (List Int)) : List Int := (l.map fun y => 32 :: y).flatten
theorem jt_app (a b : List (List Int)) : jt (a ++ b) = jt a ++ jt b := by simp [jt]
def wh (p : PT) : List (List Int) := wv5 p ++ wsz p ++ wdi p ++ wck p
def wq (p : PT) (q : Nat) : List (List Int) := wh p ++ (p.bl.take q).map btx
def l5 (p : PT) : List Int := jnw (wv5 p)
def lq (p : PT) (q : Nat) : List Int := l5 p ++ jt (wsz p) ++ jt (wdi p) ++ jt (wck p) ++ jt ((p.bl.take q).map btx)
theorem jnw_jt (x : List Int) (r : List (List Int)) : jnw (x :: r) = x ++ jt r := jnw_cons x r
theorem lq_eq (p : PT) (q : Nat) : lq p q = jnw (wq p q) := by
  have h : wq p q = [102, 114, 97, 109, 101] :: ([dig p.at_, dig p.sz, [119, 105, 110, 100, 111, 119], dig p.hd.1] ++ (wsz p ++ (wdi p ++ (wck p ++ (p.bl.take q).map btx)))) := by
    unfold wq wh wv5; simp only [List.append_assoc, List.cons_append, List.nil_append]
  rw [h, jnw_jt, jt_app, jt_app, jt_app, jt_app]
  unfold lq l5 wv5
  rw [jnw_jt]
  simp only [List.append_assoc]
theorem lq_lin {p : PT} (h : ¬ p.sk = true) {q : Nat} (hq : q = p.bl.length) : lq p q = lin p := by
  subst hq
  rw [lq_eq, lin_frame h]
  unfold wq wh
  rw [List.take_length]
theorem wq_lin {p : PT} (h : ¬ p.sk = true) {q : Nat} (hq : q = p.bl.length) : jnw (wq p q) = lin p := by rw [← lq_eq]; exact lq_lin h hq
theorem wq_snoc {p : PT} {q : Nat} (h : q < p.bl.length) : wq p (q + 1) = wq p q ++ [btx (p.bl.getD q (0, 0, 0, 0, false))] := by
  unfold wq
  rw [tk_snoc p.bl (0, 0, 0, 0, false) h, List.map_append, List.append_assoc]; rfl
theorem wq_0 (p : PT) : wq p 0 = wh p := by simp [wq]
theorem wq_ok {p : PT} (h : okP p) (q : Nat) : ∀ x ∈ wq p q, x.length ≤ 50 ∧ Byt x := fun x hx => w_ok h x (by
  unfold wq wh at hx
  rcases List.mem_append.1 hx with h1 | h1
  · exact List.mem_append.2 (.inl h1)
  · refine List.mem_append.2 (.inr ?_)
    obtain ⟨y, hy, rfl⟩ := List.mem_map.1 h1
    exact List.mem_map.2 ⟨y, List.mem_of_mem_take hy, rfl⟩)
theorem wq_cnt {p : PT} (h : okP p) (q : Nat) : (wq p q).length ≤ 100011 := by
  have h1 := w_cnt (p := p)
  have h2 := h.bn
  unfold wq wh
  rw [List.length_append, List.length_map, List.length_take]
  simp only [List.length_append, List.length_map] at h1 ⊢
  omega
theorem ok_gd {p : PT} (h : okP p) (q : Nat) : okB (p.bl.getD q (0, 0, 0, 0, false)) := by
  rw [List.getD_eq_getElem?_getD]
  cases hi : p.bl[q]? with
  | none => exact ⟨rg_0, rg_0, rg_0⟩
  | some x => exact h.bl x (List.mem_of_getElem? hi)
theorem wsz_len (p : PT) : (wsz p).length ≤ 2 := by unfold wsz; split <;> simp
theorem wdi_len (p : PT) : (wdi p).length ≤ 2 := by unfold wdi; split <;> simp
theorem wck_len (p : PT) : (wck p).length ≤ 2 := by unfold wck; split <;> simp
theorem wsz_t {p : PT} (h : 0 ≤ p.hd.2.1) : wsz p = [[99, 111, 110, 116, 101, 110, 116], dig p.hd.2.1] := if_pos h
theorem wsz_f {p : PT} (h : ¬ 0 ≤ p.hd.2.1) : wsz p = [] := if_neg h
theorem wdi_f {p : PT} (h : p.hd.2.2.1 = 0) : wdi p = [] := if_pos h
theorem wdi_t {p : PT} (h : ¬ p.hd.2.2.1 = 0) : wdi p = [[100, 105, 99, 116, 105, 111, 110, 97, 114, 121], digN p.hd.2.2.1.toNat] := if_neg h
theorem wck_t {p : PT} (h : p.hd.2.2.2 = true) : wck p = [[99, 104, 101, 99, 107], digN p.ck.toNat] := if_pos h
theorem wck_f {p : PT} (h : ¬ p.hd.2.2.2 = true) : wck p = [] := if_neg h
theorem btx_none {x : BK} (h : x.2.1 < 0 ∨ 3 ≤ x.2.1) : btx x = [110, 111, 110, 101] ++ 32 :: dig x.2.2.1 := if_pos h
theorem btx_same {x : BK} (h0 : 0 ≤ x.2.1) (h1 : x.2.1 < 3) (h : x.2.2.2.1 = x.2.2.1) : btx x = wrd x.2.1 ++ 32 :: dig x.2.2.1 := by unfold btx; rw [if_neg (by omega), if_pos h]; simp
theorem btx_other {x : BK} (h0 : 0 ≤ x.2.1) (h1 : x.2.1 < 3) (h : ¬ x.2.2.2.1 = x.2.2.1) : btx x = wrd x.2.1 ++ 32 :: dig x.2.2.1 ++ 47 :: dig x.2.2.2.1 := by unfold btx; rw [if_neg (by omega), if_neg h]; simp
def wv6 (p : PT) : List (List Int) := wv5 p ++ wsz p
def wv7 (p : PT) : List (List Int) := wv6 p ++ wdi p
theorem wv6_len (p : PT) : (wv6 p).length ≤ 7 := by have := wsz_len p; rw [wv6, List.length_append]; show 5 + _ ≤ 7; omega
theorem wv7_len (p : PT) : (wv7 p).length ≤ 9 := by have := wv6_len p; have := wdi_len p; rw [wv7, List.length_append]; omega
theorem wh_len (p : PT) : (wh p).length ≤ 11 := by
  have := wv7_len p
  have := wck_len p
  rw [show wh p = wv7 p ++ wck p from rfl, List.length_append]; omega
theorem all4 {P : List Int → Prop} {a b c d : List Int} (h1 : P a) (h2 : P b) (h3 : P c) (h4 : P d) : ∀ x ∈ [a, b, c, d], P x := by
  intro x hx
  simp only [List.mem_cons, List.not_mem_nil, or_false] at hx
  rcases hx with rfl | rfl | rfl | rfl <;> assumption
end Go.Proofs.YtbjjhfoeckkacaaGreatDoor
namespace Go.Fw
section
variable {P : Program} {ro : Option Nat} {n : Nat} {ops : Array Oper} {Q : Post} {ρ : Env} {ds : List Deferred} {w : World} {rest : List Oper} {d : Nat} {t : TypeId} {p : String} {e : Array Edge}
theorem Wl_allocT {et : TypeId} {z : Value} {cs : List Value} (hz : ∀ w, (zeroValue et).run P w = .ok z w) (hc : z.cells = cs.toArray)
    (h : ∀ b w', w.heap.size = b → Upd No w w' → w'.heap.size = b + 1 → w'.heap[b]? = some (.cells cs.toArray et (0, 0)) → Wl P ro n ops Q rest (upd ρ d (.pointer (some ⟨b, 0, none⟩))) ds w') :
    Wl P ro n ops Q (⟨some d, .alloc et, t, p, e, none⟩ :: rest) ρ ds w := by
  refine Zf (v := .pointer (some ⟨w.heap.size, 0, none⟩)) (w' := w.alloc (.cells cs.toArray et)) ?_ (h _ _ rfl (Y4 _ _) (by simp) (World.alloc_heap_new w _))
  rw [ZT (by simp)]; simp [execOp, Instr.alloc, newVar, newRow, hz, hc]
end
end Go.Fw
namespace Go.Proofs.YtbjjhfoeckkacaaGreatDoor
open Go.Fw Go.RowKit
def Bld (w : World) (T e : TypeId) (B hi : Nat) (l : List Int) : Prop :=
  B ≤ hi ∧ hi ≤ w.heap.size ∧ Byt l ∧ ∀ w' : World, (∀ i, i < hi → w'.heap[i]? = w.heap[i]?) → Lib.IsBuilder T e B B (ints .u8 l) w'
theorem lt_some {α : Type} {a : Array α} {i : Nat} {x : α} (h : a[i]? = some x) : i < a.size := (Array.getElem?_eq_some_iff.1 h).1
theorem ba_on {T e : TypeId} {B : Nat} {p : Value} {bs : List Value} {w w' : World} (h : Lib.BuilderAt T e B B p bs w) (hw : ∀ i, i < w.heap.size → w'.heap[i]? = w.heap[i]?) : Lib.BuilderAt T e B B p bs w' := by
  obtain ⟨h1, v, h2, ⟨h3, h4⟩, h5⟩ := h
  refine ⟨h1, v, (hw _ (lt_some h2)).trans h2, ⟨h3, ?_⟩, h5⟩
  rcases h4 with h4 | ⟨g, cap, cur, e1, e2, e3, r⟩
  · exact .inl h4
  · exact .inr ⟨g, cap, cur, e1, e2, (hw _ (lt_some e3)).trans e3, r⟩
theorem Bld.of {w : World} {T e : TypeId} {B : Nat} {l : List Int} (hB : B ≤ w.heap.size) (hl : Byt l) (h : Lib.IsBuilder T e B B (ints .u8 l) w) : Bld w T e B w.heap.size l :=
  ⟨hB, Nat.le_refl _, hl, fun w' hw => h.elim (fun h => .inl (ba_on h hw)) fun h => .inr (ba_on h hw)⟩
theorem Bld.upd {w w' : World} {T e : TypeId} {B hi : Nat} {l : List Int} {S : Nat → Prop} (h : Bld w T e B hi l) (hu : Upd S w w') (hS : ∀ x, S x → hi ≤ x := by intro _ _; omega) : Bld w' T e B hi l :=
  ⟨h.1, Nat.le_trans h.2.1 hu.size, h.2.2.1, fun w2 hw => h.2.2.2 w2 fun i hi2 => (hw i hi2).trans (hu.block i (Nat.lt_of_lt_of_le hi2 h.2.1) fun hs => by have := hS i hs; omega)⟩
theorem Bld.Zc {w w' : World} {T e : TypeId} {B hi : Nat} {l : List Int} (h : Bld w T e B hi l) (hu : Upd No w w') : Bld w' T e B hi l := h.upd hu fun _ x => x.elim
theorem Bld.Zh {w w' : World} {T e : TypeId} {B hi x : Nat} {l : List Int} (h : Bld w T e B hi l) (hu : Upd (Is x) w w') (hx : hi ≤ x := by omega) : Bld w' T e B hi l := h.upd hu fun g hg => by cases hg; exact hx
theorem Bld.here {w : World} {T e : TypeId} {B hi : Nat} {l : List Int} (h : Bld w T e B hi l) : Lib.IsBuilder T e B B (ints .u8 l) w := h.2.2.2 w fun _ _ => rfl
theorem Bld.fresh {w : World} {T e : TypeId} {B : Nat} (h : w.heap[B]? = some (.cells #[.pointer none, .slice none 0 0] T (0, 0))) : Bld w T e B w.heap.size [] :=
  Bld.of (Nat.le_of_lt (lt_some h)) ZO (.inl ⟨Nat.le_refl _, .slice none 0 0, h, World.ownsRow_nil _ _ _ _, by simp [Value.ownBlock]⟩)
theorem ints_bytes {l : List Int} (h : Byt l) : Lib.byteCells ((strOfNums l).data.toList) = ints .u8 l := by
  have h1 := strOfNums_nums h
  calc Lib.byteCells ((strOfNums l).data.toList) = ints .u8 (nums ((strOfNums l).data.toList)) := by simp [Lib.byteCells, ints, nums]
    _ = ints .u8 l := by rw [h1]
theorem txt_gal {bs : List Int} (hb : Byt bs) (hn : bs.length ≤ 100000) (k : Nat) : (txt ((ga bs 0).1.take k)).length ≤ 90000000000 := by
  have h1 := ga_ok hb hn 0
  have h2 := h1.2 (Nat.zero_le _)
  have h3 : ((ga bs 0).1.take k).length ≤ (ga bs 0).1.length := by rw [List.length_take]; omega
  have h4 := txt_len (l := (ga bs 0).1.take k) fun p hp => (h1.1 p (List.mem_of_mem_take hp)).1
  omega
theorem txt_step {bs : List Int} {k : Nat} (h : k < (ga bs 0).1.length) : txt ((ga bs 0).1.take (k + 1)) = txt ((ga bs 0).1.take k) ++ (lin ((ga bs 0).1.getD k pt0) ++ [10]) := by rw [tk_snoc _ pt0 h, txt_snoc]
theorem vstr {a b : List Int} (h : a = b) : Value.string (strOfNums a) = .string (strOfNums b) := by rw [h]
end Go.Proofs.YtbjjhfoeckkacaaGreatDoor
namespace Go.Fw
section
variable {P : Program} {ro : Option Nat} {w : World} {t : TypeId} {p : String} {e : Array Edge} {ρ' : Operand → Value} {dd : Option Tmp} {g : Option (Nat × Bool)}
end
end Go.Fw
