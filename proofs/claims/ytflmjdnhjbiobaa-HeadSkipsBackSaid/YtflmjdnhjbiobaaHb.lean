/-
  Layer 38: what is encoded is decoded; what is cut or altered is refused; skippable frames.
-/
import Derived.Test.YtflmjdnhjbiobaaKc
set_option linter.unusedVariables false
namespace Go.Proofs.Ytflmjdnhjbiobaa
open Go.Fw

theorem hbits_7 (sz dn : Int) (sm : Bool) : ¬ 7 < hbits sz dn sm := by have := hbits_bd sz dn sm; omega
theorem hbits_d (sz dn : Int) (sm : Bool) : hbits sz dn sm / 4 = 1 ↔ dn ≠ 0 := by unfold hbits; split <;> split <;> split <;> simp_all
theorem hbits_s (sz dn : Int) (sm : Bool) : hbits sz dn sm % 2 = 1 ↔ 0 ≤ sz := by unfold hbits; split <;> split <;> split <;> simp_all
theorem hbits_m (sz dn : Int) (sm : Bool) : hbits sz dn sm / 2 % 2 = 1 ↔ sm = true := by unfold hbits; split <;> split <;> split <;> simp_all
section
variable {bs r : List Int} {B W : Int}
theorem pre_mk (h : bs = [80, 77, 84, 30] ++ r) : hmk bs 0 = (1, 0) := by subst h; exact hmk_frm (by simp) (by simp [frm])
theorem pre_hm (h : bs = [80, 77, 84, 30] ++ r) : Hm bs 0 := ⟨by rw [pre_mk h], by rw [pre_mk h]⟩
theorem pre_4 (h : bs = [80, 77, 84, 30, B, W] ++ r) : bs.getD (0 + 4) 0 = B := by subst h; rfl
theorem pre_5 (h : bs = [80, 77, 84, 30, B, W] ++ r) : bs.getD (0 + 5) 0 = W := by subst h; rfl
theorem pre_6 (h : bs = [80, 77, 84, 30, B, W] ++ r) : bs.drop 6 = r := by subst h; rfl
theorem pre_len (h : bs = [80, 77, 84, 30, B, W] ++ r) : bs.length = 6 + r.length := by subst h; simp; omega
theorem pre_hm6 (h : bs = [80, 77, 84, 30, B, W] ++ r) : Hm bs 0 := pre_hm (r := [B, W] ++ r) h
theorem gh_of (h : bs = [80, 77, 84, 30, B, W] ++ r) (b7 : ¬ 7 < B) (w0 : ¬ hw W = 0) {dn s : Int} {q q2 : Nat} (HD : hdict bs 0 = (dn, q, 0)) (hd : ¬ (B / 4 = 1 ∧ dn = 0)) (HS : hsize bs 0 q = (s, q2, 0)) :
    ghead bs 0 = ((hw W, s, dn, decide (B / 2 % 2 = 1)), q2, 0) := by
  have hl := pre_len h
  have := gh_ok (pre_hm6 h) (by rw [pre_4 h]; exact b7) (by omega) (by rw [pre_5 h]; exact w0) (by rw [HD]) (by rw [pre_4 h, HD]; exact hd) (by rw [HD]; simp [HS])
  rw [this, pre_4 h, pre_5 h, HD]
  simp [HS]
theorem gh_szerr (h : bs = [80, 77, 84, 30, B, W] ++ r) (b7 : ¬ 7 < B) (w0 : ¬ hw W = 0) {dn s e : Int} {q q2 : Nat} (HD : hdict bs 0 = (dn, q, 0)) (hd : ¬ (B / 4 = 1 ∧ dn = 0)) (HS : hsize bs 0 q = (s, q2, e)) (he : e ≠ 0) :
    ghead bs 0 = (hz, 0, e) := by
  have hl := pre_len h
  have := gh_size (pre_hm6 h) (by rw [pre_4 h]; exact b7) (by omega) (by rw [pre_5 h]; exact w0) (by rw [HD]) (by rw [pre_4 h, HD]; exact hd) (by rw [HD]; simp [HS, he])
  rw [this, HD]
  simp [HS]
end
def hD (dn : Int) : List Int := if dn = 0 then [] else word dn
def hV (sz : Int) : List Int := if 0 ≤ sz then vi sz else []
theorem henc_pre (wz sz dn : Int) (sm : Bool) : henc wz sz dn sm = [80, 77, 84, 30, hbits sz dn sm, (hb wz : Int)] ++ (hD dn ++ hV sz) := by unfold henc hD hV; simp
section
variable {wz sz dn : Int} {sm : Bool}
theorem henc_6 : 6 ≤ (henc wz sz dn sm).length := by rw [henc_len]; omega
theorem hdict_henc {bs r : List Int} (h : bs = [80, 77, 84, 30, hbits sz dn sm, (hb wz : Int)] ++ (hD dn ++ r)) (d0 : 0 ≤ dn) (d1 : dn < 4294967296) : hdict bs 0 = (dn, 6 + (hD dn).length, 0) := by
  by_cases hd : dn = 0
  · rw [hdict_skip (by rw [pre_4 h, hbits_d]; simp [hd]), hd]; rfl
  · rw [hdict_do (by rw [pre_4 h, hbits_d]; exact hd), gword_word d0 d1 (rest := r) (by rw [Nat.zero_add, pre_6 h, hD, if_neg hd])]
    simp [hD, hd, word]
theorem ghead_henc (hv : Hv wz sz) (d0 : 0 ≤ dn) (d1 : dn < 4294967296) (rest : List Int) :
    ghead (henc wz sz dn sm ++ rest) 0 = ((wz, if 0 ≤ sz then sz else -1, dn, sm), (henc wz sz dn sm).length, 0) := by
  obtain ⟨bs, hbs⟩ : ∃ bs, bs = henc wz sz dn sm ++ rest := ⟨_, rfl⟩
  have h : bs = [80, 77, 84, 30, hbits sz dn sm, (hb wz : Int)] ++ (hD dn ++ (hV sz ++ rest)) := by rw [hbs, henc_pre]; simp
  have HD := hdict_henc h d0 d1
  have hlen : (henc wz sz dn sm).length = 6 + (hD dn).length + (hV sz).length := by rw [henc_pre]; simp; omega
  have hd10 : bs.drop (6 + (hD dn).length) = hV sz ++ rest := by rw [← List.drop_drop, pre_6 h, List.drop_left]
  have hwb : hw ((hb wz : Nat) : Int) = wz := hv.2.2.2
  have hw1 := hv.low
  have HS : hsize bs 0 (6 + (hD dn).length) = (if 0 ≤ sz then sz else -1, (henc wz sz dn sm).length, 0) := by
    by_cases hs : 0 ≤ sz
    · rw [hsize_do (by rw [pre_4 h, hbits_s]; exact hs), gvar_vi hs hv.2.2.1 (rest := rest) (by rw [hd10, hV, if_pos hs]), if_pos hs, hlen, hV, if_pos hs]
    · rw [hsize_skip (by rw [pre_4 h, hbits_s]; exact hs), if_neg hs, hlen, hV, if_neg hs]; rfl
  rw [← hbs, gh_of h (hbits_7 _ _ _) (by rw [hwb]; omega) HD (by rw [hbits_d]; exact fun h => h.1 h.2) HS, hwb]
  congr 4
  simp only [hbits_m, Bool.decide_eq_true]
theorem gvar_trunc {bs : List Int} {p j : Nat} {n : Int} (h0 : 0 ≤ n) (h1 : n ≤ 4611686018427387903) (hd : bs.drop p = (vi n).take j) (hj : j < (vi n).length) (hp : p ≤ bs.length) : gvar bs p = (0, p, 3) := by
  have h9 := vi_9 h0 h1
  have hl := congrArg List.length hd
  rw [List.length_drop, List.length_take] at hl
  have hr := (vr_run (vi n) 9 [] (vi_vr h0 (by omega)).1 (by omega)).1
  rw [List.append_nil] at hr
  refine gvar_short (k := j) (by omega) (by omega) fun i hi => ?_
  have h2 := run_all 9 (vi n) i (by omega)
  rwa [← gd_drop, hd, gd_take hi]
theorem ghead_cut (hv : Hv wz sz) (d0 : 0 ≤ dn) (d1 : dn < 4294967296) {k : Nat} (hk : k < (henc wz sz dn sm).length) : ghead ((henc wz sz dn sm).take k) 0 = (hz, 0, 3) := by
  obtain ⟨bs, hbs⟩ : ∃ bs, bs = (henc wz sz dn sm).take k := ⟨_, rfl⟩
  have hlen : (henc wz sz dn sm).length = 6 + (hD dn).length + (hV sz).length := by rw [henc_pre]; simp; omega
  have hbl : bs.length = k := by rw [hbs, List.length_take]; omega
  rw [← hbs]
  by_cases h4 : k < 4
  · rw [gh_mk (by rw [hmk_short (by omega)]; decide), hmk_short (by omega)]
  have hp4 : bs = [80, 77, 84, 30] ++ ([hbits sz dn sm, (hb wz : Int)] ++ (hD dn ++ hV sz)).take (k - 4) := by
    rw [hbs, henc_pre, show [80, 77, 84, 30, hbits sz dn sm, (hb wz : Int)] ++ (hD dn ++ hV sz) = [80, 77, 84, 30] ++ ([hbits sz dn sm, (hb wz : Int)] ++ (hD dn ++ hV sz)) from rfl, List.take_append, List.take_of_length_le (by simp; omega)]; rfl
  have HM := pre_hm hp4
  by_cases h5 : k < 5
  · exact gh_5 HM (by omega)
  have e4 : bs.getD (0 + 4) 0 = hbits sz dn sm := by rw [hbs, gd_take (by omega), henc_pre]; rfl
  by_cases h6 : k < 6
  · exact gh_6 HM (by omega) (by rw [e4]; exact hbits_7 _ _ _) (by omega)
  have h : bs = [80, 77, 84, 30, hbits sz dn sm, (hb wz : Int)] ++ (hD dn ++ hV sz).take (k - 6) := by
    rw [hbs, henc_pre, List.take_append, List.take_of_length_le (by simp; omega)]; rfl
  have hwb : hw ((hb wz : Nat) : Int) = wz := hv.2.2.2
  have hw1 := hv.low
  by_cases h10 : k < 6 + (hD dn).length
  · have hdn : dn ≠ 0 := fun e => by rw [hD, if_pos e] at h10; simp at h10; omega
    have h104 : (hD dn).length = 4 := by rw [hD, if_neg hdn]; rfl
    have HD : hdict bs 0 = (0, 6, 3) := by
      rw [hdict_do (by rw [e4, hbits_d]; exact hdn)]
      unfold gword
      rw [if_pos (by omega)]
    have := gh_dict HM (by rw [e4]; exact hbits_7 _ _ _) (by omega) (by rw [pre_5 h, hwb]; omega) (by rw [HD]; decide)
    rw [this, HD]
  · have h' : bs = [80, 77, 84, 30, hbits sz dn sm, (hb wz : Int)] ++ (hD dn ++ (hV sz).take (k - 6 - (hD dn).length)) := by
      rw [h, List.take_append, List.take_of_length_le (by omega)]
    have HD := hdict_henc h' d0 d1
    have hs : 0 ≤ sz := by
      rcases Int.lt_or_le sz 0 with h1 | h1
      · rw [hV, if_neg (by omega)] at hlen; simp at hlen; omega
      · exact h1
    have hVl : (hV sz) = vi sz := by rw [hV, if_pos hs]
    have hd10 : bs.drop (6 + (hD dn).length) = (vi sz).take (k - 6 - (hD dn).length) := by rw [← List.drop_drop, pre_6 h', List.drop_left, hVl]
    have HS : hsize bs 0 (6 + (hD dn).length) = (0, 6 + (hD dn).length, 3) := by
      rw [hsize_do (by rw [e4, hbits_s]; exact hs)]
      exact gvar_trunc hs hv.2.2.1 hd10 (by rw [hVl] at hlen; omega) (by omega)
    exact gh_szerr h (hbits_7 _ _ _) (by rw [hwb]; omega) HD (by rw [hbits_d]; exact fun h => h.1 h.2) HS (by decide)
theorem ghead_alt {i : Nat} {v : Int} (hi : i < 4) (hv : v ≠ (henc wz sz dn sm).getD i 0) : ghead ((henc wz sz dn sm).set i v) 0 = (hz, 0, 6) := by
  obtain ⟨r, hr⟩ : ∃ r, henc wz sz dn sm = frm ++ r := ⟨_, by rw [henc_pre]; rfl⟩
  have h6 := henc_6 (wz := wz) (sz := sz) (dn := dn) (sm := sm)
  rw [hr] at h6
  simp only [List.length_append, frm, List.length_cons, List.length_nil] at h6
  rw [hr] at hv ⊢
  rw [set_hd (by simpa [frm] using hi)]
  have ht : (((frm.set i v) ++ r).drop 0).take 4 = frm.set i v := by rw [List.drop_zero, List.take_append_of_le_length (by simp [frm]), List.take_of_length_le (by simp [frm])]
  have hl : ((frm.set i v) ++ r).length = 4 + r.length := by rw [List.length_append, List.length_set]; rfl
  have hne : ¬ (((frm.set i v) ++ r).drop 0).take 4 = frm := by
    rw [ht]
    intro e
    apply hv
    have e2 : (frm.set i v).getD i 0 = v := by rw [List.getD_eq_getElem?_getD, List.getElem?_set_self (by simpa [frm] using hi)]; rfl
    rw [getD_hd (by simpa [frm] using hi), ← e2, e]
  by_cases hs : (((frm.set i v) ++ r).drop 0).take 4 = skp
  · exact gh_kind (by rw [hmk_skp (by omega) hne hs]) (by rw [hmk_skp (by omega) hne hs]; decide)
  · have := hmk_no (by omega) hne hs
    rw [gh_mk (by rw [this]; decide), this]
end
/-! ### what is decoded encodes to the same bytes -/
theorem ghead_err {bs : List Int} {p : Nat} (h : (ghead bs p).2.2 ≠ 0) : (ghead bs p).2.1 = p := by
  by_cases c1 : (hmk bs p).2 ≠ 0
  · rw [gh_mk c1]
  have c1' := Classical.not_not.1 c1
  by_cases c2 : (hmk bs p).1 ≠ 1
  · rw [gh_kind c1' c2]
  have HM : Hm bs p := ⟨c1', Classical.not_not.1 c2⟩
  by_cases c3 : bs.length < p + 5
  · rw [gh_5 HM c3]
  by_cases c4 : 7 < bs.getD (p + 4) 0
  · rw [gh_bits HM c3 c4]
  by_cases c5 : bs.length < p + 6
  · rw [gh_6 HM c3 c4 c5]
  by_cases c6 : hw (bs.getD (p + 5) 0) = 0
  · rw [gh_win HM c3 c4 c5 c6]
  by_cases c7 : (hdict bs p).2.2 = 0
  · by_cases c8 : bs.getD (p + 4) 0 / 4 = 1 ∧ (hdict bs p).1 = 0
    · rw [gh_zero HM c4 c5 c6 c7 c8]
    by_cases c9 : (hsize bs p (hdict bs p).2.1).2.2 = 0
    · rw [gh_ok HM c4 c5 c6 c7 c8 c9] at h; exact absurd rfl h
    · rw [gh_size HM c4 c5 c6 c7 c8 c9]
  · rw [gh_dict HM c4 c5 c6 c7]
theorem ghead_le {bs : List Int} {p : Nat} (hp : p ≤ bs.length) : (ghead bs p).2.1 ≤ bs.length := by
  by_cases h : (ghead bs p).2.2 = 0
  · have hq : (hdict bs p).2.1 ≤ bs.length ∨ (ghead bs p).2.1 = p := by
      by_cases c : bs.length < p + 6
      · right
        by_cases c1 : (hmk bs p).2 ≠ 0
        · rw [gh_mk c1]
        have c1' := Classical.not_not.1 c1
        by_cases c2 : (hmk bs p).1 ≠ 1
        · rw [gh_kind c1' c2]
        have HM : Hm bs p := ⟨c1', Classical.not_not.1 c2⟩
        by_cases c3 : bs.length < p + 5
        · rw [gh_5 HM c3]
        by_cases c4 : 7 < bs.getD (p + 4) 0
        · rw [gh_bits HM c3 c4]
        rw [gh_6 HM c3 c4 c]
      · by_cases d : bs.getD (p + 4) 0 / 4 = 1
        · rw [hdict_do d]
          left
          unfold gword
          split
          · show p + 6 ≤ _; omega
          · show p + 6 + 4 ≤ _; omega
        · rw [hdict_skip d]; left; show p + 6 ≤ _; omega
    rcases hq with hq | hq
    · have hs : (hsize bs p (hdict bs p).2.1).2.1 ≤ bs.length := by
        by_cases s : bs.getD (p + 4) 0 % 2 = 1
        · rw [hsize_do s]; exact (gvar_props bs _ hq).2.2.1
        · rw [hsize_skip s]; exact hq
      unfold ghead
      repeat' split
      all_goals first | exact hp | exact hs
    · omega
  · rw [ghead_err h]; exact hp
theorem word_wval {l : List Int} (hb : Byt l) (h : l.length = 4) : word (wval l) = l := by
  match l, h with
  | [a, b, c, d], _ =>
    have ha := hb a (by simp)
    have hb' := hb b (by simp)
    have hc := hb c (by simp)
    have hd := hb d (by simp)
    simp only [wval, word, List.cons.injEq, and_true]
    omega
theorem hdict_inv {bs : List Int} (hb : Byt bs) (h6 : 6 ≤ bs.length) (h : (hdict bs 0).2.2 = 0) (hz : ¬ (bs.getD (0 + 4) 0 / 4 = 1 ∧ (hdict bs 0).1 = 0)) :
    (bs.drop 6).take (hD (hdict bs 0).1).length = hD (hdict bs 0).1 ∧ (hdict bs 0).2.1 = 6 + (hD (hdict bs 0).1).length ∧ (hdict bs 0).2.1 ≤ bs.length ∧ 0 ≤ (hdict bs 0).1 ∧ (hdict bs 0).1 < 4294967296 ∧ ((hdict bs 0).1 ≠ 0 ↔ bs.getD (0 + 4) 0 / 4 = 1) := by
  by_cases c : bs.getD (0 + 4) 0 / 4 = 1
  · have e := hdict_do (p := 0) c
    rw [e] at h hz ⊢
    have hi := gword_in h
    have hle := gword_le hb (0 + 6)
    have hn : (gword bs (0 + 6)).1 ≠ 0 := fun e => hz ⟨c, e⟩
    have hDe : hD (gword bs (0 + 6)).1 = word (gword bs (0 + 6)).1 := if_neg hn
    have hw : word (gword bs (0 + 6)).1 = (bs.drop 6).take 4 := by
      have : (gword bs (0 + 6)).1 = wval ((bs.drop 6).take 4) := by unfold gword; rw [if_neg (by omega)]
      rw [this]
      exact word_wval (byt_take (byt_drop hb _) _) (by rw [List.length_take, List.length_drop]; omega)
    have hwl : (word (gword bs (0 + 6)).1).length = 4 := rfl
    rw [hDe, hwl]
    exact ⟨hw.symm, by omega, by omega, hle.1, hle.2, fun _ => c, fun _ => hn⟩
  · have e := hdict_skip (p := 0) c
    rw [e]
    exact ⟨rfl, rfl, h6, Int.le_refl _, by decide, fun h => absurd rfl h, fun h => absurd h c⟩
theorem hsize_inv {bs : List Int} (hb : Byt bs) {q : Nat} (hq : q ≤ bs.length) (h : (hsize bs 0 q).2.2 = 0) :
    (bs.drop q).take (hV (hsize bs 0 q).1).length = hV (hsize bs 0 q).1 ∧ (hsize bs 0 q).2.1 = q + (hV (hsize bs 0 q).1).length ∧ (hsize bs 0 q).2.1 ≤ bs.length ∧ -1 ≤ (hsize bs 0 q).1 ∧ (hsize bs 0 q).1 ≤ 4611686018427387903 ∧ (0 ≤ (hsize bs 0 q).1 ↔ bs.getD (0 + 4) 0 % 2 = 1) := by
  by_cases c : bs.getD (0 + 4) 0 % 2 = 1
  · have e := hsize_do (q := q) (p := 0) c
    rw [e] at h ⊢
    have hp := gvar_props bs q hq
    have ho := gvar_once hb h
    have hVe : hV (gvar bs q).1 = vi (gvar bs q).1 := if_pos hp.1
    rw [hVe]
    refine ⟨?_, ho.2, hp.2.2.1, by omega, hp.2.1, fun _ => c, fun _ => hp.1⟩
    have := ho.1
    rwa [ho.2, Nat.add_sub_cancel_left] at this
  · have e := hsize_skip (q := q) (p := 0) c
    rw [e]
    exact ⟨rfl, rfl, hq, Int.le_refl _, by show (-1 : Int) ≤ _; decide, fun h => absurd (show (0 : Int) ≤ -1 from h) (by decide), fun h => absurd h c⟩
theorem hb_W {W : Int} (h0 : 0 ≤ W) (h1 : W ≤ 136) : ((Go.Proofs.Ytflmjdnhjbiobaa.hb (hw W) : Nat) : Int) = W := by
  have := hb_hw (n := W.toNat) (by omega)
  rw [show ((W.toNat : Nat) : Int) = W from by omega] at this
  omega
theorem ghead_back {bs : List Int} (hb : Byt bs) (h : (ghead bs 0).2.2 = 0) :
    Hv (ghead bs 0).1.1 (ghead bs 0).1.2.1 ∧ (0 ≤ (ghead bs 0).1.2.2.1 ∧ (ghead bs 0).1.2.2.1 < 4294967296) ∧ -1 ≤ (ghead bs 0).1.2.1 ∧
    henc (ghead bs 0).1.1 (ghead bs 0).1.2.1 (ghead bs 0).1.2.2.1 (ghead bs 0).1.2.2.2 = bs.take (ghead bs 0).2.1 ∧ (ghead bs 0).2.1 ≤ bs.length := by
  have hm2 : (hmk bs 0).2 = 0 := Classical.byContradiction fun e => by rw [gh_mk e] at h; exact e h
  have hm1 : (hmk bs 0).1 = 1 := Classical.byContradiction fun e => by rw [gh_kind hm2 e] at h; simp at h
  have HM : Hm bs 0 := ⟨hm2, hm1⟩
  have h5 : ¬ bs.length < 0 + 5 := fun e => by rw [gh_5 HM e] at h; simp at h
  have h7 : ¬ 7 < bs.getD (0 + 4) 0 := fun e => by rw [gh_bits HM h5 e] at h; simp at h
  have h6 : ¬ bs.length < 0 + 6 := fun e => by rw [gh_6 HM h5 h7 e] at h; simp at h
  have hw0 : ¬ hw (bs.getD (0 + 5) 0) = 0 := fun e => by rw [gh_win HM h5 h7 h6 e] at h; simp at h
  have hd0 : (hdict bs 0).2.2 = 0 := Classical.byContradiction fun e => by rw [gh_dict HM h7 h6 hw0 e] at h; exact e h
  have hdz : ¬ (bs.getD (0 + 4) 0 / 4 = 1 ∧ (hdict bs 0).1 = 0) := fun e => by rw [gh_zero HM h7 h6 hw0 hd0 e] at h; simp at h
  have hs0 : (hsize bs 0 (hdict bs 0).2.1).2.2 = 0 := Classical.byContradiction fun e => by rw [gh_size HM h7 h6 hw0 hd0 hdz e] at h; exact e h
  have HG := gh_ok HM h7 h6 hw0 hd0 hdz hs0
  rw [HG]
  dsimp only
  have hb4 := byt_gd hb (0 + 4)
  have hb5 := byt_gd hb (0 + 5)
  have hfr : bs.take 4 = frm := by
    have := hm1
    unfold hmk at this
    rw [if_neg (by omega), List.drop_zero] at this
    split at this
    · assumption
    · split at this <;> simp at this
  have h : bs = [80, 77, 84, 30, bs.getD (0 + 4) 0, bs.getD (0 + 5) 0] ++ bs.drop 6 := by
    have e : bs.take 6 = [80, 77, 84, 30, bs.getD (0 + 4) 0, bs.getD (0 + 5) 0] := by
      rw [take_getD (i := 5) (by omega), take_getD (i := 4) (by omega), hfr]; rfl
    rw [← e, List.take_append_drop]
  obtain ⟨a1, a2, a3, a4, a5, a6⟩ := hdict_inv hb (by omega) hd0 hdz
  obtain ⟨b1, b2, b3, b4, b5, b6⟩ := hsize_inv hb a3 hs0
  generalize hq : (hdict bs 0).2.1 = q at *
  generalize hdn : (hdict bs 0).1 = dn at *
  generalize hs : (hsize bs 0 q).1 = s at *
  generalize hq2 : (hsize bs 0 q).2.1 = q2 at *
  generalize hB : bs.getD (0 + 4) 0 = B at *
  generalize hW : bs.getD (0 + 5) 0 = W at *
  obtain ⟨w0, w1, w2⟩ : 1024 ≤ hw W ∧ hw W ≤ 134217728 ∧ W ≤ 136 := by have := hw_bd hb5.1 hb5.2; omega
  have hbw : ((Go.Proofs.Ytflmjdnhjbiobaa.hb (hw W) : Nat) : Int) = W := hb_W hb5.1 w2
  refine ⟨⟨by omega, w1, b5, by rw [hbw]⟩, ⟨a4, a5⟩, b4, ?_, b3⟩
  have hbi : hbits s dn (decide (B / 2 % 2 = 1)) = B := by
    unfold hbits
    have : B / 4 = 0 ∨ B / 4 = 1 := by omega
    have e1 : (if dn = 0 then (0 : Int) else 4) = B / 4 * 4 := by
      by_cases c : dn = 0
      · rw [if_pos c]; have := mt a6.2 (fun h => h c); omega
      · rw [if_neg c]; have := a6.1 c; omega
    have e2 : (if 0 ≤ s then (1 : Int) else 0) = B % 2 := by
      by_cases c : 0 ≤ s
      · rw [if_pos c]; have := b6.1 c; omega
      · rw [if_neg c]; have := mt b6.2 c; omega
    have e3 : (if decide (B / 2 % 2 = 1) = true then (2 : Int) else 0) = B / 2 % 2 * 2 := by
      by_cases c : B / 2 % 2 = 1
      · rw [if_pos (decide_eq_true c)]; omega
      · rw [if_neg (by simpa using c)]; omega
    rw [e1, e2, e3]; omega
  have hq6 : q2 = 6 + ((hD dn).length + (hV s).length) := by omega
  rw [henc_pre, hbi, show ((Go.Proofs.Ytflmjdnhjbiobaa.hb (hw W) : Nat) : Int) = W from hbw]
  have hdq : bs.drop q = (bs.drop 6).drop (hD dn).length := by rw [List.drop_drop, a2]
  rw [hdq] at b1
  have ht : (bs.drop 6).take ((hD dn).length + (hV s).length) = hD dn ++ hV s := by rw [List.take_add, a1, b1]
  rw [← ht, hq6]
  conv => rhs; rw [h]
  rw [List.take_append]
  congr 1
  · exact (List.take_of_length_le (by simp)).symm
  · congr 1
    simp
/-! ### skippable frames -/
def gskip (bs : List Int) (p : Nat) : List Int × Nat × Int :=
  if (hmk bs p).2 ≠ 0 then ([], p, (hmk bs p).2) else if (hmk bs p).1 = 1 then ([], p, 6) else if (gword bs (p + 4)).2.2 ≠ 0 then ([], p, (gword bs (p + 4)).2.2) else
  if (gbytes bs (p + 8) (gword bs (p + 4)).1).2.2 ≠ 0 then ([], p, (gbytes bs (p + 8) (gword bs (p + 4)).1).2.2) else gbytes bs (p + 8) (gword bs (p + 4)).1
theorem gs_mk {bs : List Int} {p : Nat} (h : (hmk bs p).2 ≠ 0) : gskip bs p = ([], p, (hmk bs p).2) := if_pos h
theorem gs_kind {bs : List Int} {p : Nat} (h : (hmk bs p).2 = 0) (h2 : (hmk bs p).1 = 1) : gskip bs p = ([], p, 6) := by unfold gskip; rw [if_neg (by omega), if_pos h2]
theorem gs_word {bs : List Int} {p : Nat} (h : (hmk bs p).2 = 0) (h2 : ¬ (hmk bs p).1 = 1) (h3 : (gword bs (p + 4)).2.2 ≠ 0) : gskip bs p = ([], p, (gword bs (p + 4)).2.2) := by unfold gskip; rw [if_neg (by omega), if_neg h2, if_pos h3]
theorem gs_err {bs : List Int} {p : Nat} (h : (hmk bs p).2 = 0) (h2 : ¬ (hmk bs p).1 = 1) (h3 : (gword bs (p + 4)).2.2 = 0) (h4 : (gbytes bs (p + 8) (gword bs (p + 4)).1).2.2 ≠ 0) : gskip bs p = ([], p, (gbytes bs (p + 8) (gword bs (p + 4)).1).2.2) := by
  unfold gskip; rw [if_neg (by omega), if_neg h2, if_neg (by omega), if_pos h4]
theorem gs_ok {bs : List Int} {p : Nat} (h : (hmk bs p).2 = 0) (h2 : ¬ (hmk bs p).1 = 1) (h3 : (gword bs (p + 4)).2.2 = 0) (h4 : (gbytes bs (p + 8) (gword bs (p + 4)).1).2.2 = 0) : gskip bs p = gbytes bs (p + 8) (gword bs (p + 4)).1 := by
  unfold gskip; rw [if_neg (by omega), if_neg h2, if_neg (by omega), if_neg (by omega)]
theorem hmk_12 {bs : List Int} {p : Nat} (h : (hmk bs p).2 = 0) : (hmk bs p).1 = 1 ∨ (hmk bs p).1 = 2 := by
  unfold hmk at h ⊢
  split
  · rename_i c; rw [if_pos c] at h; simp at h
  · rename_i c; rw [if_neg c] at h
    split
    · simp
    · rename_i c2; rw [if_neg c2] at h
      split
      · simp
      · rename_i c3; rw [if_neg c3] at h; simp at h
theorem hmk_len {bs : List Int} {p : Nat} (h : (hmk bs p).2 = 0) : ¬ bs.length < p + 4 := fun h2 => by have := hmk_short h2; simp_all
def skb (xs : List Int) : List Int := [80, 77, 84, 83] ++ word xs.length ++ xs
theorem skb_len (xs : List Int) : (skb xs).length = xs.length + 8 := by simp [skb, word]
theorem skb_byt {xs : List Int} (h : Byt xs) (hn : xs.length < 4294967296) : Byt (skb xs) := by
  unfold skb
  refine byt_app (byt_app ?_ (word_byt (by omega) (by omega))) h
  intro x hx; simp at hx; omega
theorem skp_mk {bs r : List Int} (h : bs = [80, 77, 84, 83] ++ r) : hmk bs 0 = (2, 0) := by subst h; exact hmk_skp (by simp) (by simp [frm]) (by simp [skp])
theorem gskip_skb {xs : List Int} (hn : xs.length < 4294967296) (rest : List Int) : gskip (skb xs ++ rest) 0 = (xs, xs.length + 8, 0) := by
  obtain ⟨bs, hbs⟩ : ∃ bs, bs = skb xs ++ rest := ⟨_, rfl⟩
  have h : bs = [80, 77, 84, 83] ++ (word xs.length ++ (xs ++ rest)) := by rw [hbs, skb]; simp
  rw [← hbs]
  have hm := skp_mk h
  have hw : gword bs (0 + 4) = ((xs.length : Int), 8, 0) := gword_word (rest := xs ++ rest) (by omega) (by omega) (by subst h; rfl)
  have hg : gbytes bs (0 + 8) (gword bs (0 + 4)).1 = (xs, 8 + xs.length, 0) := gbytes_at (rest := rest) (by rw [hw]) (by subst h; simp [word]) (by subst h; simp [word])
  rw [gs_ok (by rw [hm]) (by rw [hm]; decide) (by rw [hw]) (by rw [hg]), hg, Nat.add_comm]
theorem gskip_cut {xs : List Int} (hn : xs.length < 4294967296) {k : Nat} (hk : k < (skb xs).length) : gskip ((skb xs).take k) 0 = ([], 0, 3) := by
  obtain ⟨bs, hbs⟩ : ∃ bs, bs = (skb xs).take k := ⟨_, rfl⟩
  have hsl := skb_len xs
  have hl : bs.length = k := by rw [hbs, List.length_take]; omega
  rw [← hbs]
  by_cases h4 : k < 4
  · rw [gs_mk (by rw [hmk_short (by omega)]; decide), hmk_short (by omega)]
  have h : bs = [80, 77, 84, 83] ++ (word xs.length ++ xs).take (k - 4) := by
    rw [hbs, show skb xs = [80, 77, 84, 83] ++ (word xs.length ++ xs) from by unfold skb; simp, List.take_append, List.take_of_length_le (by simp; omega)]; rfl
  have hm := skp_mk h
  by_cases h8 : k < 8
  · have hw : gword bs (0 + 4) = (0, 4, 3) := by unfold gword; rw [if_pos (by omega)]
    rw [gs_word (by rw [hm]) (by rw [hm]; decide) (by rw [hw]; decide), hw]
  · have h' : bs.drop (0 + 4) = word xs.length ++ xs.take (k - 8) := by
      have : bs.drop (0 + 4) = (word xs.length ++ xs).take (k - 4) := by rw [h]; rfl
      rw [this, List.take_append, List.take_of_length_le (by simp [word]; omega)]; rfl
    have hw : gword bs (0 + 4) = ((xs.length : Int), 8, 0) := gword_word (by omega) (by omega) h'
    have hg : gbytes bs (0 + 8) (gword bs (0 + 4)).1 = ([], 8, 3) := gbytes_long (by rw [hw]; dsimp only; omega) (by rw [hw]; dsimp only; omega)
    rw [gs_err (by rw [hm]) (by rw [hm]; decide) (by rw [hw]) (by rw [hg]; decide), hg]
end Go.Proofs.Ytflmjdnhjbiobaa
