/-
 Walks, printed by a small program of this project (gen.py).
-/
import Derived.Test.YtilegaokfamfnaaZm
set_option linter.unusedVariables false
set_option linter.unusedSimpArgs false
namespace Go.Proofs.Ytilegaokfamfnaa
open Go.Fw

theorem byt_take {l : List Int} (h : Byt l) (k : Nat) : Byt (l.take k) := h.take k
theorem byt_drop {l : List Int} (h : Byt l) (k : Nat) : Byt (l.drop k) := h.drop k
theorem enF_hs {l b : List Int} (hr : Rt l) (h : (enF l b).2 = true) : Hs l b := by
 rcases Classical.em (Hs l b) with h1 | h1
 ·exact h1
 ·rw [enF_f hr h1] at h; cases h
theorem ctF_bd {l b : List Int} (hb : Byt b) : 0 ≤ (ctF l b).1 ∧ (ctF l b).1 ≤ 8 * (b.length : Int) := by
 unfold ctF
 split
 ·exact ⟨by decide, by show (0 : Int) ≤ _; omega⟩
 ·next hr =>
  split
  ·exact ⟨by decide, by show (0 : Int) ≤ _; omega⟩
  ·next hc =>
   have h1 := (nb_spec (Classical.not_not.1 hr) (wn b) (tbt b)).2.2
   have h2 := (cl_bd hb (Classical.not_not.1 hc)).2.2.2
   split
   ·show 0 ≤ ((nb l (wn b) (tbt b) : Nat) : Int) ∧ ((nb l (wn b) (tbt b) : Nat) : Int) ≤ _
    omega
   ·exact ⟨by decide, by show (0 : Int) ≤ _; omega⟩
theorem dcF_len {l b : List Int} (hb : Byt b) (n : Int) : (dcF l b n).1.length ≤ 8 * b.length := by
 unfold dcF
 split
 ·simp
 ·next hr =>
  split
  ·simp
  ·split
   ·simp
   ·next hc =>
    have h1 := (nb_spec (Classical.not_not.1 hr) (wn b) (tbt b)).2.2
    have h2 := (cl_bd hb (Classical.not_not.1 hc)).2.2.2
    split
    ·next h =>
     have h3 := (gd_le (Classical.not_not.1 hr)).1 h.1
     show (yms l (wn b) (tbt b) n.toNat).length ≤ _
     rw [yms_len]; omega
    ·simp
theorem hold_a {l s : List Int} (hr : Rt l) (hs : Byt s) (hl : s.length ≤ 200) (h : (ctF l s).2 = 0) : (dcF l s (ctF l s).1).2 = 0 ∧ ecF l (dcF l s (ctF l s).1).1 = (s, 0) := by
 have hc : Cl s := Classical.byContradiction fun hc => by
  unfold ctF at h; rw [if_neg (not_not_intro hr), if_pos hc] at h; exact absurd h (by decide)
 have h0 : st l (wn s) (tbt s) (nb l (wn s) (tbt s)) = 0 := Classical.byContradiction fun h0 => by
  unfold ctF at h; rw [if_neg (not_not_intro hr), if_neg (not_not_intro hc), if_neg h0] at h; exact absurd h (by decide)
 have hn := nb_spec hr (wn s) (tbt s)
 have h2 := (cl_bd hs hc).2.2.2
 have ec : ctF l s = (((nb l (wn s) (tbt s) : Nat) : Int), 0) := by
  unfold ctF; rw [if_neg (not_not_intro hr), if_neg (not_not_intro hc), if_pos h0]
 have e : dcF l s ((nb l (wn s) (tbt s) : Nat) : Int) = (yms l (wn s) (tbt s) (nb l (wn s) (tbt s)), 0) := by
  unfold dcF
  rw [if_neg (not_not_intro hr), if_neg (not_not_intro ⟨by omega, by omega⟩), if_neg (not_not_intro hc), Int.toNat_natCast, if_pos ⟨hn.1, h0⟩]
 have ho := out_dec hr hs hc hn.1 h0
 rw [ec]
 show (dcF l s ((nb l (wn s) (tbt s) : Nat) : Int)).2 = 0 ∧ ecF l (dcF l s ((nb l (wn s) (tbt s) : Nat) : Int)).1 = (s, 0)
 rw [e]
 refine ⟨rfl, ?_⟩
 show ecF l (yms l (wn s) (tbt s) (nb l (wn s) (tbt s))) = (s, 0)
 unfold ecF
 rw [if_neg (not_not_intro hr), if_neg (not_not_intro ho.2), ho.1]
theorem hold_e {l b : List Int} (hr : Rt l) (h : Hs l b) : ecF l b = (out l b, 0) := by
 unfold ecF; rw [if_neg (not_not_intro hr), if_neg (not_not_intro h)]
theorem hold_l {l b : List Int} (hr : Rt l) (h : Hs l b) : blF l b = (((eL l b : Nat) : Int), 0) := by
 unfold blF; rw [if_neg (not_not_intro hr), if_neg (not_not_intro h)]
theorem hold_d {l b : List Int} {m : Nat} (hr : Rt l) (hb : Byt b) (h : Hs l b) (hm : b.length = m) (hl : m ≤ 300) : dcF l (out l b) ((m : Nat) : Int) = (b, 0) := by
 obtain ⟨h1, h2, h3⟩ := out_cl hr h
 have hw := (cv_bd hr h).2.2
 have h4 := nb_enc hr hb h hw
 have h5 := yms_enc hr hb h hw
 unfold dcF
 rw [if_neg (not_not_intro hr), if_neg (not_not_intro ⟨by omega, by omega⟩), if_neg (not_not_intro h1), Int.toNat_natCast, if_pos ((gd_end hr).2 (by rw [h2, h3, h4.1]; exact ⟨hm.symm, h4.2⟩)), h2, h3, ← hm, h5]
theorem hold_x {l b : List Int} {m : Nat} {n : Int} (hr : Rt l) (hb : Byt b) (h : Hs l b) (hm : b.length = m) (h0 : 0 ≤ n) (hn : n ≤ 131072) (hne : n ≠ ((m : Nat) : Int)) : dcF l (out l b) n = ([], 14) := by
 obtain ⟨h1, h2, h3⟩ := out_cl hr h
 have h4 := nb_enc hr hb h (cv_bd hr h).2.2
 unfold dcF
 rw [if_neg (not_not_intro hr), if_neg (not_not_intro ⟨h0, hn⟩), if_neg (not_not_intro h1), if_neg fun hx => by
  have h6 := ((gd_end hr).1 hx).1
  rw [h2, h3, h4.1] at h6; omega]
theorem hold_n {l x : List Int} {n : Int} (hr : Rt l) (h : n < 0) : dcF l x n = ([], 2) := by
 unfold dcF; rw [if_neg (not_not_intro hr), if_pos (by omega)]
theorem hold_s (l b : List Int) (k : Nat) : eL l (b.take k) + eL l (b.drop k) = eL l b := by rw [← eL_app, List.take_append_drop]
theorem Hs.take' {l b : List Int} (h : Hs l b) (k : Nat) : Hs l (b.take k) := fun x hx => h x (List.mem_of_mem_take hx)
theorem mod_nat17 {x : Int} {m : Nat} (h : 0 ≤ x) : ∃ k : Nat, x % (((m : Nat) : Int) + 1) = ((k : Nat) : Int) ∧ k ≤ m := by
 have h1 := Int.emod_nonneg x (b := (m : Int) + 1) (by omega)
 have h2 := Int.emod_lt_of_pos x (b := (m : Int) + 1) (by omega)
 exact ⟨(x % ((m : Int) + 1)).toNat, by omega, by omega⟩

set_option maxHeartbeats 4000000 in
set_option maxRecDepth 100000 in
theorem oneholds {a a2 a3 : Option Addr} {n c m d p q : Nat} {l b s : List Int} {cut : Int} (w : World) (hs : Sl w (fun g => g < w.heap.size) 1 (.slice a n c) n (ints .i64 l)) (hn : n ≤ 17592186044415) (hsb : Sl w (fun g => g < w.heap.size) 1 (.slice a2 m d) m (ints .u8 b)) (hb : Byt b) (hm : m ≤ 140737488351232) (hss : Sl w (fun g => g < w.heap.size) 1 (.slice a3 p q) p (ints .u8 s)) (hbs : Byt s) (hp : p ≤ 140737488351232) (rcut : 0 ≤ cut ∧ cut ≤ 65535) :
  Calls Try.prog 10 #[.slice a n c, .slice a2 m d, .int .u16 cut, .slice a3 p q] w (Ret fun v w' => v = .bool true ∧ Upd No w w') := by
 have HU : Upd (fun b => False) w w := Upd.refl _ _
 have hl_hs := ilen hs
 have hc_hs := hs.cap.1
 have hl_hsb := ilen hsb
 have hc_hsb := hsb.cap.1
 have hl_hss := ilen hss
 have hc_hss := hss.cap.1
 refine calls_of_W Try.func10 rfl Try.ntmps10 (by simp) ?_
 refine W_seq ?_
 refine W_region ?_
 refine Wl_v (r_as (v := .bool false) rfl) ?_
 refine Wl_nil ?_
 refine W_seq ?_
 refine W_seq ?_
 refine W_region ?_
 refine Wl_v (r_mv (v := .slice a n c) rfl) ?_
 refine Wl_v (r_len Try.underlying22 rfl) ?_
 refine Wl_v (r_gt rfl rfl) ?_
 refine Wl_v (r_mv (v := .bool (decide (256 < ((n : Nat) : Int)))) rfl) ?_
 by_cases q1 : 256 < ((n : Nat) : Int)
 ·rw [decide_eq_true q1]
  refine Wl_guard_f rfl ?_
  refine Wl_guard_f rfl ?_
  refine Wl_guard_f rfl ?_
  refine Wl_v (r_pick_t (v := .bool true) rfl rfl) ?_
  refine Wl_v (r_mv (v := .bool true) rfl) ?_
  refine Wl_guard_f rfl ?_
  refine Wl_guard_f rfl ?_
  refine Wl_guard_f rfl ?_
  refine Wl_v (r_pick_t (v := .bool true) rfl rfl) ?_
  refine Wl_v (r_mv (v := .bool true) rfl) ?_
  refine Wl_guard_f rfl ?_
  refine Wl_guard_f rfl ?_
  refine Wl_guard_f rfl ?_
  refine Wl_v (r_pick_t (v := .bool true) rfl rfl) ?_
  refine Wl_nil ?_
  refine W_cond_t rfl ?_
  refine W_seq ?_
  refine W_region ?_
  refine Wl_call (r_call0 rfl Try.call11 ) (works17 _ ) ?_
  rintro v w1 ⟨rfl, hU1⟩
  have hzw1 := hU1.size
  replace HU := HU.trans0 hU1
  refine Wl_v (r_as (v := .bool true) rfl) ?_
  refine Wl_nil ?_
  refine W_ret ?_
  refine ret_end (v := .bool true) rfl (res1 Try.results10 rfl) ?_
  exact ⟨_, rfl, rfl, HU⟩
 ·rw [decide_eq_false q1]
  refine Wl_guard_t rfl ?_
  refine Wl_v (r_mv (v := .slice a2 m d) rfl) ?_
  refine Wl_guard_t rfl ?_
  refine Wl_v (r_len Try.underlying23 rfl) ?_
  refine Wl_guard_t rfl ?_
  refine Wl_v (r_gt rfl rfl) ?_
  refine Wl_v (r_pick_f (v := .bool (decide (300 < ((m : Nat) : Int)))) rfl rfl) ?_
  refine Wl_v (r_mv (v := .bool (decide (300 < ((m : Nat) : Int)))) rfl) ?_
  by_cases q2 : 300 < ((m : Nat) : Int)
  ·rw [decide_eq_true q2]
   refine Wl_guard_f rfl ?_
   refine Wl_guard_f rfl ?_
   refine Wl_guard_f rfl ?_
   refine Wl_v (r_pick_t (v := .bool true) rfl rfl) ?_
   refine Wl_v (r_mv (v := .bool true) rfl) ?_
   refine Wl_guard_f rfl ?_
   refine Wl_guard_f rfl ?_
   refine Wl_guard_f rfl ?_
   refine Wl_v (r_pick_t (v := .bool true) rfl rfl) ?_
   refine Wl_nil ?_
   refine W_cond_t rfl ?_
   refine W_seq ?_
   refine W_region ?_
   refine Wl_call (r_call0 rfl Try.call11 ) (works17 _ ) ?_
   rintro v w2 ⟨rfl, hU2⟩
   have hzw2 := hU2.size
   replace HU := HU.trans0 hU2
   refine Wl_v (r_as (v := .bool true) rfl) ?_
   refine Wl_nil ?_
   refine W_ret ?_
   refine ret_end (v := .bool true) rfl (res1 Try.results10 rfl) ?_
   exact ⟨_, rfl, rfl, HU⟩
  ·rw [decide_eq_false q2]
   refine Wl_guard_t rfl ?_
   refine Wl_v (r_mv (v := .slice a3 p q) rfl) ?_
   refine Wl_guard_t rfl ?_
   refine Wl_v (r_len Try.underlying23 rfl) ?_
   refine Wl_guard_t rfl ?_
   refine Wl_v (r_gt rfl rfl) ?_
   refine Wl_v (r_pick_f (v := .bool (decide (200 < ((p : Nat) : Int)))) rfl rfl) ?_
   refine Wl_v (r_mv (v := .bool (decide (200 < ((p : Nat) : Int)))) rfl) ?_
   by_cases q3 : 200 < ((p : Nat) : Int)
   ·rw [decide_eq_true q3]
    refine Wl_guard_f rfl ?_
    refine Wl_guard_f rfl ?_
    refine Wl_guard_f rfl ?_
    refine Wl_v (r_pick_t (v := .bool true) rfl rfl) ?_
    refine Wl_nil ?_
    refine W_cond_t rfl ?_
    refine W_seq ?_
    refine W_region ?_
    refine Wl_call (r_call0 rfl Try.call11 ) (works17 _ ) ?_
    rintro v w3 ⟨rfl, hU3⟩
    have hzw3 := hU3.size
    replace HU := HU.trans0 hU3
    refine Wl_v (r_as (v := .bool true) rfl) ?_
    refine Wl_nil ?_
    refine W_ret ?_
    refine ret_end (v := .bool true) rfl (res1 Try.results10 rfl) ?_
    exact ⟨_, rfl, rfl, HU⟩
   ·rw [decide_eq_false q3]
    refine Wl_guard_t rfl ?_
    refine Wl_v (r_mv (v := .slice a n c) rfl) ?_
    refine Wl_guard_t rfl ?_
    refine Wl_call (r_call1 rfl Try.call26 rfl) (rright_spec _ hs (by omega)) ?_
    rintro v w4 ⟨rfl, hU4⟩
    have hzw4 := hU4.size
    replace hs := hs.upd0 hU4
    replace hsb := hsb.upd0 hU4
    replace hss := hss.upd0 hU4
    replace HU := HU.trans0 hU4
    refine Wl_guard_t rfl ?_
    refine Wl_v (r_not rfl) ?_
    refine Wl_v (r_pick_f (v := .bool (!decide (Rt l))) rfl rfl) ?_
    refine Wl_nil ?_
    by_cases q4 : Rt l
    ·have hr := q4
     have hcb := ctF_bd (l := l) (b := s) hbs
     have hdl := fun n => dcF_len (l := l) (b := s) hbs n
     rw [decide_eq_true q4]
     simp only [Bool.not_true, Bool.not_false]
     refine W_cond_f rfl ?_
     refine W_skip ?_
     refine W_seq ?_
     refine W_seq ?_
     refine W_region ?_
     refine Wl_v (r_mv (v := .slice a n c) rfl) ?_
     refine Wl_v (r_mv (v := .slice a3 p q) rfl) ?_
     refine Wl_call (r_call2 rfl Try.call21 rfl rfl) (octs _ hs (by omega) hss.any hbs (by omega)) ?_
     rintro v w5 ⟨rfl, hU5⟩
     have hzw5 := hU5.size
     replace hs := hs.upd0 hU5
     replace hsb := hsb.upd0 hU5
     replace hss := hss.upd0 hU5
     replace HU := HU.trans0 hU5
     refine Wl_v (r_mv (v := .tuple #[.int .i64 ((ctF l s).1), .int .i64 ((ctF l s).2)]) rfl) ?_
     refine Wl_v (r_ext (v := .int .i64 ((ctF l s).1)) rfl rfl) ?_
     refine Wl_v (r_ext (v := .int .i64 ((ctF l s).2)) rfl rfl) ?_
     refine Wl_v (r_as (v := .int .i64 ((ctF l s).1)) rfl) ?_
     refine Wl_v (r_as (v := .int .i64 ((ctF l s).2)) rfl) ?_
     refine Wl_nil ?_
     refine W_seq ?_
     refine W_region ?_
     refine Wl_v (r_mv (v := .int .i64 ((ctF l s).2)) rfl) ?_
     refine Wl_call (r_call1 rfl Try.call30 rfl) (num17 _ ) ?_
     rintro v w6 ⟨rfl, hU6⟩
     have hzw6 := hU6.size
     replace hs := hs.upd0 hU6
     replace hsb := hsb.upd0 hU6
     replace hss := hss.upd0 hU6
     replace HU := HU.trans0 hU6
     refine Wl_v (r_eq rfl rfl) ?_
     refine Wl_nil ?_
     by_cases q5 : ((ctF l s).2) = 0
     ·have hA := hold_a hr hbs (by omega) q5
      have hdl9 := hdl (ctF l s).1
      rw [decide_eq_true q5]
      refine W_cond_t rfl ?_
      refine W_seq ?_
      refine W_region ?_
      refine Wl_v (r_mv (v := .slice a n c) rfl) ?_
      refine Wl_v (r_mv (v := .slice a3 p q) rfl) ?_
      refine Wl_v (r_mv (v := .int .i64 ((ctF l s).1)) rfl) ?_
      refine Wl_call (r_call3 rfl Try.call19 rfl rfl rfl) (odec _ hs (by omega) hss.any hbs (by omega) (by omega)) ?_
      rintro v w7 ⟨a7, m7, c7, rfl, hO7, hU7⟩
      have hzw7 := hU7.size
      replace hs := hs.upd0 hU7
      replace hsb := hsb.upd0 hU7
      replace hss := hss.upd0 hU7
      replace HU := HU.trans0 hU7
      replace hO7 := hO7.tight
      have hl_hO7 := ilen hO7.sl
      have hc_hO7 := hO7.sl.cap.1
      rw [show (dcF l s ((ctF l s).1)).2 = 0 from hA.1]
      refine Wl_v (r_mv (v := .tuple #[.slice a7 m7 c7, .int .i64 0]) rfl) ?_
      refine Wl_v (r_ext (v := .slice a7 m7 c7) rfl rfl) ?_
      refine Wl_v (r_ext (v := .int .i64 0) rfl rfl) ?_
      refine Wl_v (r_as (v := .slice a7 m7 c7) rfl) ?_
      refine Wl_v (r_as (v := .int .i64 0) rfl) ?_
      refine Wl_nil ?_
      refine W_seq ?_
      refine W_region ?_
      refine Wl_v (r_mv (v := .slice a n c) rfl) ?_
      refine Wl_v (r_mv (v := .slice a7 m7 c7) rfl) ?_
      refine Wl_call (r_call2 rfl Try.call12 rfl rfl) (oenc_spec _ hs (by omega) hO7.sl.any (dcF_byt _ _ _) (by omega)) ?_
      rintro v w8 ⟨a8, m8, c8, rfl, hO8, hU8⟩
      have hzw8 := hU8.size
      replace hs := hs.upd0 hU8
      replace hsb := hsb.upd0 hU8
      replace hss := hss.upd0 hU8
      replace HU := HU.trans0 hU8
      replace hO8 := hO8.tight
      have hl_hO8 := ilen hO8.sl
      have hc_hO8 := hO8.sl.cap.1
      replace hO8 := hO8.icong (show (ecF l ((dcF l s ((ctF l s).1)).1)).1 = s from (by rw [hA.2]))
      have hz_hO8 : m8 = (s : List Int).length := (ilen hO8.sl).symm
      rw [show (ecF l ((dcF l s ((ctF l s).1)).1)).2 = 0 from (by rw [hA.2])]
      refine Wl_v (r_mv (v := .tuple #[.slice a8 m8 c8, .int .i64 0]) rfl) ?_
      refine Wl_v (r_ext (v := .slice a8 m8 c8) rfl rfl) ?_
      refine Wl_v (r_ext (v := .int .i64 0) rfl rfl) ?_
      refine Wl_v (r_as (v := .slice a8 m8 c8) rfl) ?_
      refine Wl_v (r_as (v := .int .i64 0) rfl) ?_
      refine Wl_nil ?_
      refine W_seq ?_
      refine W_region ?_
      refine Wl_v (r_mv (v := .int .i64 0) rfl) ?_
      refine Wl_call (r_call1 rfl Try.call30 rfl) (num17 _ ) ?_
      rintro v w9 ⟨rfl, hU9⟩
      have hzw9 := hU9.size
      replace hs := hs.upd0 hU9
      replace hsb := hsb.upd0 hU9
      replace hss := hss.upd0 hU9
      replace HU := HU.trans0 hU9
      replace hO8 := hO8.upd0 hU9
      refine Wl_v (v := .bool false) (r_ne (a := 0) (b := 0) rfl rfl) ?_
      refine Wl_v (r_mv (v := .bool false) rfl) ?_
      refine Wl_guard_t rfl ?_
      refine Wl_v (r_mv (v := .slice a8 m8 c8) rfl) ?_
      refine Wl_guard_t rfl ?_
      refine Wl_v (r_mv (v := .int .i64 0) rfl) ?_
      refine Wl_guard_t rfl ?_
      refine Wl_v (r_mv (v := .slice a3 p q) rfl) ?_
      refine Wl_guard_t rfl ?_
      refine Wl_bstr Try.underlying23 Try.underlying5 Try.underlying9 rfl hss ?_
      refine Wl_guard_t rfl ?_
      refine Wl_call (r_call4 rfl Try.call14 rfl rfl rfl rfl) (is17 (y := s) _ hO8.sl.any hbs hbs) ?_
      rintro v w10 ⟨rfl, hU10⟩
      have hzw10 := hU10.size
      replace hs := hs.upd0 hU10
      replace hsb := hsb.upd0 hU10
      replace HU := HU.trans0 hU10
      refine Wl_guard_t rfl ?_
      refine Wl_v (r_not rfl) ?_
      refine Wl_v (r_pick_f (v := .bool (!decide ((s : List Int) = s ∧ (0 : Int) = 0))) rfl rfl) ?_
      refine Wl_nil ?_
      have q6 : (s : List Int) = s ∧ (0 : Int) = 0 := ⟨rfl, rfl⟩
      rw [decide_eq_true q6]
      simp only [Bool.not_true, Bool.not_false]
      refine W_cond_f rfl ?_
      refine W_skip ?_
      refine W_seq ?_
      refine W_seq ?_
      refine W_region ?_
      refine Wl_v (r_mv (v := .slice a n c) rfl) ?_
      refine Wl_v (r_mv (v := .slice a2 m d) rfl) ?_
      refine Wl_call (r_call2 rfl Try.call25 rfl rfl) (oen_spec _ hs (by omega) hsb.any hb (by omega)) ?_
      rintro v w11 ⟨rfl, hU11⟩
      have hzw11 := hU11.size
      replace hs := hs.upd0 hU11
      replace hsb := hsb.upd0 hU11
      replace HU := HU.trans0 hU11
      refine Wl_v (r_mv (v := .tuple #[.int .i64 ((enF l b).1), .bool (decide ((enF l b).2 = true))]) rfl) ?_
      refine Wl_v (r_ext (v := .int .i64 ((enF l b).1)) rfl rfl) ?_
      refine Wl_v (r_ext (v := .bool (decide ((enF l b).2 = true))) rfl rfl) ?_
      refine Wl_v (r_as (v := .int .i64 ((enF l b).1)) rfl) ?_
      refine Wl_v (r_as (v := .bool (decide ((enF l b).2 = true))) rfl) ?_
      refine Wl_nil ?_
      refine W_seq ?_
      refine W_region ?_
      refine Wl_v (r_mv (v := .bool (decide ((enF l b).2 = true))) rfl) ?_
      refine Wl_v (r_not rfl) ?_
      refine Wl_nil ?_
      by_cases q7 : (enF l b).2 = true
      ·have hH := enF_hs hr q7
       have hol := out_len l b
       have hel := eL_le hr b
       have hD0 := hold_d hr hb hH (show b.length = m from by omega) (by omega)
       have hD1 := hold_x (n := ((m : Nat) : Int) + 1) hr hb hH (show b.length = m from by omega) (by omega) (by omega) (by omega)
       have hD2 : (dcF l (out l b) (((m : Nat) : Int) - 1)).1 = [] := by
        rcases Nat.eq_zero_or_pos m with h0 | h0
        ·rw [hold_n hr (by omega)]
        ·rw [hold_x hr hb hH (show b.length = m from by omega) (by omega) (by omega) (by omega)]
       rw [decide_eq_true q7]
       simp only [Bool.not_true, Bool.not_false]
       refine W_cond_f rfl ?_
       refine W_skip ?_
       refine W_seq ?_
       refine W_region ?_
       refine Wl_v (r_mv (v := .slice a n c) rfl) ?_
       refine Wl_v (r_mv (v := .slice a2 m d) rfl) ?_
       refine Wl_call (r_call2 rfl Try.call12 rfl rfl) (oenc_spec _ hs (by omega) hsb.any hb (by omega)) ?_
       rintro v w12 ⟨a12, m12, c12, rfl, hO12, hU12⟩
       have hzw12 := hU12.size
       replace hs := hs.upd0 hU12
       replace hsb := hsb.upd0 hU12
       replace HU := HU.trans0 hU12
       replace hO12 := hO12.tight
       have hl_hO12 := ilen hO12.sl
       have hc_hO12 := hO12.sl.cap.1
       replace hO12 := hO12.icong (show (ecF l b).1 = out l b from (by rw [hold_e hr hH]))
       have hz_hO12 : m12 = (out l b : List Int).length := (ilen hO12.sl).symm
       rw [show (ecF l b).2 = 0 from (by rw [hold_e hr hH])]
       refine Wl_v (r_mv (v := .tuple #[.slice a12 m12 c12, .int .i64 0]) rfl) ?_
       refine Wl_v (r_ext (v := .slice a12 m12 c12) rfl rfl) ?_
       refine Wl_v (r_ext (v := .int .i64 0) rfl rfl) ?_
       refine Wl_v (r_as (v := .slice a12 m12 c12) rfl) ?_
       refine Wl_v (r_as (v := .int .i64 0) rfl) ?_
       refine Wl_nil ?_
       refine W_seq ?_
       refine W_region ?_
       refine Wl_v (r_mv (v := .slice a n c) rfl) ?_
       refine Wl_v (r_mv (v := .slice a2 m d) rfl) ?_
       refine Wl_call (r_call2 rfl Try.call15 rfl rfl) (obl_spec _ hs (by omega) hsb.any hb (by omega)) ?_
       rintro v w13 ⟨rfl, hU13⟩
       have hzw13 := hU13.size
       replace hs := hs.upd0 hU13
       replace hsb := hsb.upd0 hU13
       replace HU := HU.trans0 hU13
       replace hO12 := hO12.upd0 hU13
       rw [show (blF l b).1 = ((eL l b : Nat) : Int) from (by rw [hold_l hr hH])]
       rw [show (blF l b).2 = 0 from (by rw [hold_l hr hH])]
       refine Wl_v (r_mv (v := .tuple #[.int .i64 ((eL l b : Nat) : Int), .int .i64 0]) rfl) ?_
       refine Wl_v (r_ext (v := .int .i64 ((eL l b : Nat) : Int)) rfl rfl) ?_
       refine Wl_v (r_ext (v := .int .i64 0) rfl rfl) ?_
       refine Wl_v (r_as (v := .int .i64 ((eL l b : Nat) : Int)) rfl) ?_
       refine Wl_v (r_as (v := .int .i64 0) rfl) ?_
       refine Wl_nil ?_
       refine W_seq ?_
       refine W_region ?_
       refine Wl_v (r_mv (v := .slice a n c) rfl) ?_
       refine Wl_v (r_mv (v := .slice a12 m12 c12) rfl) ?_
       refine Wl_v (r_mv (v := .slice a2 m d) rfl) ?_
       refine Wl_v (r_len Try.underlying23 rfl) ?_
       refine Wl_call (r_call3 rfl Try.call19 rfl rfl rfl) (odec _ hs (by omega) hO12.sl.any (out_byt _ _) (by omega) (by omega)) ?_
       rintro v w14 ⟨a14, m14, c14, rfl, hO14, hU14⟩
       have hzw14 := hU14.size
       replace hs := hs.upd0 hU14
       replace hsb := hsb.upd0 hU14
       replace HU := HU.trans0 hU14
       replace hO12 := hO12.upd0 hU14
       replace hO14 := hO14.tight
       have hl_hO14 := ilen hO14.sl
       have hc_hO14 := hO14.sl.cap.1
       replace hO14 := hO14.icong (show (dcF l (out l b) ((m : Nat) : Int)).1 = b from (by rw [hD0]))
       have hz_hO14 : m14 = (b : List Int).length := (ilen hO14.sl).symm
       rw [show (dcF l (out l b) ((m : Nat) : Int)).2 = 0 from (by rw [hD0])]
       refine Wl_v (r_mv (v := .tuple #[.slice a14 m14 c14, .int .i64 0]) rfl) ?_
       refine Wl_v (r_ext (v := .slice a14 m14 c14) rfl rfl) ?_
       refine Wl_v (r_ext (v := .int .i64 0) rfl rfl) ?_
       refine Wl_v (r_as (v := .slice a14 m14 c14) rfl) ?_
       refine Wl_v (r_as (v := .int .i64 0) rfl) ?_
       refine Wl_nil ?_
       refine W_seq ?_
       refine W_region ?_
       refine Wl_v (r_mv (v := .slice a n c) rfl) ?_
       refine Wl_v (r_mv (v := .slice a12 m12 c12) rfl) ?_
       refine Wl_v (r_mv (v := .slice a2 m d) rfl) ?_
       refine Wl_v (r_len Try.underlying23 rfl) ?_
       refine Wl_v (r_add rfl rfl (wi64 (by omega) (by omega))) ?_
       refine Wl_call (r_call3 rfl Try.call19 rfl rfl rfl) (odec _ hs (by omega) hO12.sl.any (out_byt _ _) (by omega) (by omega)) ?_
       rintro v w15 ⟨a15, m15, c15, rfl, hO15, hU15⟩
       have hzw15 := hU15.size
       replace hs := hs.upd0 hU15
       replace hsb := hsb.upd0 hU15
       replace HU := HU.trans0 hU15
       replace hO12 := hO12.upd0 hU15
       replace hO14 := hO14.upd0 hU15
       replace hO15 := hO15.tight
       have hl_hO15 := ilen hO15.sl
       have hc_hO15 := hO15.sl.cap.1
       replace hO15 := hO15.icong (show (dcF l (out l b) (((m : Nat) : Int) + 1)).1 = [] from (by rw [hD1]))
       have hz_hO15 : m15 = ([] : List Int).length := (ilen hO15.sl).symm
       rw [show (dcF l (out l b) (((m : Nat) : Int) + 1)).2 = 14 from (by rw [hD1])]
       refine Wl_v (r_mv (v := .tuple #[.slice a15 m15 c15, .int .i64 14]) rfl) ?_
       refine Wl_v (r_ext (v := .slice a15 m15 c15) rfl rfl) ?_
       refine Wl_v (r_ext (v := .int .i64 14) rfl rfl) ?_
       refine Wl_v (r_as (v := .slice a15 m15 c15) rfl) ?_
       refine Wl_v (r_as (v := .int .i64 14) rfl) ?_
       refine Wl_nil ?_
       refine W_seq ?_
       refine W_region ?_
       refine Wl_v (r_mv (v := .slice a n c) rfl) ?_
       refine Wl_v (r_mv (v := .slice a12 m12 c12) rfl) ?_
       refine Wl_v (r_mv (v := .slice a2 m d) rfl) ?_
       refine Wl_v (r_len Try.underlying23 rfl) ?_
       refine Wl_v (r_sub rfl rfl (wi64 (by omega) (by omega))) ?_
       refine Wl_call (r_call3 rfl Try.call19 rfl rfl rfl) (odec _ hs (by omega) hO12.sl.any (out_byt _ _) (by omega) (by omega)) ?_
       rintro v w16 ⟨a16, m16, c16, rfl, hO16, hU16⟩
       have hzw16 := hU16.size
       replace hs := hs.upd0 hU16
       replace hsb := hsb.upd0 hU16
       replace HU := HU.trans0 hU16
       replace hO14 := hO14.upd0 hU16
       replace hO15 := hO15.upd0 hU16
       replace hO16 := hO16.tight
       have hl_hO16 := ilen hO16.sl
       have hc_hO16 := hO16.sl.cap.1
       replace hO16 := hO16.icong (show (dcF l (out l b) (((m : Nat) : Int) - 1)).1 = [] from hD2)
       have hz_hO16 : m16 = ([] : List Int).length := (ilen hO16.sl).symm
       refine Wl_v (r_mv (v := .tuple #[.slice a16 m16 c16, .int .i64 ((dcF l (out l b) (((m : Nat) : Int) - 1)).2)]) rfl) ?_
       refine Wl_v (r_ext (v := .slice a16 m16 c16) rfl rfl) ?_
       refine Wl_v (r_ext (v := .int .i64 ((dcF l (out l b) (((m : Nat) : Int) - 1)).2)) rfl rfl) ?_
       refine Wl_v (r_as (v := .slice a16 m16 c16) rfl) ?_
       refine Wl_v (r_as (v := .int .i64 ((dcF l (out l b) (((m : Nat) : Int) - 1)).2)) rfl) ?_
       refine Wl_nil ?_
       refine W_seq ?_
       refine W_seq ?_
       refine W_region ?_
       refine Wl_v (r_mv (v := .int .i64 0) rfl) ?_
       refine Wl_call (r_call1 rfl Try.call30 rfl) (num17 _ ) ?_
       rintro v w17 ⟨rfl, hU17⟩
       have hzw17 := hU17.size
       replace hs := hs.upd0 hU17
       replace hsb := hsb.upd0 hU17
       replace HU := HU.trans0 hU17
       replace hO14 := hO14.upd0 hU17
       replace hO15 := hO15.upd0 hU17
       replace hO16 := hO16.upd0 hU17
       refine Wl_v (r_mv (v := .int .i64 0) rfl) ?_
       refine Wl_call (r_call1 rfl Try.call30 rfl) (num17 _ ) ?_
       rintro v w18 ⟨rfl, hU18⟩
       have hzw18 := hU18.size
       replace hs := hs.upd0 hU18
       replace hsb := hsb.upd0 hU18
       replace HU := HU.trans0 hU18
       replace hO14 := hO14.upd0 hU18
       replace hO15 := hO15.upd0 hU18
       replace hO16 := hO16.upd0 hU18
       refine Wl_v (r_add rfl rfl (show IntKind.i64.wrap (0 + 0) = 0 by decide)) ?_
       refine Wl_v (v := .bool false) (r_ne (a := 0) (b := 0) rfl rfl) ?_
       refine Wl_v (r_mv (v := .bool false) rfl) ?_
       refine Wl_guard_t rfl ?_
       refine Wl_v (r_mv (v := .slice a14 m14 c14) rfl) ?_
       refine Wl_guard_t rfl ?_
       refine Wl_v (r_mv (v := .int .i64 0) rfl) ?_
       refine Wl_guard_t rfl ?_
       refine Wl_v (r_mv (v := .slice a2 m d) rfl) ?_
       refine Wl_guard_t rfl ?_
       refine Wl_bstr Try.underlying23 Try.underlying5 Try.underlying9 rfl hsb ?_
       refine Wl_guard_t rfl ?_
       refine Wl_call (r_call4 rfl Try.call14 rfl rfl rfl rfl) (is17 (y := b) _ hO14.sl.any hb hb) ?_
       rintro v w19 ⟨rfl, hU19⟩
       have hzw19 := hU19.size
       replace hs := hs.upd0 hU19
       replace hsb := hsb.upd0 hU19
       replace HU := HU.trans0 hU19
       replace hO15 := hO15.upd0 hU19
       replace hO16 := hO16.upd0 hU19
       refine Wl_guard_t rfl ?_
       refine Wl_v (r_not rfl) ?_
       refine Wl_v (r_pick_f (v := .bool (!decide ((b : List Int) = b ∧ (0 : Int) = 0))) rfl rfl) ?_
       refine Wl_v (r_mv (v := .bool (!decide ((b : List Int) = b ∧ (0 : Int) = 0))) rfl) ?_
       have q8 : (b : List Int) = b ∧ (0 : Int) = 0 := ⟨rfl, rfl⟩
       rw [decide_eq_true q8]
       simp only [Bool.not_true, Bool.not_false]
       refine Wl_guard_t rfl ?_
       refine Wl_v (r_mv (v := .slice a15 m15 c15) rfl) ?_
       refine Wl_guard_t rfl ?_
       refine Wl_v (r_mv (v := .int .i64 14) rfl) ?_
       refine Wl_guard_t rfl ?_
       refine Wl_call (r_call4 rfl Try.call14 rfl rfl rfl rfl) (is17 (y := []) _ hO15.sl.any byt_nil byt_nil) ?_
       rintro v w20 ⟨rfl, hU20⟩
       have hzw20 := hU20.size
       replace hs := hs.upd0 hU20
       replace hsb := hsb.upd0 hU20
       replace HU := HU.trans0 hU20
       replace hO16 := hO16.upd0 hU20
       refine Wl_guard_t rfl ?_
       refine Wl_v (r_not rfl) ?_
       refine Wl_v (r_pick_f (v := .bool (!decide (([] : List Int) = [] ∧ (14 : Int) = 14))) rfl rfl) ?_
       refine Wl_v (r_mv (v := .bool (!decide (([] : List Int) = [] ∧ (14 : Int) = 14))) rfl) ?_
       have q9 : ([] : List Int) = [] ∧ (14 : Int) = 14 := ⟨rfl, rfl⟩
       rw [decide_eq_true q9]
       simp only [Bool.not_true, Bool.not_false]
       refine Wl_guard_t rfl ?_
       refine Wl_v (r_mv (v := .slice a12 m12 c12) rfl) ?_
       refine Wl_guard_t rfl ?_
       refine Wl_v (r_len Try.underlying23 rfl) ?_
       refine Wl_guard_t rfl ?_
       refine Wl_v (r_mv (v := .int .i64 ((eL l b : Nat) : Int)) rfl) ?_
       refine Wl_guard_t rfl ?_
       refine Wl_v (r_quo rfl rfl (by omega) (tq (by omega) (wi64 (by omega) (by omega)))) ?_
       refine Wl_guard_t rfl ?_
       refine Wl_v (r_add rfl rfl (wi64 (by omega) (by omega))) ?_
       refine Wl_guard_t rfl ?_
       refine Wl_v (r_ne rfl rfl) ?_
       refine Wl_v (r_pick_f (v := .bool (decide (((m12 : Nat) : Int) ≠ ((((eL l b : Nat) : Int) / 8) + 1)))) rfl rfl) ?_
       refine Wl_nil ?_
       have q10 : ¬ (((m12 : Nat) : Int) ≠ ((((eL l b : Nat) : Int) / 8) + 1)) := (by omega)
       rw [decide_eq_false q10]
       refine W_cond_f rfl ?_
       refine W_skip ?_
       refine W_seq ?_
       refine W_seq ?_
       refine W_region ?_
       refine Wl_v (r_mv (v := .slice a2 m d) rfl) ?_
       refine Wl_v (r_len Try.underlying23 rfl) ?_
       refine Wl_v (r_gt rfl rfl) ?_
       refine Wl_v (r_mv (v := .bool (decide (0 < ((m : Nat) : Int)))) rfl) ?_
       by_cases q11 : 0 < ((m : Nat) : Int)
       ·rw [decide_eq_true q11]
        refine Wl_guard_t rfl ?_
        refine Wl_v (r_mv (v := .slice a16 m16 c16) rfl) ?_
        refine Wl_guard_t rfl ?_
        refine Wl_v (r_mv (v := .int .i64 ((dcF l (out l b) (((m : Nat) : Int) - 1)).2)) rfl) ?_
        refine Wl_guard_t rfl ?_
        refine Wl_call (r_call4 rfl Try.call14 rfl rfl rfl rfl) (is17 (y := []) _ hO16.sl.any byt_nil byt_nil) ?_
        rintro v w21 ⟨rfl, hU21⟩
        have hzw21 := hU21.size
        replace hs := hs.upd0 hU21
        replace hsb := hsb.upd0 hU21
        replace HU := HU.trans0 hU21
        refine Wl_guard_t rfl ?_
        refine Wl_v (r_not rfl) ?_
        refine Wl_v (r_pick_t (v := .bool (!decide (([] : List Int) = [] ∧ (((dcF l (out l b) (((m : Nat) : Int) - 1)).2) : Int) = 14))) rfl rfl) ?_
        refine Wl_v (r_mv (v := .bool (!decide (([] : List Int) = [] ∧ (((dcF l (out l b) (((m : Nat) : Int) - 1)).2) : Int) = 14))) rfl) ?_
        have q12 : ([] : List Int) = [] ∧ (((dcF l (out l b) (((m : Nat) : Int) - 1)).2) : Int) = 14 := ⟨rfl, by rw [hold_x hr hb hH (show b.length = m from by omega) (by omega) (by omega) (by omega)]⟩
        rw [decide_eq_true q12]
        simp only [Bool.not_true, Bool.not_false]
        refine Wl_guard_t rfl ?_
        refine Wl_v (r_mv (v := .slice a2 m d) rfl) ?_
        refine Wl_guard_t rfl ?_
        refine Wl_v (r_len Try.underlying23 rfl) ?_
        refine Wl_guard_t rfl ?_
        refine Wl_v (r_eq rfl rfl) ?_
        refine Wl_guard_t rfl ?_
        refine Wl_v (r_mv (v := .bool (decide (((m : Nat) : Int) = 0))) rfl) ?_
        have q13 : ¬ (((m : Nat) : Int) = 0) := (by omega)
        rw [decide_eq_false q13]
        refine Wl_guard_f rfl ?_
        refine Wl_guard_f rfl ?_
        refine Wl_guard_f rfl ?_
        refine Wl_guard_f rfl ?_
        refine Wl_guard_t rfl ?_
        refine Wl_v (r_pick_f (v := .bool false) rfl rfl) ?_
        refine Wl_v (r_pick_f (v := .bool false) rfl rfl) ?_
        refine Wl_nil ?_
        refine W_cond_f rfl ?_
        refine W_skip ?_
        refine W_seq ?_
        refine W_region ?_
        refine Wl_v (r_mv (v := .int .u16 cut) rfl) ?_
        refine Wl_v (r_cvt Try.underlying48 Try.underlying3 rfl (wi64 (by omega) (by omega))) ?_
        refine Wl_v (r_mv (v := .slice a2 m d) rfl) ?_
        refine Wl_v (r_len Try.underlying23 rfl) ?_
        refine Wl_v (r_add rfl rfl (wi64 (by omega) (by omega))) ?_
        refine Wl_v (r_rem rfl rfl (by omega) (tr (by omega))) ?_
        refine Wl_v (r_as (v := .int .i64 (cut % (((m : Nat) : Int) + 1))) rfl) ?_
        obtain ⟨k, hk, hkm⟩ := mod_nat17 (x := cut) (m := m) (by omega)
        rw [show (cut % (((m : Nat) : Int) + 1) : Int) = ((k : Nat) : Int) from hk]
        have hos := hold_s l b k
        refine Wl_nil ?_
        refine W_seq ?_
        refine W_region ?_
        refine Wl_v (r_mv (v := .slice a n c) rfl) ?_
        refine Wl_v (r_mv (v := .slice a2 m d) rfl) ?_
        refine Wl_v (r_mv (v := .int .i64 ((k : Nat) : Int)) rfl) ?_
        refine Wl_v (r_slicehn (h' := k) Try.underlying23 Try.sizeOf5 rfl rfl (by omega) (by omega)) ?_
        have hT22 := Sl.cuth (n := k) hsb (by omega)
        have hl_hT22 := ilen hT22
        have hc_hT22 := hT22.cap.1
        refine Wl_call (r_call2 rfl Try.call15 rfl rfl) (obl_spec _ hs (by omega) hT22.any (byt_take hb _) (by omega)) ?_
        rintro v w23 ⟨rfl, hU23⟩
        have hzw23 := hU23.size
        replace hs := hs.upd0 hU23
        replace hsb := hsb.upd0 hU23
        replace HU := HU.trans0 hU23
        rw [show (blF l (b.take k)).1 = ((eL l (b.take k) : Nat) : Int) from (by rw [hold_l hr (hH.take' k)])]
        rw [show (blF l (b.take k)).2 = 0 from (by rw [hold_l hr (hH.take' k)])]
        refine Wl_v (r_mv (v := .tuple #[.int .i64 ((eL l (b.take k) : Nat) : Int), .int .i64 0]) rfl) ?_
        refine Wl_v (r_ext (v := .int .i64 ((eL l (b.take k) : Nat) : Int)) rfl rfl) ?_
        refine Wl_v (r_ext (v := .int .i64 0) rfl rfl) ?_
        refine Wl_v (r_as (v := .int .i64 ((eL l (b.take k) : Nat) : Int)) rfl) ?_
        refine Wl_v (r_as (v := .int .i64 0) rfl) ?_
        refine Wl_nil ?_
        refine W_seq ?_
        refine W_region ?_
        refine Wl_v (r_mv (v := .slice a n c) rfl) ?_
        refine Wl_v (r_mv (v := .slice a2 m d) rfl) ?_
        refine Wl_v (r_mv (v := .int .i64 ((k : Nat) : Int)) rfl) ?_
        refine Wl_v (r_slicelen (l' := k) (n' := m - k) Try.underlying23 Try.sizeOf5 rfl rfl (by omega) (by omega) (by omega)) ?_
        have hT24 := Sl.cutl (l := k) (n := m - k) hsb (by omega) (by omega)
        have hl_hT24 := ilen hT24
        have hc_hT24 := hT24.cap.1
        refine Wl_call (r_call2 rfl Try.call15 rfl rfl) (obl_spec _ hs (by omega) hT24.any (byt_drop hb _) (by omega)) ?_
        rintro v w25 ⟨rfl, hU25⟩
        have hzw25 := hU25.size
        replace HU := HU.trans0 hU25
        rw [show (blF l (b.drop k)).1 = ((eL l (b.drop k) : Nat) : Int) from (by rw [hold_l hr (hH.drop k)])]
        rw [show (blF l (b.drop k)).2 = 0 from (by rw [hold_l hr (hH.drop k)])]
        refine Wl_v (r_mv (v := .tuple #[.int .i64 ((eL l (b.drop k) : Nat) : Int), .int .i64 0]) rfl) ?_
        refine Wl_v (r_ext (v := .int .i64 ((eL l (b.drop k) : Nat) : Int)) rfl rfl) ?_
        refine Wl_v (r_ext (v := .int .i64 0) rfl rfl) ?_
        refine Wl_v (r_as (v := .int .i64 ((eL l (b.drop k) : Nat) : Int)) rfl) ?_
        refine Wl_v (r_as (v := .int .i64 0) rfl) ?_
        refine Wl_nil ?_
        refine W_seq ?_
        refine W_region ?_
        refine Wl_v (r_mv (v := .int .i64 0) rfl) ?_
        refine Wl_call (r_call1 rfl Try.call30 rfl) (num17 _ ) ?_
        rintro v w26 ⟨rfl, hU26⟩
        have hzw26 := hU26.size
        replace HU := HU.trans0 hU26
        refine Wl_v (r_mv (v := .int .i64 0) rfl) ?_
        refine Wl_call (r_call1 rfl Try.call30 rfl) (num17 _ ) ?_
        rintro v w27 ⟨rfl, hU27⟩
        have hzw27 := hU27.size
        replace HU := HU.trans0 hU27
        refine Wl_v (r_add rfl rfl (show IntKind.i64.wrap (0 + 0) = 0 by decide)) ?_
        refine Wl_v (v := .bool true) (r_eq (a := 0) (b := 0) rfl rfl) ?_
        refine Wl_v (r_mv (v := .bool true) rfl) ?_
        refine Wl_guard_t rfl ?_
        refine Wl_v (r_mv (v := .int .i64 ((eL l (b.take k) : Nat) : Int)) rfl) ?_
        refine Wl_guard_t rfl ?_
        refine Wl_v (r_mv (v := .int .i64 ((eL l (b.drop k) : Nat) : Int)) rfl) ?_
        refine Wl_guard_t rfl ?_
        refine Wl_v (r_add rfl rfl (wi64 (by omega) (by omega))) ?_
        refine Wl_guard_t rfl ?_
        refine Wl_v (r_mv (v := .int .i64 ((eL l b : Nat) : Int)) rfl) ?_
        refine Wl_guard_t rfl ?_
        refine Wl_v (r_eq rfl rfl) ?_
        refine Wl_v (r_pick_t (v := .bool (decide ((((eL l (b.take k) : Nat) : Int) + ((eL l (b.drop k) : Nat) : Int)) = ((eL l b : Nat) : Int)))) rfl rfl) ?_
        refine Wl_v (r_mv (v := .bool (decide ((((eL l (b.take k) : Nat) : Int) + ((eL l (b.drop k) : Nat) : Int)) = ((eL l b : Nat) : Int)))) rfl) ?_
        have q14 : (((eL l (b.take k) : Nat) : Int) + ((eL l (b.drop k) : Nat) : Int)) = ((eL l b : Nat) : Int) := (by have := hold_s l b k; omega)
        rw [decide_eq_true q14]
        refine Wl_guard_t rfl ?_
        refine Wl_call (r_call0 rfl Try.call11 ) (works17 _ ) ?_
        rintro v w28 ⟨rfl, hU28⟩
        have hzw28 := hU28.size
        replace HU := HU.trans0 hU28
        refine Wl_v (r_pick_t (v := .bool true) rfl rfl) ?_
        refine Wl_v (r_as (v := .bool true) rfl) ?_
        refine Wl_nil ?_
        refine W_ret ?_
        refine ret_end (v := .bool true) rfl (res1 Try.results10 rfl) ?_
        exact ⟨_, rfl, rfl, HU⟩
       ·rw [decide_eq_false q11]
        refine Wl_guard_f rfl ?_
        refine Wl_guard_f rfl ?_
        refine Wl_guard_f rfl ?_
        refine Wl_guard_f rfl ?_
        refine Wl_v (r_pick_f (v := .bool false) rfl rfl) ?_
        refine Wl_v (r_mv (v := .bool false) rfl) ?_
        refine Wl_guard_t rfl ?_
        refine Wl_v (r_mv (v := .slice a2 m d) rfl) ?_
        refine Wl_guard_t rfl ?_
        refine Wl_v (r_len Try.underlying23 rfl) ?_
        refine Wl_guard_t rfl ?_
        refine Wl_v (r_eq rfl rfl) ?_
        refine Wl_guard_t rfl ?_
        refine Wl_v (r_mv (v := .bool (decide (((m : Nat) : Int) = 0))) rfl) ?_
        have q15 : ((m : Nat) : Int) = 0 := (by omega)
        rw [decide_eq_true q15]
        refine Wl_guard_t rfl ?_
        refine Wl_v (r_mv (v := .slice a16 m16 c16) rfl) ?_
        refine Wl_guard_t rfl ?_
        refine Wl_v (r_mv (v := .int .i64 ((dcF l (out l b) (((m : Nat) : Int) - 1)).2)) rfl) ?_
        refine Wl_guard_t rfl ?_
        refine Wl_call (r_call4 rfl Try.call14 rfl rfl rfl rfl) (is17 (y := []) _ hO16.sl.any byt_nil byt_nil) ?_
        rintro v w29 ⟨rfl, hU29⟩
        have hzw29 := hU29.size
        replace hs := hs.upd0 hU29
        replace hsb := hsb.upd0 hU29
        replace HU := HU.trans0 hU29
        refine Wl_guard_t rfl ?_
        refine Wl_v (r_not rfl) ?_
        refine Wl_guard_t rfl ?_
        refine Wl_v (r_pick_t (v := .bool (!decide (([] : List Int) = [] ∧ (((dcF l (out l b) (((m : Nat) : Int) - 1)).2) : Int) = 2))) rfl rfl) ?_
        refine Wl_v (r_pick_f (v := .bool (!decide (([] : List Int) = [] ∧ (((dcF l (out l b) (((m : Nat) : Int) - 1)).2) : Int) = 2))) rfl rfl) ?_
        refine Wl_nil ?_
        have q16 : ([] : List Int) = [] ∧ (((dcF l (out l b) (((m : Nat) : Int) - 1)).2) : Int) = 2 := ⟨rfl, by rw [hold_n hr (by omega)]⟩
        rw [decide_eq_true q16]
        simp only [Bool.not_true, Bool.not_false]
        refine W_cond_f rfl ?_
        refine W_skip ?_
        refine W_seq ?_
        refine W_region ?_
        refine Wl_v (r_mv (v := .int .u16 cut) rfl) ?_
        refine Wl_v (r_cvt Try.underlying48 Try.underlying3 rfl (wi64 (by omega) (by omega))) ?_
        refine Wl_v (r_mv (v := .slice a2 m d) rfl) ?_
        refine Wl_v (r_len Try.underlying23 rfl) ?_
        refine Wl_v (r_add rfl rfl (wi64 (by omega) (by omega))) ?_
        refine Wl_v (r_rem rfl rfl (by omega) (tr (by omega))) ?_
        refine Wl_v (r_as (v := .int .i64 (cut % (((m : Nat) : Int) + 1))) rfl) ?_
        obtain ⟨k, hk, hkm⟩ := mod_nat17 (x := cut) (m := m) (by omega)
        rw [show (cut % (((m : Nat) : Int) + 1) : Int) = ((k : Nat) : Int) from hk]
        have hos := hold_s l b k
        refine Wl_nil ?_
        refine W_seq ?_
        refine W_region ?_
        refine Wl_v (r_mv (v := .slice a n c) rfl) ?_
        refine Wl_v (r_mv (v := .slice a2 m d) rfl) ?_
        refine Wl_v (r_mv (v := .int .i64 ((k : Nat) : Int)) rfl) ?_
        refine Wl_v (r_slicehn (h' := k) Try.underlying23 Try.sizeOf5 rfl rfl (by omega) (by omega)) ?_
        have hT30 := Sl.cuth (n := k) hsb (by omega)
        have hl_hT30 := ilen hT30
        have hc_hT30 := hT30.cap.1
        refine Wl_call (r_call2 rfl Try.call15 rfl rfl) (obl_spec _ hs (by omega) hT30.any (byt_take hb _) (by omega)) ?_
        rintro v w31 ⟨rfl, hU31⟩
        have hzw31 := hU31.size
        replace hs := hs.upd0 hU31
        replace hsb := hsb.upd0 hU31
        replace HU := HU.trans0 hU31
        rw [show (blF l (b.take k)).1 = ((eL l (b.take k) : Nat) : Int) from (by rw [hold_l hr (hH.take' k)])]
        rw [show (blF l (b.take k)).2 = 0 from (by rw [hold_l hr (hH.take' k)])]
        refine Wl_v (r_mv (v := .tuple #[.int .i64 ((eL l (b.take k) : Nat) : Int), .int .i64 0]) rfl) ?_
        refine Wl_v (r_ext (v := .int .i64 ((eL l (b.take k) : Nat) : Int)) rfl rfl) ?_
        refine Wl_v (r_ext (v := .int .i64 0) rfl rfl) ?_
        refine Wl_v (r_as (v := .int .i64 ((eL l (b.take k) : Nat) : Int)) rfl) ?_
        refine Wl_v (r_as (v := .int .i64 0) rfl) ?_
        refine Wl_nil ?_
        refine W_seq ?_
        refine W_region ?_
        refine Wl_v (r_mv (v := .slice a n c) rfl) ?_
        refine Wl_v (r_mv (v := .slice a2 m d) rfl) ?_
        refine Wl_v (r_mv (v := .int .i64 ((k : Nat) : Int)) rfl) ?_
        refine Wl_v (r_slicelen (l' := k) (n' := m - k) Try.underlying23 Try.sizeOf5 rfl rfl (by omega) (by omega) (by omega)) ?_
        have hT32 := Sl.cutl (l := k) (n := m - k) hsb (by omega) (by omega)
        have hl_hT32 := ilen hT32
        have hc_hT32 := hT32.cap.1
        refine Wl_call (r_call2 rfl Try.call15 rfl rfl) (obl_spec _ hs (by omega) hT32.any (byt_drop hb _) (by omega)) ?_
        rintro v w33 ⟨rfl, hU33⟩
        have hzw33 := hU33.size
        replace HU := HU.trans0 hU33
        rw [show (blF l (b.drop k)).1 = ((eL l (b.drop k) : Nat) : Int) from (by rw [hold_l hr (hH.drop k)])]
        rw [show (blF l (b.drop k)).2 = 0 from (by rw [hold_l hr (hH.drop k)])]
        refine Wl_v (r_mv (v := .tuple #[.int .i64 ((eL l (b.drop k) : Nat) : Int), .int .i64 0]) rfl) ?_
        refine Wl_v (r_ext (v := .int .i64 ((eL l (b.drop k) : Nat) : Int)) rfl rfl) ?_
        refine Wl_v (r_ext (v := .int .i64 0) rfl rfl) ?_
        refine Wl_v (r_as (v := .int .i64 ((eL l (b.drop k) : Nat) : Int)) rfl) ?_
        refine Wl_v (r_as (v := .int .i64 0) rfl) ?_
        refine Wl_nil ?_
        refine W_seq ?_
        refine W_region ?_
        refine Wl_v (r_mv (v := .int .i64 0) rfl) ?_
        refine Wl_call (r_call1 rfl Try.call30 rfl) (num17 _ ) ?_
        rintro v w34 ⟨rfl, hU34⟩
        have hzw34 := hU34.size
        replace HU := HU.trans0 hU34
        refine Wl_v (r_mv (v := .int .i64 0) rfl) ?_
        refine Wl_call (r_call1 rfl Try.call30 rfl) (num17 _ ) ?_
        rintro v w35 ⟨rfl, hU35⟩
        have hzw35 := hU35.size
        replace HU := HU.trans0 hU35
        refine Wl_v (r_add rfl rfl (show IntKind.i64.wrap (0 + 0) = 0 by decide)) ?_
        refine Wl_v (v := .bool true) (r_eq (a := 0) (b := 0) rfl rfl) ?_
        refine Wl_v (r_mv (v := .bool true) rfl) ?_
        refine Wl_guard_t rfl ?_
        refine Wl_v (r_mv (v := .int .i64 ((eL l (b.take k) : Nat) : Int)) rfl) ?_
        refine Wl_guard_t rfl ?_
        refine Wl_v (r_mv (v := .int .i64 ((eL l (b.drop k) : Nat) : Int)) rfl) ?_
        refine Wl_guard_t rfl ?_
        refine Wl_v (r_add rfl rfl (wi64 (by omega) (by omega))) ?_
        refine Wl_guard_t rfl ?_
        refine Wl_v (r_mv (v := .int .i64 ((eL l b : Nat) : Int)) rfl) ?_
        refine Wl_guard_t rfl ?_
        refine Wl_v (r_eq rfl rfl) ?_
        refine Wl_v (r_pick_t (v := .bool (decide ((((eL l (b.take k) : Nat) : Int) + ((eL l (b.drop k) : Nat) : Int)) = ((eL l b : Nat) : Int)))) rfl rfl) ?_
        refine Wl_v (r_mv (v := .bool (decide ((((eL l (b.take k) : Nat) : Int) + ((eL l (b.drop k) : Nat) : Int)) = ((eL l b : Nat) : Int)))) rfl) ?_
        have q17 : (((eL l (b.take k) : Nat) : Int) + ((eL l (b.drop k) : Nat) : Int)) = ((eL l b : Nat) : Int) := (by have := hold_s l b k; omega)
        rw [decide_eq_true q17]
        refine Wl_guard_t rfl ?_
        refine Wl_call (r_call0 rfl Try.call11 ) (works17 _ ) ?_
        rintro v w36 ⟨rfl, hU36⟩
        have hzw36 := hU36.size
        replace HU := HU.trans0 hU36
        refine Wl_v (r_pick_t (v := .bool true) rfl rfl) ?_
        refine Wl_v (r_as (v := .bool true) rfl) ?_
        refine Wl_nil ?_
        refine W_ret ?_
        refine ret_end (v := .bool true) rfl (res1 Try.results10 rfl) ?_
        exact ⟨_, rfl, rfl, HU⟩
      ·rw [decide_eq_false q7]
       simp only [Bool.not_true, Bool.not_false]
       refine W_cond_t rfl ?_
       refine W_seq ?_
       refine W_region ?_
       refine Wl_call (r_call0 rfl Try.call11 ) (works17 _ ) ?_
       rintro v w37 ⟨rfl, hU37⟩
       have hzw37 := hU37.size
       replace HU := HU.trans0 hU37
       refine Wl_v (r_as (v := .bool true) rfl) ?_
       refine Wl_nil ?_
       refine W_ret ?_
       refine ret_end (v := .bool true) rfl (res1 Try.results10 rfl) ?_
       exact ⟨_, rfl, rfl, HU⟩
     ·rw [decide_eq_false q5]
      refine W_cond_f rfl ?_
      refine W_skip ?_
      refine W_seq ?_
      refine W_seq ?_
      refine W_region ?_
      refine Wl_v (r_mv (v := .slice a n c) rfl) ?_
      refine Wl_v (r_mv (v := .slice a2 m d) rfl) ?_
      refine Wl_call (r_call2 rfl Try.call25 rfl rfl) (oen_spec _ hs (by omega) hsb.any hb (by omega)) ?_
      rintro v w38 ⟨rfl, hU38⟩
      have hzw38 := hU38.size
      replace hs := hs.upd0 hU38
      replace hsb := hsb.upd0 hU38
      replace HU := HU.trans0 hU38
      refine Wl_v (r_mv (v := .tuple #[.int .i64 ((enF l b).1), .bool (decide ((enF l b).2 = true))]) rfl) ?_
      refine Wl_v (r_ext (v := .int .i64 ((enF l b).1)) rfl rfl) ?_
      refine Wl_v (r_ext (v := .bool (decide ((enF l b).2 = true))) rfl rfl) ?_
      refine Wl_v (r_as (v := .int .i64 ((enF l b).1)) rfl) ?_
      refine Wl_v (r_as (v := .bool (decide ((enF l b).2 = true))) rfl) ?_
      refine Wl_nil ?_
      refine W_seq ?_
      refine W_region ?_
      refine Wl_v (r_mv (v := .bool (decide ((enF l b).2 = true))) rfl) ?_
      refine Wl_v (r_not rfl) ?_
      refine Wl_nil ?_
      by_cases q18 : (enF l b).2 = true
      ·have hH := enF_hs hr q18
       have hol := out_len l b
       have hel := eL_le hr b
       have hD0 := hold_d hr hb hH (show b.length = m from by omega) (by omega)
       have hD1 := hold_x (n := ((m : Nat) : Int) + 1) hr hb hH (show b.length = m from by omega) (by omega) (by omega) (by omega)
       have hD2 : (dcF l (out l b) (((m : Nat) : Int) - 1)).1 = [] := by
        rcases Nat.eq_zero_or_pos m with h0 | h0
        ·rw [hold_n hr (by omega)]
        ·rw [hold_x hr hb hH (show b.length = m from by omega) (by omega) (by omega) (by omega)]
       rw [decide_eq_true q18]
       simp only [Bool.not_true, Bool.not_false]
       refine W_cond_f rfl ?_
       refine W_skip ?_
       refine W_seq ?_
       refine W_region ?_
       refine Wl_v (r_mv (v := .slice a n c) rfl) ?_
       refine Wl_v (r_mv (v := .slice a2 m d) rfl) ?_
       refine Wl_call (r_call2 rfl Try.call12 rfl rfl) (oenc_spec _ hs (by omega) hsb.any hb (by omega)) ?_
       rintro v w39 ⟨a39, m39, c39, rfl, hO39, hU39⟩
       have hzw39 := hU39.size
       replace hs := hs.upd0 hU39
       replace hsb := hsb.upd0 hU39
       replace HU := HU.trans0 hU39
       replace hO39 := hO39.tight
       have hl_hO39 := ilen hO39.sl
       have hc_hO39 := hO39.sl.cap.1
       replace hO39 := hO39.icong (show (ecF l b).1 = out l b from (by rw [hold_e hr hH]))
       have hz_hO39 : m39 = (out l b : List Int).length := (ilen hO39.sl).symm
       rw [show (ecF l b).2 = 0 from (by rw [hold_e hr hH])]
       refine Wl_v (r_mv (v := .tuple #[.slice a39 m39 c39, .int .i64 0]) rfl) ?_
       refine Wl_v (r_ext (v := .slice a39 m39 c39) rfl rfl) ?_
       refine Wl_v (r_ext (v := .int .i64 0) rfl rfl) ?_
       refine Wl_v (r_as (v := .slice a39 m39 c39) rfl) ?_
       refine Wl_v (r_as (v := .int .i64 0) rfl) ?_
       refine Wl_nil ?_
       refine W_seq ?_
       refine W_region ?_
       refine Wl_v (r_mv (v := .slice a n c) rfl) ?_
       refine Wl_v (r_mv (v := .slice a2 m d) rfl) ?_
       refine Wl_call (r_call2 rfl Try.call15 rfl rfl) (obl_spec _ hs (by omega) hsb.any hb (by omega)) ?_
       rintro v w40 ⟨rfl, hU40⟩
       have hzw40 := hU40.size
       replace hs := hs.upd0 hU40
       replace hsb := hsb.upd0 hU40
       replace HU := HU.trans0 hU40
       replace hO39 := hO39.upd0 hU40
       rw [show (blF l b).1 = ((eL l b : Nat) : Int) from (by rw [hold_l hr hH])]
       rw [show (blF l b).2 = 0 from (by rw [hold_l hr hH])]
       refine Wl_v (r_mv (v := .tuple #[.int .i64 ((eL l b : Nat) : Int), .int .i64 0]) rfl) ?_
       refine Wl_v (r_ext (v := .int .i64 ((eL l b : Nat) : Int)) rfl rfl) ?_
       refine Wl_v (r_ext (v := .int .i64 0) rfl rfl) ?_
       refine Wl_v (r_as (v := .int .i64 ((eL l b : Nat) : Int)) rfl) ?_
       refine Wl_v (r_as (v := .int .i64 0) rfl) ?_
       refine Wl_nil ?_
       refine W_seq ?_
       refine W_region ?_
       refine Wl_v (r_mv (v := .slice a n c) rfl) ?_
       refine Wl_v (r_mv (v := .slice a39 m39 c39) rfl) ?_
       refine Wl_v (r_mv (v := .slice a2 m d) rfl) ?_
       refine Wl_v (r_len Try.underlying23 rfl) ?_
       refine Wl_call (r_call3 rfl Try.call19 rfl rfl rfl) (odec _ hs (by omega) hO39.sl.any (out_byt _ _) (by omega) (by omega)) ?_
       rintro v w41 ⟨a41, m41, c41, rfl, hO41, hU41⟩
       have hzw41 := hU41.size
       replace hs := hs.upd0 hU41
       replace hsb := hsb.upd0 hU41
       replace HU := HU.trans0 hU41
       replace hO39 := hO39.upd0 hU41
       replace hO41 := hO41.tight
       have hl_hO41 := ilen hO41.sl
       have hc_hO41 := hO41.sl.cap.1
       replace hO41 := hO41.icong (show (dcF l (out l b) ((m : Nat) : Int)).1 = b from (by rw [hD0]))
       have hz_hO41 : m41 = (b : List Int).length := (ilen hO41.sl).symm
       rw [show (dcF l (out l b) ((m : Nat) : Int)).2 = 0 from (by rw [hD0])]
       refine Wl_v (r_mv (v := .tuple #[.slice a41 m41 c41, .int .i64 0]) rfl) ?_
       refine Wl_v (r_ext (v := .slice a41 m41 c41) rfl rfl) ?_
       refine Wl_v (r_ext (v := .int .i64 0) rfl rfl) ?_
       refine Wl_v (r_as (v := .slice a41 m41 c41) rfl) ?_
       refine Wl_v (r_as (v := .int .i64 0) rfl) ?_
       refine Wl_nil ?_
       refine W_seq ?_
       refine W_region ?_
       refine Wl_v (r_mv (v := .slice a n c) rfl) ?_
       refine Wl_v (r_mv (v := .slice a39 m39 c39) rfl) ?_
       refine Wl_v (r_mv (v := .slice a2 m d) rfl) ?_
       refine Wl_v (r_len Try.underlying23 rfl) ?_
       refine Wl_v (r_add rfl rfl (wi64 (by omega) (by omega))) ?_
       refine Wl_call (r_call3 rfl Try.call19 rfl rfl rfl) (odec _ hs (by omega) hO39.sl.any (out_byt _ _) (by omega) (by omega)) ?_
       rintro v w42 ⟨a42, m42, c42, rfl, hO42, hU42⟩
       have hzw42 := hU42.size
       replace hs := hs.upd0 hU42
       replace hsb := hsb.upd0 hU42
       replace HU := HU.trans0 hU42
       replace hO39 := hO39.upd0 hU42
       replace hO41 := hO41.upd0 hU42
       replace hO42 := hO42.tight
       have hl_hO42 := ilen hO42.sl
       have hc_hO42 := hO42.sl.cap.1
       replace hO42 := hO42.icong (show (dcF l (out l b) (((m : Nat) : Int) + 1)).1 = [] from (by rw [hD1]))
       have hz_hO42 : m42 = ([] : List Int).length := (ilen hO42.sl).symm
       rw [show (dcF l (out l b) (((m : Nat) : Int) + 1)).2 = 14 from (by rw [hD1])]
       refine Wl_v (r_mv (v := .tuple #[.slice a42 m42 c42, .int .i64 14]) rfl) ?_
       refine Wl_v (r_ext (v := .slice a42 m42 c42) rfl rfl) ?_
       refine Wl_v (r_ext (v := .int .i64 14) rfl rfl) ?_
       refine Wl_v (r_as (v := .slice a42 m42 c42) rfl) ?_
       refine Wl_v (r_as (v := .int .i64 14) rfl) ?_
       refine Wl_nil ?_
       refine W_seq ?_
       refine W_region ?_
       refine Wl_v (r_mv (v := .slice a n c) rfl) ?_
       refine Wl_v (r_mv (v := .slice a39 m39 c39) rfl) ?_
       refine Wl_v (r_mv (v := .slice a2 m d) rfl) ?_
       refine Wl_v (r_len Try.underlying23 rfl) ?_
       refine Wl_v (r_sub rfl rfl (wi64 (by omega) (by omega))) ?_
       refine Wl_call (r_call3 rfl Try.call19 rfl rfl rfl) (odec _ hs (by omega) hO39.sl.any (out_byt _ _) (by omega) (by omega)) ?_
       rintro v w43 ⟨a43, m43, c43, rfl, hO43, hU43⟩
       have hzw43 := hU43.size
       replace hs := hs.upd0 hU43
       replace hsb := hsb.upd0 hU43
       replace HU := HU.trans0 hU43
       replace hO41 := hO41.upd0 hU43
       replace hO42 := hO42.upd0 hU43
       replace hO43 := hO43.tight
       have hl_hO43 := ilen hO43.sl
       have hc_hO43 := hO43.sl.cap.1
       replace hO43 := hO43.icong (show (dcF l (out l b) (((m : Nat) : Int) - 1)).1 = [] from hD2)
       have hz_hO43 : m43 = ([] : List Int).length := (ilen hO43.sl).symm
       refine Wl_v (r_mv (v := .tuple #[.slice a43 m43 c43, .int .i64 ((dcF l (out l b) (((m : Nat) : Int) - 1)).2)]) rfl) ?_
       refine Wl_v (r_ext (v := .slice a43 m43 c43) rfl rfl) ?_
       refine Wl_v (r_ext (v := .int .i64 ((dcF l (out l b) (((m : Nat) : Int) - 1)).2)) rfl rfl) ?_
       refine Wl_v (r_as (v := .slice a43 m43 c43) rfl) ?_
       refine Wl_v (r_as (v := .int .i64 ((dcF l (out l b) (((m : Nat) : Int) - 1)).2)) rfl) ?_
       refine Wl_nil ?_
       refine W_seq ?_
       refine W_seq ?_
       refine W_region ?_
       refine Wl_v (r_mv (v := .int .i64 0) rfl) ?_
       refine Wl_call (r_call1 rfl Try.call30 rfl) (num17 _ ) ?_
       rintro v w44 ⟨rfl, hU44⟩
       have hzw44 := hU44.size
       replace hs := hs.upd0 hU44
       replace hsb := hsb.upd0 hU44
       replace HU := HU.trans0 hU44
       replace hO41 := hO41.upd0 hU44
       replace hO42 := hO42.upd0 hU44
       replace hO43 := hO43.upd0 hU44
       refine Wl_v (r_mv (v := .int .i64 0) rfl) ?_
       refine Wl_call (r_call1 rfl Try.call30 rfl) (num17 _ ) ?_
       rintro v w45 ⟨rfl, hU45⟩
       have hzw45 := hU45.size
       replace hs := hs.upd0 hU45
       replace hsb := hsb.upd0 hU45
       replace HU := HU.trans0 hU45
       replace hO41 := hO41.upd0 hU45
       replace hO42 := hO42.upd0 hU45
       replace hO43 := hO43.upd0 hU45
       refine Wl_v (r_add rfl rfl (show IntKind.i64.wrap (0 + 0) = 0 by decide)) ?_
       refine Wl_v (v := .bool false) (r_ne (a := 0) (b := 0) rfl rfl) ?_
       refine Wl_v (r_mv (v := .bool false) rfl) ?_
       refine Wl_guard_t rfl ?_
       refine Wl_v (r_mv (v := .slice a41 m41 c41) rfl) ?_
       refine Wl_guard_t rfl ?_
       refine Wl_v (r_mv (v := .int .i64 0) rfl) ?_
       refine Wl_guard_t rfl ?_
       refine Wl_v (r_mv (v := .slice a2 m d) rfl) ?_
       refine Wl_guard_t rfl ?_
       refine Wl_bstr Try.underlying23 Try.underlying5 Try.underlying9 rfl hsb ?_
       refine Wl_guard_t rfl ?_
       refine Wl_call (r_call4 rfl Try.call14 rfl rfl rfl rfl) (is17 (y := b) _ hO41.sl.any hb hb) ?_
       rintro v w46 ⟨rfl, hU46⟩
       have hzw46 := hU46.size
       replace hs := hs.upd0 hU46
       replace hsb := hsb.upd0 hU46
       replace HU := HU.trans0 hU46
       replace hO42 := hO42.upd0 hU46
       replace hO43 := hO43.upd0 hU46
       refine Wl_guard_t rfl ?_
       refine Wl_v (r_not rfl) ?_
       refine Wl_v (r_pick_f (v := .bool (!decide ((b : List Int) = b ∧ (0 : Int) = 0))) rfl rfl) ?_
       refine Wl_v (r_mv (v := .bool (!decide ((b : List Int) = b ∧ (0 : Int) = 0))) rfl) ?_
       have q19 : (b : List Int) = b ∧ (0 : Int) = 0 := ⟨rfl, rfl⟩
       rw [decide_eq_true q19]
       simp only [Bool.not_true, Bool.not_false]
       refine Wl_guard_t rfl ?_
       refine Wl_v (r_mv (v := .slice a42 m42 c42) rfl) ?_
       refine Wl_guard_t rfl ?_
       refine Wl_v (r_mv (v := .int .i64 14) rfl) ?_
       refine Wl_guard_t rfl ?_
       refine Wl_call (r_call4 rfl Try.call14 rfl rfl rfl rfl) (is17 (y := []) _ hO42.sl.any byt_nil byt_nil) ?_
       rintro v w47 ⟨rfl, hU47⟩
       have hzw47 := hU47.size
       replace hs := hs.upd0 hU47
       replace hsb := hsb.upd0 hU47
       replace HU := HU.trans0 hU47
       replace hO43 := hO43.upd0 hU47
       refine Wl_guard_t rfl ?_
       refine Wl_v (r_not rfl) ?_
       refine Wl_v (r_pick_f (v := .bool (!decide (([] : List Int) = [] ∧ (14 : Int) = 14))) rfl rfl) ?_
       refine Wl_v (r_mv (v := .bool (!decide (([] : List Int) = [] ∧ (14 : Int) = 14))) rfl) ?_
       have q20 : ([] : List Int) = [] ∧ (14 : Int) = 14 := ⟨rfl, rfl⟩
       rw [decide_eq_true q20]
       simp only [Bool.not_true, Bool.not_false]
       refine Wl_guard_t rfl ?_
       refine Wl_v (r_mv (v := .slice a39 m39 c39) rfl) ?_
       refine Wl_guard_t rfl ?_
       refine Wl_v (r_len Try.underlying23 rfl) ?_
       refine Wl_guard_t rfl ?_
       refine Wl_v (r_mv (v := .int .i64 ((eL l b : Nat) : Int)) rfl) ?_
       refine Wl_guard_t rfl ?_
       refine Wl_v (r_quo rfl rfl (by omega) (tq (by omega) (wi64 (by omega) (by omega)))) ?_
       refine Wl_guard_t rfl ?_
       refine Wl_v (r_add rfl rfl (wi64 (by omega) (by omega))) ?_
       refine Wl_guard_t rfl ?_
       refine Wl_v (r_ne rfl rfl) ?_
       refine Wl_v (r_pick_f (v := .bool (decide (((m39 : Nat) : Int) ≠ ((((eL l b : Nat) : Int) / 8) + 1)))) rfl rfl) ?_
       refine Wl_nil ?_
       have q21 : ¬ (((m39 : Nat) : Int) ≠ ((((eL l b : Nat) : Int) / 8) + 1)) := (by omega)
       rw [decide_eq_false q21]
       refine W_cond_f rfl ?_
       refine W_skip ?_
       refine W_seq ?_
       refine W_seq ?_
       refine W_region ?_
       refine Wl_v (r_mv (v := .slice a2 m d) rfl) ?_
       refine Wl_v (r_len Try.underlying23 rfl) ?_
       refine Wl_v (r_gt rfl rfl) ?_
       refine Wl_v (r_mv (v := .bool (decide (0 < ((m : Nat) : Int)))) rfl) ?_
       by_cases q22 : 0 < ((m : Nat) : Int)
       ·rw [decide_eq_true q22]
        refine Wl_guard_t rfl ?_
        refine Wl_v (r_mv (v := .slice a43 m43 c43) rfl) ?_
        refine Wl_guard_t rfl ?_
        refine Wl_v (r_mv (v := .int .i64 ((dcF l (out l b) (((m : Nat) : Int) - 1)).2)) rfl) ?_
        refine Wl_guard_t rfl ?_
        refine Wl_call (r_call4 rfl Try.call14 rfl rfl rfl rfl) (is17 (y := []) _ hO43.sl.any byt_nil byt_nil) ?_
        rintro v w48 ⟨rfl, hU48⟩
        have hzw48 := hU48.size
        replace hs := hs.upd0 hU48
        replace hsb := hsb.upd0 hU48
        replace HU := HU.trans0 hU48
        refine Wl_guard_t rfl ?_
        refine Wl_v (r_not rfl) ?_
        refine Wl_v (r_pick_t (v := .bool (!decide (([] : List Int) = [] ∧ (((dcF l (out l b) (((m : Nat) : Int) - 1)).2) : Int) = 14))) rfl rfl) ?_
        refine Wl_v (r_mv (v := .bool (!decide (([] : List Int) = [] ∧ (((dcF l (out l b) (((m : Nat) : Int) - 1)).2) : Int) = 14))) rfl) ?_
        have q23 : ([] : List Int) = [] ∧ (((dcF l (out l b) (((m : Nat) : Int) - 1)).2) : Int) = 14 := ⟨rfl, by rw [hold_x hr hb hH (show b.length = m from by omega) (by omega) (by omega) (by omega)]⟩
        rw [decide_eq_true q23]
        simp only [Bool.not_true, Bool.not_false]
        refine Wl_guard_t rfl ?_
        refine Wl_v (r_mv (v := .slice a2 m d) rfl) ?_
        refine Wl_guard_t rfl ?_
        refine Wl_v (r_len Try.underlying23 rfl) ?_
        refine Wl_guard_t rfl ?_
        refine Wl_v (r_eq rfl rfl) ?_
        refine Wl_guard_t rfl ?_
        refine Wl_v (r_mv (v := .bool (decide (((m : Nat) : Int) = 0))) rfl) ?_
        have q24 : ¬ (((m : Nat) : Int) = 0) := (by omega)
        rw [decide_eq_false q24]
        refine Wl_guard_f rfl ?_
        refine Wl_guard_f rfl ?_
        refine Wl_guard_f rfl ?_
        refine Wl_guard_f rfl ?_
        refine Wl_guard_t rfl ?_
        refine Wl_v (r_pick_f (v := .bool false) rfl rfl) ?_
        refine Wl_v (r_pick_f (v := .bool false) rfl rfl) ?_
        refine Wl_nil ?_
        refine W_cond_f rfl ?_
        refine W_skip ?_
        refine W_seq ?_
        refine W_region ?_
        refine Wl_v (r_mv (v := .int .u16 cut) rfl) ?_
        refine Wl_v (r_cvt Try.underlying48 Try.underlying3 rfl (wi64 (by omega) (by omega))) ?_
        refine Wl_v (r_mv (v := .slice a2 m d) rfl) ?_
        refine Wl_v (r_len Try.underlying23 rfl) ?_
        refine Wl_v (r_add rfl rfl (wi64 (by omega) (by omega))) ?_
        refine Wl_v (r_rem rfl rfl (by omega) (tr (by omega))) ?_
        refine Wl_v (r_as (v := .int .i64 (cut % (((m : Nat) : Int) + 1))) rfl) ?_
        obtain ⟨k, hk, hkm⟩ := mod_nat17 (x := cut) (m := m) (by omega)
        rw [show (cut % (((m : Nat) : Int) + 1) : Int) = ((k : Nat) : Int) from hk]
        have hos := hold_s l b k
        refine Wl_nil ?_
        refine W_seq ?_
        refine W_region ?_
        refine Wl_v (r_mv (v := .slice a n c) rfl) ?_
        refine Wl_v (r_mv (v := .slice a2 m d) rfl) ?_
        refine Wl_v (r_mv (v := .int .i64 ((k : Nat) : Int)) rfl) ?_
        refine Wl_v (r_slicehn (h' := k) Try.underlying23 Try.sizeOf5 rfl rfl (by omega) (by omega)) ?_
        have hT49 := Sl.cuth (n := k) hsb (by omega)
        have hl_hT49 := ilen hT49
        have hc_hT49 := hT49.cap.1
        refine Wl_call (r_call2 rfl Try.call15 rfl rfl) (obl_spec _ hs (by omega) hT49.any (byt_take hb _) (by omega)) ?_
        rintro v w50 ⟨rfl, hU50⟩
        have hzw50 := hU50.size
        replace hs := hs.upd0 hU50
        replace hsb := hsb.upd0 hU50
        replace HU := HU.trans0 hU50
        rw [show (blF l (b.take k)).1 = ((eL l (b.take k) : Nat) : Int) from (by rw [hold_l hr (hH.take' k)])]
        rw [show (blF l (b.take k)).2 = 0 from (by rw [hold_l hr (hH.take' k)])]
        refine Wl_v (r_mv (v := .tuple #[.int .i64 ((eL l (b.take k) : Nat) : Int), .int .i64 0]) rfl) ?_
        refine Wl_v (r_ext (v := .int .i64 ((eL l (b.take k) : Nat) : Int)) rfl rfl) ?_
        refine Wl_v (r_ext (v := .int .i64 0) rfl rfl) ?_
        refine Wl_v (r_as (v := .int .i64 ((eL l (b.take k) : Nat) : Int)) rfl) ?_
        refine Wl_v (r_as (v := .int .i64 0) rfl) ?_
        refine Wl_nil ?_
        refine W_seq ?_
        refine W_region ?_
        refine Wl_v (r_mv (v := .slice a n c) rfl) ?_
        refine Wl_v (r_mv (v := .slice a2 m d) rfl) ?_
        refine Wl_v (r_mv (v := .int .i64 ((k : Nat) : Int)) rfl) ?_
        refine Wl_v (r_slicelen (l' := k) (n' := m - k) Try.underlying23 Try.sizeOf5 rfl rfl (by omega) (by omega) (by omega)) ?_
        have hT51 := Sl.cutl (l := k) (n := m - k) hsb (by omega) (by omega)
        have hl_hT51 := ilen hT51
        have hc_hT51 := hT51.cap.1
        refine Wl_call (r_call2 rfl Try.call15 rfl rfl) (obl_spec _ hs (by omega) hT51.any (byt_drop hb _) (by omega)) ?_
        rintro v w52 ⟨rfl, hU52⟩
        have hzw52 := hU52.size
        replace HU := HU.trans0 hU52
        rw [show (blF l (b.drop k)).1 = ((eL l (b.drop k) : Nat) : Int) from (by rw [hold_l hr (hH.drop k)])]
        rw [show (blF l (b.drop k)).2 = 0 from (by rw [hold_l hr (hH.drop k)])]
        refine Wl_v (r_mv (v := .tuple #[.int .i64 ((eL l (b.drop k) : Nat) : Int), .int .i64 0]) rfl) ?_
        refine Wl_v (r_ext (v := .int .i64 ((eL l (b.drop k) : Nat) : Int)) rfl rfl) ?_
        refine Wl_v (r_ext (v := .int .i64 0) rfl rfl) ?_
        refine Wl_v (r_as (v := .int .i64 ((eL l (b.drop k) : Nat) : Int)) rfl) ?_
        refine Wl_v (r_as (v := .int .i64 0) rfl) ?_
        refine Wl_nil ?_
        refine W_seq ?_
        refine W_region ?_
        refine Wl_v (r_mv (v := .int .i64 0) rfl) ?_
        refine Wl_call (r_call1 rfl Try.call30 rfl) (num17 _ ) ?_
        rintro v w53 ⟨rfl, hU53⟩
        have hzw53 := hU53.size
        replace HU := HU.trans0 hU53
        refine Wl_v (r_mv (v := .int .i64 0) rfl) ?_
        refine Wl_call (r_call1 rfl Try.call30 rfl) (num17 _ ) ?_
        rintro v w54 ⟨rfl, hU54⟩
        have hzw54 := hU54.size
        replace HU := HU.trans0 hU54
        refine Wl_v (r_add rfl rfl (show IntKind.i64.wrap (0 + 0) = 0 by decide)) ?_
        refine Wl_v (v := .bool true) (r_eq (a := 0) (b := 0) rfl rfl) ?_
        refine Wl_v (r_mv (v := .bool true) rfl) ?_
        refine Wl_guard_t rfl ?_
        refine Wl_v (r_mv (v := .int .i64 ((eL l (b.take k) : Nat) : Int)) rfl) ?_
        refine Wl_guard_t rfl ?_
        refine Wl_v (r_mv (v := .int .i64 ((eL l (b.drop k) : Nat) : Int)) rfl) ?_
        refine Wl_guard_t rfl ?_
        refine Wl_v (r_add rfl rfl (wi64 (by omega) (by omega))) ?_
        refine Wl_guard_t rfl ?_
        refine Wl_v (r_mv (v := .int .i64 ((eL l b : Nat) : Int)) rfl) ?_
        refine Wl_guard_t rfl ?_
        refine Wl_v (r_eq rfl rfl) ?_
        refine Wl_v (r_pick_t (v := .bool (decide ((((eL l (b.take k) : Nat) : Int) + ((eL l (b.drop k) : Nat) : Int)) = ((eL l b : Nat) : Int)))) rfl rfl) ?_
        refine Wl_v (r_mv (v := .bool (decide ((((eL l (b.take k) : Nat) : Int) + ((eL l (b.drop k) : Nat) : Int)) = ((eL l b : Nat) : Int)))) rfl) ?_
        have q25 : (((eL l (b.take k) : Nat) : Int) + ((eL l (b.drop k) : Nat) : Int)) = ((eL l b : Nat) : Int) := (by have := hold_s l b k; omega)
        rw [decide_eq_true q25]
        refine Wl_guard_t rfl ?_
        refine Wl_call (r_call0 rfl Try.call11 ) (works17 _ ) ?_
        rintro v w55 ⟨rfl, hU55⟩
        have hzw55 := hU55.size
        replace HU := HU.trans0 hU55
        refine Wl_v (r_pick_t (v := .bool true) rfl rfl) ?_
        refine Wl_v (r_as (v := .bool true) rfl) ?_
        refine Wl_nil ?_
        refine W_ret ?_
        refine ret_end (v := .bool true) rfl (res1 Try.results10 rfl) ?_
        exact ⟨_, rfl, rfl, HU⟩
       ·rw [decide_eq_false q22]
        refine Wl_guard_f rfl ?_
        refine Wl_guard_f rfl ?_
        refine Wl_guard_f rfl ?_
        refine Wl_guard_f rfl ?_
        refine Wl_v (r_pick_f (v := .bool false) rfl rfl) ?_
        refine Wl_v (r_mv (v := .bool false) rfl) ?_
        refine Wl_guard_t rfl ?_
        refine Wl_v (r_mv (v := .slice a2 m d) rfl) ?_
        refine Wl_guard_t rfl ?_
        refine Wl_v (r_len Try.underlying23 rfl) ?_
        refine Wl_guard_t rfl ?_
        refine Wl_v (r_eq rfl rfl) ?_
        refine Wl_guard_t rfl ?_
        refine Wl_v (r_mv (v := .bool (decide (((m : Nat) : Int) = 0))) rfl) ?_
        have q26 : ((m : Nat) : Int) = 0 := (by omega)
        rw [decide_eq_true q26]
        refine Wl_guard_t rfl ?_
        refine Wl_v (r_mv (v := .slice a43 m43 c43) rfl) ?_
        refine Wl_guard_t rfl ?_
        refine Wl_v (r_mv (v := .int .i64 ((dcF l (out l b) (((m : Nat) : Int) - 1)).2)) rfl) ?_
        refine Wl_guard_t rfl ?_
        refine Wl_call (r_call4 rfl Try.call14 rfl rfl rfl rfl) (is17 (y := []) _ hO43.sl.any byt_nil byt_nil) ?_
        rintro v w56 ⟨rfl, hU56⟩
        have hzw56 := hU56.size
        replace hs := hs.upd0 hU56
        replace hsb := hsb.upd0 hU56
        replace HU := HU.trans0 hU56
        refine Wl_guard_t rfl ?_
        refine Wl_v (r_not rfl) ?_
        refine Wl_guard_t rfl ?_
        refine Wl_v (r_pick_t (v := .bool (!decide (([] : List Int) = [] ∧ (((dcF l (out l b) (((m : Nat) : Int) - 1)).2) : Int) = 2))) rfl rfl) ?_
        refine Wl_v (r_pick_f (v := .bool (!decide (([] : List Int) = [] ∧ (((dcF l (out l b) (((m : Nat) : Int) - 1)).2) : Int) = 2))) rfl rfl) ?_
        refine Wl_nil ?_
        have q27 : ([] : List Int) = [] ∧ (((dcF l (out l b) (((m : Nat) : Int) - 1)).2) : Int) = 2 := ⟨rfl, by rw [hold_n hr (by omega)]⟩
        rw [decide_eq_true q27]
        simp only [Bool.not_true, Bool.not_false]
        refine W_cond_f rfl ?_
        refine W_skip ?_
        refine W_seq ?_
        refine W_region ?_
        refine Wl_v (r_mv (v := .int .u16 cut) rfl) ?_
        refine Wl_v (r_cvt Try.underlying48 Try.underlying3 rfl (wi64 (by omega) (by omega))) ?_
        refine Wl_v (r_mv (v := .slice a2 m d) rfl) ?_
        refine Wl_v (r_len Try.underlying23 rfl) ?_
        refine Wl_v (r_add rfl rfl (wi64 (by omega) (by omega))) ?_
        refine Wl_v (r_rem rfl rfl (by omega) (tr (by omega))) ?_
        refine Wl_v (r_as (v := .int .i64 (cut % (((m : Nat) : Int) + 1))) rfl) ?_
        obtain ⟨k, hk, hkm⟩ := mod_nat17 (x := cut) (m := m) (by omega)
        rw [show (cut % (((m : Nat) : Int) + 1) : Int) = ((k : Nat) : Int) from hk]
        have hos := hold_s l b k
        refine Wl_nil ?_
        refine W_seq ?_
        refine W_region ?_
        refine Wl_v (r_mv (v := .slice a n c) rfl) ?_
        refine Wl_v (r_mv (v := .slice a2 m d) rfl) ?_
        refine Wl_v (r_mv (v := .int .i64 ((k : Nat) : Int)) rfl) ?_
        refine Wl_v (r_slicehn (h' := k) Try.underlying23 Try.sizeOf5 rfl rfl (by omega) (by omega)) ?_
        have hT57 := Sl.cuth (n := k) hsb (by omega)
        have hl_hT57 := ilen hT57
        have hc_hT57 := hT57.cap.1
        refine Wl_call (r_call2 rfl Try.call15 rfl rfl) (obl_spec _ hs (by omega) hT57.any (byt_take hb _) (by omega)) ?_
        rintro v w58 ⟨rfl, hU58⟩
        have hzw58 := hU58.size
        replace hs := hs.upd0 hU58
        replace hsb := hsb.upd0 hU58
        replace HU := HU.trans0 hU58
        rw [show (blF l (b.take k)).1 = ((eL l (b.take k) : Nat) : Int) from (by rw [hold_l hr (hH.take' k)])]
        rw [show (blF l (b.take k)).2 = 0 from (by rw [hold_l hr (hH.take' k)])]
        refine Wl_v (r_mv (v := .tuple #[.int .i64 ((eL l (b.take k) : Nat) : Int), .int .i64 0]) rfl) ?_
        refine Wl_v (r_ext (v := .int .i64 ((eL l (b.take k) : Nat) : Int)) rfl rfl) ?_
        refine Wl_v (r_ext (v := .int .i64 0) rfl rfl) ?_
        refine Wl_v (r_as (v := .int .i64 ((eL l (b.take k) : Nat) : Int)) rfl) ?_
        refine Wl_v (r_as (v := .int .i64 0) rfl) ?_
        refine Wl_nil ?_
        refine W_seq ?_
        refine W_region ?_
        refine Wl_v (r_mv (v := .slice a n c) rfl) ?_
        refine Wl_v (r_mv (v := .slice a2 m d) rfl) ?_
        refine Wl_v (r_mv (v := .int .i64 ((k : Nat) : Int)) rfl) ?_
        refine Wl_v (r_slicelen (l' := k) (n' := m - k) Try.underlying23 Try.sizeOf5 rfl rfl (by omega) (by omega) (by omega)) ?_
        have hT59 := Sl.cutl (l := k) (n := m - k) hsb (by omega) (by omega)
        have hl_hT59 := ilen hT59
        have hc_hT59 := hT59.cap.1
        refine Wl_call (r_call2 rfl Try.call15 rfl rfl) (obl_spec _ hs (by omega) hT59.any (byt_drop hb _) (by omega)) ?_
        rintro v w60 ⟨rfl, hU60⟩
        have hzw60 := hU60.size
        replace HU := HU.trans0 hU60
        rw [show (blF l (b.drop k)).1 = ((eL l (b.drop k) : Nat) : Int) from (by rw [hold_l hr (hH.drop k)])]
        rw [show (blF l (b.drop k)).2 = 0 from (by rw [hold_l hr (hH.drop k)])]
        refine Wl_v (r_mv (v := .tuple #[.int .i64 ((eL l (b.drop k) : Nat) : Int), .int .i64 0]) rfl) ?_
        refine Wl_v (r_ext (v := .int .i64 ((eL l (b.drop k) : Nat) : Int)) rfl rfl) ?_
        refine Wl_v (r_ext (v := .int .i64 0) rfl rfl) ?_
        refine Wl_v (r_as (v := .int .i64 ((eL l (b.drop k) : Nat) : Int)) rfl) ?_
        refine Wl_v (r_as (v := .int .i64 0) rfl) ?_
        refine Wl_nil ?_
        refine W_seq ?_
        refine W_region ?_
        refine Wl_v (r_mv (v := .int .i64 0) rfl) ?_
        refine Wl_call (r_call1 rfl Try.call30 rfl) (num17 _ ) ?_
        rintro v w61 ⟨rfl, hU61⟩
        have hzw61 := hU61.size
        replace HU := HU.trans0 hU61
        refine Wl_v (r_mv (v := .int .i64 0) rfl) ?_
        refine Wl_call (r_call1 rfl Try.call30 rfl) (num17 _ ) ?_
        rintro v w62 ⟨rfl, hU62⟩
        have hzw62 := hU62.size
        replace HU := HU.trans0 hU62
        refine Wl_v (r_add rfl rfl (show IntKind.i64.wrap (0 + 0) = 0 by decide)) ?_
        refine Wl_v (v := .bool true) (r_eq (a := 0) (b := 0) rfl rfl) ?_
        refine Wl_v (r_mv (v := .bool true) rfl) ?_
        refine Wl_guard_t rfl ?_
        refine Wl_v (r_mv (v := .int .i64 ((eL l (b.take k) : Nat) : Int)) rfl) ?_
        refine Wl_guard_t rfl ?_
        refine Wl_v (r_mv (v := .int .i64 ((eL l (b.drop k) : Nat) : Int)) rfl) ?_
        refine Wl_guard_t rfl ?_
        refine Wl_v (r_add rfl rfl (wi64 (by omega) (by omega))) ?_
        refine Wl_guard_t rfl ?_
        refine Wl_v (r_mv (v := .int .i64 ((eL l b : Nat) : Int)) rfl) ?_
        refine Wl_guard_t rfl ?_
        refine Wl_v (r_eq rfl rfl) ?_
        refine Wl_v (r_pick_t (v := .bool (decide ((((eL l (b.take k) : Nat) : Int) + ((eL l (b.drop k) : Nat) : Int)) = ((eL l b : Nat) : Int)))) rfl rfl) ?_
        refine Wl_v (r_mv (v := .bool (decide ((((eL l (b.take k) : Nat) : Int) + ((eL l (b.drop k) : Nat) : Int)) = ((eL l b : Nat) : Int)))) rfl) ?_
        have q28 : (((eL l (b.take k) : Nat) : Int) + ((eL l (b.drop k) : Nat) : Int)) = ((eL l b : Nat) : Int) := (by have := hold_s l b k; omega)
        rw [decide_eq_true q28]
        refine Wl_guard_t rfl ?_
        refine Wl_call (r_call0 rfl Try.call11 ) (works17 _ ) ?_
        rintro v w63 ⟨rfl, hU63⟩
        have hzw63 := hU63.size
        replace HU := HU.trans0 hU63
        refine Wl_v (r_pick_t (v := .bool true) rfl rfl) ?_
        refine Wl_v (r_as (v := .bool true) rfl) ?_
        refine Wl_nil ?_
        refine W_ret ?_
        refine ret_end (v := .bool true) rfl (res1 Try.results10 rfl) ?_
        exact ⟨_, rfl, rfl, HU⟩
      ·rw [decide_eq_false q18]
       simp only [Bool.not_true, Bool.not_false]
       refine W_cond_t rfl ?_
       refine W_seq ?_
       refine W_region ?_
       refine Wl_call (r_call0 rfl Try.call11 ) (works17 _ ) ?_
       rintro v w64 ⟨rfl, hU64⟩
       have hzw64 := hU64.size
       replace HU := HU.trans0 hU64
       refine Wl_v (r_as (v := .bool true) rfl) ?_
       refine Wl_nil ?_
       refine W_ret ?_
       refine ret_end (v := .bool true) rfl (res1 Try.results10 rfl) ?_
       exact ⟨_, rfl, rfl, HU⟩
    ·rw [decide_eq_false q4]
     simp only [Bool.not_true, Bool.not_false]
     refine W_cond_t rfl ?_
     refine W_seq ?_
     refine W_region ?_
     refine Wl_call (r_call0 rfl Try.call11 ) (works17 _ ) ?_
     rintro v w65 ⟨rfl, hU65⟩
     have hzw65 := hU65.size
     replace HU := HU.trans0 hU65
     refine Wl_v (r_as (v := .bool true) rfl) ?_
     refine Wl_nil ?_
     refine W_ret ?_
     refine ret_end (v := .bool true) rfl (res1 Try.results10 rfl) ?_
     exact ⟨_, rfl, rfl, HU⟩

end Go.Proofs.Ytilegaokfamfnaa
