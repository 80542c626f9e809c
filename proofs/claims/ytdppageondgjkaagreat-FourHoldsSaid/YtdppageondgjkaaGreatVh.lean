/-
 Walks, printed by a small program of this project (gen.py).
-/
import Derived.Test.YtdppageondgjkaaGreatVf
set_option linter.unusedVariables false
set_option linter.unusedSimpArgs false
namespace Go.Proofs.YtdppageondgjkaaGreat
open Go.Fw
open Nu
theorem enF_hs {l b : List Int} (hr : Rt l) (h : (enF l b).2 = true) : Hs l b := by
 rcases Classical.em (Hs l b) with h1 | h1
 ·exact h1
 ·rw [enF_f hr h1] at h; cases h
theorem blF_ok {l b : List Int} (hr : Rt l) (h : Hs l b) : blF l b = (((eL l b : Nat) : Int), 0) := by
 unfold blF; rw [if_neg (not_not_intro hr), if_neg (not_not_intro h)]
theorem hold_d {l b : List Int} {m : Nat} (hr : Rt l) (hb : Byt b) (h : Hs l b) (hm : b.length = m) (hl : m ≤ 300) : dcF l (out l b) ((m : Nat) : Int) = (b, 0) := by
 obtain ⟨h1, h2, h3⟩ := out_cl hr h
 have hw := (cv_bd hr h).2.2
 have h4 := nb_enc hr hb h hw
 have h5 := yms_enc hr hb h hw
 unfold dcF
 rw [if_neg (not_not_intro hr), if_neg (not_not_intro ⟨by omega, by omega⟩), if_neg (not_not_intro h1), Int.toNat_natCast, if_pos ((gd_end hr).2 (by rw [h2, h3, h4.1]; exact ⟨hm.symm, h4.2⟩)), h2, h3, ← hm, h5]
theorem dc_out {l s : List Int} {p : Int} (hr : Rt l) (hs : Byt s) (h : (dcF l s p).2 = 0) : 0 ≤ p ∧ (((dcF l s p).1.length : Nat) : Int) = p ∧ out l (dcF l s p).1 = s ∧ Hs l (dcF l s p).1 := by
 unfold dcF at h ⊢
 rw [if_neg (not_not_intro hr)] at h ⊢
 by_cases hp : 0 ≤ p ∧ p ≤ 131072
 ·rw [if_neg (not_not_intro hp)] at h ⊢
  by_cases hc : Cl s
  ·rw [if_neg (not_not_intro hc)] at h ⊢
   by_cases hg : Gd l s (tbt s) p.toNat ∧ st l (wn s) (tbt s) p.toNat = 0
   ·rw [if_pos hg]
    have ho := out_dec hr hs hc hg.1 hg.2
    refine ⟨hp.1, ?_, ho.1, ho.2⟩
    show (((yms l (wn s) (tbt s) p.toNat).length : Nat) : Int) = p
    rw [yms_len]; omega
   ·rw [if_neg hg] at h; exact absurd (show (14 : Int) = 0 from h) (by decide)
  ·rw [if_pos hc] at h; exact absurd (show (14 : Int) = 0 from h) (by decide)
 ·rw [if_pos hp] at h; exact absurd (show (2 : Int) = 0 from h) (by decide)
theorem pt_at {x a b c : List Int} {f g : Nat} (h : x = a ++ (b ++ c)) (hf : a.length = f) (hg : f + b.length = g) : pt x f g = b := by
 subst h hf hg
 unfold pt
 rw [List.drop_left, Nat.add_sub_cancel_left, List.take_left]
theorem Hs.app {l a b : List Int} (h1 : Hs l a) (h2 : Hs l b) : Hs l (a ++ b) := fun x hx => (List.mem_append.1 hx).elim (h1 x) (h2 x)
/-- what is decoded encodes to the same section -/
theorem four_a {l s : List Int} {n : Int} (hs : Byt s) (h : (d4F l s n).2 = 0) : f4F l (d4F l s n).1 = (s, 0) ∧ (((d4F l s n).1.length : Nat) : Int) = n := by
 obtain ⟨h0, h1, h2, h3, h4⟩ := d4F_inv h
 obtain ⟨hr, hp, he⟩ := hdF_inv h0
 have hpr := paF_inv hp
 have hj := jn_of hs he
 rw [d4F_ok h0 h1 h2 h3 h4]
 obtain ⟨p1, l1, o1, s1⟩ := dc_out hr (gby_byt hs _ _) h1
 obtain ⟨_, l2, o2, s2⟩ := dc_out hr (gby_byt hs _ _) h2
 obtain ⟨_, l3, o3, s3⟩ := dc_out hr (gby_byt hs _ _) h3
 obtain ⟨p4, l4, o4, s4⟩ := dc_out hr (hs.drop _) h4
 obtain ⟨x1, hx1⟩ : ∃ x, x = (dz1 l s n).1 := ⟨_, rfl⟩
 obtain ⟨x2, hx2⟩ : ∃ x, x = (dz2 l s n).1 := ⟨_, rfl⟩
 obtain ⟨x3, hx3⟩ : ∃ x, x = (dz3 l s n).1 := ⟨_, rfl⟩
 obtain ⟨x4, hx4⟩ : ∃ x, x = (dz4 l s n).1 := ⟨_, rfl⟩
 rw [← hx1] at l1 o1 s1 ⊢
 rw [← hx2] at l2 o2 s2 ⊢
 rw [← hx3] at l3 o3 s3 ⊢
 rw [← hx4] at l4 o4 s4 ⊢
 have hlen : (x1 ++ (x2 ++ (x3 ++ x4))).length = x1.length + (x2.length + (x3.length + x4.length)) := by simp
 have hH : Hs l (x1 ++ (x2 ++ (x3 ++ x4))) := s1.app (s2.app (s3.app s4))
 have hk : (x1.length + (x2.length + (x3.length + x4.length)) + 3) / 4 = x1.length := by omega
 show f4F l (x1 ++ (x2 ++ (x3 ++ x4))) = (s, 0) ∧ (((x1 ++ (x2 ++ (x3 ++ x4))).length : Nat) : Int) = n
 refine ⟨?_, by rw [hlen]; omega⟩
 rw [f4F_ok hlen (by rw [blF_ok hr hH]) (by rw [show ((x1.length + (x2.length + (x3.length + x4.length)) : Nat) : Int) = n from by omega]; exact hp) hk (r := x4.length) (by omega)]
 have t1 : pt (x1 ++ (x2 ++ (x3 ++ x4))) 0 x1.length = x1 := pt_at (a := []) (c := x2 ++ (x3 ++ x4)) rfl rfl (by simp)
 have t2 : pt (x1 ++ (x2 ++ (x3 ++ x4))) x1.length (2 * x1.length) = x2 := pt_at (a := x1) (c := x3 ++ x4) rfl rfl (by omega)
 have t3 : pt (x1 ++ (x2 ++ (x3 ++ x4))) (2 * x1.length) (3 * x1.length) = x3 := pt_at (a := x1 ++ x2) (c := x4) (by simp) (by rw [List.length_append]; omega) (by omega)
 have t4 : pt (x1 ++ (x2 ++ (x3 ++ x4))) (3 * x1.length) (3 * x1.length + x4.length) = x4 := pt_at (a := x1 ++ (x2 ++ x3)) (c := []) (by simp) (by rw [List.length_append, List.length_append]; omega) (by omega)
 rw [t1, t2, t3, t4, o1, o2, o3, o4]
 rw [show jn (y1 s).1 (y2 s).1 (y3 s).1 (y4 s) = s from hj]
theorem pt_all {b : List Int} {k r m : Nat} (hm : b.length = m) (hr : 3 * k + r = m) : pt b 0 k ++ (pt b k (2 * k) ++ (pt b (2 * k) (3 * k) ++ pt b (3 * k) (3 * k + r))) = b := by
 unfold pt
 have e1 : b.drop (3 * k) = (b.drop (2 * k)).drop k := by rw [List.drop_drop]; congr 1; omega
 have e2 : b.drop (2 * k) = (b.drop k).drop k := by rw [List.drop_drop]; congr 1; omega
 rw [show 3 * k + r - 3 * k = r from by omega, show 3 * k - 2 * k = k from by omega, show 2 * k - k = k from by omega, List.take_of_length_le (l := b.drop (3 * k)) (i := r) (by rw [List.length_drop]; omega), e1, List.take_append_drop, e2, List.take_append_drop]
 simp
/-- what is encoded is decoded -/
theorem four_b {l b A : List Int} {m k r : Nat} (hr : Rt l) (hb : Byt b) (hH : Hs l b) (hm : b.length = m) (hl : m ≤ 300) (hp : paF ((m : Nat) : Int) = 0) (hk : (m + 3) / 4 = k) (hkr : 3 * k + r = m) (hA : A = (f4F l b).1) :
  f4F l b = (A, 0) ∧ A = jn (out l (pt b 0 k)) (out l (pt b k (2 * k))) (out l (pt b (2 * k) (3 * k))) (out l (pt b (3 * k) (3 * k + r))) ∧ Byt A ∧ A.length ≤ 3000 ∧ e4 A = 0 ∧ (y1 A).1 = out l (pt b 0 k) ∧ (y2 A).1 = out l (pt b k (2 * k)) ∧ (y3 A).1 = out l (pt b (2 * k) (3 * k)) ∧ y4 A = out l (pt b (3 * k) (3 * k + r)) ∧
  d4F l A ((m : Nat) : Int) = (b, 0) := by
 have hf := f4F_ok hm (by rw [blF_ok hr hH]) hp hk hkr
 have hAj : A = jn (out l (pt b 0 k)) (out l (pt b k (2 * k))) (out l (pt b (2 * k) (3 * k))) (out l (pt b (3 * k) (3 * k + r))) := by rw [hA, hf]
 have b1 := out_lel (b := b) hr 0 k
 have b2 := out_lel (b := b) hr k (2 * k)
 have b3 := out_lel (b := b) hr (2 * k) (3 * k)
 have b4 := out_lel (b := b) hr (3 * k) (3 * k + r)
 have hj := jn_split (a := out l (pt b 0 k)) (b := out l (pt b k (2 * k))) (c := out l (pt b (2 * k) (3 * k))) (d := out l (pt b (3 * k) (3 * k + r))) (by omega) (by omega) (by omega)
 rw [← hAj] at hj
 have hpi := paF_inv hp
 have v1 := vi_len (((out l (pt b 0 k)).length : Nat) : Int)
 have v2 := vi_len (((out l (pt b k (2 * k))).length : Nat) : Int)
 have v3 := vi_len (((out l (pt b (2 * k) (3 * k))).length : Nat) : Int)
 have hAl : A.length ≤ 3000 := by
  rw [hAj]; unfold jn; simp only [List.length_append]; omega
 have q1 : dz1 l A ((m : Nat) : Int) = (pt b 0 k, 0) := by
  show dcF l (y1 A).1 _ = _
  rw [hj.2.1, show (((m : Nat) : Int) + 3) / 4 = ((k : Nat) : Int) from by omega]
  exact hold_d hr (pt_byt hb _ _) (hH.pt _ _) (by rw [pt_len (by omega) (by omega)]; omega) (by omega)
 have q2 : dz2 l A ((m : Nat) : Int) = (pt b k (2 * k), 0) := by
  show dcF l (y2 A).1 _ = _
  rw [hj.2.2.1, show (((m : Nat) : Int) + 3) / 4 = ((k : Nat) : Int) from by omega]
  exact hold_d hr (pt_byt hb _ _) (hH.pt _ _) (by rw [pt_len (by omega) (by omega)]; omega) (by omega)
 have q3 : dz3 l A ((m : Nat) : Int) = (pt b (2 * k) (3 * k), 0) := by
  show dcF l (y3 A).1 _ = _
  rw [hj.2.2.2.1, show (((m : Nat) : Int) + 3) / 4 = ((k : Nat) : Int) from by omega]
  exact hold_d hr (pt_byt hb _ _) (hH.pt _ _) (by rw [pt_len (by omega) (by omega)]; omega) (by omega)
 have q4 : dz4 l A ((m : Nat) : Int) = (pt b (3 * k) (3 * k + r), 0) := by
  show dcF l (y4 A) _ = _
  rw [hj.2.2.2.2, show ((m : Nat) : Int) - 3 * ((((m : Nat) : Int) + 3) / 4) = ((r : Nat) : Int) from by omega]
  exact hold_d hr (pt_byt hb _ _) (hH.pt _ _) (by rw [pt_len (by omega) (by omega)]; omega) (by omega)
 have hh : hdF l A ((m : Nat) : Int) = 0 := (hdF_e hr hp).trans hj.1
 refine ⟨by rw [hA, hf], hAj, ?_, hAl, hj.1, hj.2.1, hj.2.2.1, hj.2.2.2.1, hj.2.2.2.2, ?_⟩
 ·rw [hAj]; exact jn_byt (out_byt _ _) (out_byt _ _) (out_byt _ _) (out_byt _ _)
 ·rw [d4F_ok hh (by rw [q1]) (by rw [q2]) (by rw [q3]) (by rw [q4]), q1, q2, q3, q4]
  show (pt b 0 k ++ (pt b k (2 * k) ++ (pt b (2 * k) (3 * k) ++ pt b (3 * k) (3 * k + r))), (0 : Int)) = (b, 0)
  rw [pt_all hm hkr]
set_option maxHeartbeats 8000000 in
set_option maxRecDepth 100000 in
theorem fourholds {a a2 a3 : Option Addr} {n c m d p q : Nat} {l b s : List Int} {nn : Int} (w : World) (hs : Sl w (fun g => g < w.heap.size) 1 (.slice a n c) n (ints .i64 l)) (hn : n ≤ 17592186044415) (hsb : Sl w (fun g => g < w.heap.size) 1 (.slice a2 m d) m (ints .u8 b)) (hb : Byt b) (hm : m ≤ 140737488351232) (hss : Sl w (fun g => g < w.heap.size) 1 (.slice a3 p q) p (ints .u8 s)) (hbs : Byt s) (hp : p ≤ 140737488351232) (hni : -9223372036854775808 ≤ nn ∧ nn ≤ 9223372036854775807) :
  Calls Tryz.prog 9 #[.slice a n c, .slice a2 m d, .slice a3 p q, .int .i64 nn] w (Ret fun v w' => v = .bool true ∧ Upd No w w') := by
 have HU : Upd (fun b => False) w w := Upd.refl _ _
 have hl_hs := ilen hs
 have hc_hs := hs.cap.1
 have hl_hsb := ilen hsb
 have hc_hsb := hsb.cap.1
 have hl_hss := ilen hss
 have hc_hss := hss.cap.1
 refine calls_of_W Tryz.func9 rfl Tryz.ntmps9 (by simp) ?_
 refine W_seq (W_region ?_)
 refine Was (.bool false) ?_
 refine Wl_nil (W_seq (W_seq (W_region ?_)))
 refine Wmv (.slice a n c) ?_
 refine Wl_v (r_len Tryz.underlying22 rfl) ?_
 refine Wl_v (r_gt rfl rfl) ?_
 refine Wmv (.bool (decide (256 < ((n : Nat) : Int)))) ?_
 by_cases q1 : 256 < ((n : Nat) : Int)
 ·rw [decide_eq_true q1]
  refine Wl_guard_f rfl (Wl_guard_f rfl (Wl_guard_f rfl ?_))
  refine Wl_v (r_pick_t (v := .bool true) rfl rfl) ?_
  refine Wmv (.bool true) ?_
  refine Wl_guard_f rfl (Wl_guard_f rfl (Wl_guard_f rfl ?_))
  refine Wl_v (r_pick_t (v := .bool true) rfl rfl) ?_
  refine Wmv (.bool true) ?_
  refine Wl_guard_f rfl (Wl_guard_f rfl (Wl_guard_f rfl ?_))
  refine Wl_v (r_pick_t (v := .bool true) rfl rfl) ?_
  refine Wl_nil ?_
  refine W_cond_t rfl ?_
  refine W_seq (W_region ?_)
  refine Wl_call (r_call0 rfl Tryz.call16 ) (works18 _ ) ?_
  rintro v w1 ⟨rfl, hU1⟩
  have hzw1 := hU1.size
  replace HU := HU.trans0 hU1
  refine Was (.bool true) ?_
  refine Wl_nil ?_
  refine W_ret ?_
  refine ret_end (v := .bool true) rfl (res1 Tryz.results9 rfl) ?_
  exact ⟨_, rfl, rfl, HU⟩
 ·rw [decide_eq_false q1]
  refine Wl_guard_t rfl ?_
  refine Wmv (.slice a2 m d) ?_
  refine Wl_guard_t rfl ?_
  refine Wl_v (r_len Tryz.underlying32 rfl) ?_
  refine Wl_guard_t rfl ?_
  refine Wl_v (r_gt rfl rfl) ?_
  refine Wl_v (r_pick_f (v := .bool (decide (300 < ((m : Nat) : Int)))) rfl rfl) ?_
  refine Wmv (.bool (decide (300 < ((m : Nat) : Int)))) ?_
  by_cases q2 : 300 < ((m : Nat) : Int)
  ·rw [decide_eq_true q2]
   refine Wl_guard_f rfl (Wl_guard_f rfl (Wl_guard_f rfl ?_))
   refine Wl_v (r_pick_t (v := .bool true) rfl rfl) ?_
   refine Wmv (.bool true) ?_
   refine Wl_guard_f rfl (Wl_guard_f rfl (Wl_guard_f rfl ?_))
   refine Wl_v (r_pick_t (v := .bool true) rfl rfl) ?_
   refine Wl_nil ?_
   refine W_cond_t rfl ?_
   refine W_seq (W_region ?_)
   refine Wl_call (r_call0 rfl Tryz.call16 ) (works18 _ ) ?_
   rintro v w2 ⟨rfl, hU2⟩
   have hzw2 := hU2.size
   replace HU := HU.trans0 hU2
   refine Was (.bool true) ?_
   refine Wl_nil ?_
   refine W_ret ?_
   refine ret_end (v := .bool true) rfl (res1 Tryz.results9 rfl) ?_
   exact ⟨_, rfl, rfl, HU⟩
  ·rw [decide_eq_false q2]
   refine Wl_guard_t rfl ?_
   refine Wmv (.slice a3 p q) ?_
   refine Wl_guard_t rfl ?_
   refine Wl_v (r_len Tryz.underlying32 rfl) ?_
   refine Wl_guard_t rfl ?_
   refine Wl_v (r_gt rfl rfl) ?_
   refine Wl_v (r_pick_f (v := .bool (decide (200 < ((p : Nat) : Int)))) rfl rfl) ?_
   refine Wmv (.bool (decide (200 < ((p : Nat) : Int)))) ?_
   by_cases q3 : 200 < ((p : Nat) : Int)
   ·rw [decide_eq_true q3]
    refine Wl_guard_f rfl (Wl_guard_f rfl (Wl_guard_f rfl ?_))
    refine Wl_v (r_pick_t (v := .bool true) rfl rfl) ?_
    refine Wl_nil ?_
    refine W_cond_t rfl ?_
    refine W_seq (W_region ?_)
    refine Wl_call (r_call0 rfl Tryz.call16 ) (works18 _ ) ?_
    rintro v w3 ⟨rfl, hU3⟩
    have hzw3 := hU3.size
    replace HU := HU.trans0 hU3
    refine Was (.bool true) ?_
    refine Wl_nil ?_
    refine W_ret ?_
    refine ret_end (v := .bool true) rfl (res1 Tryz.results9 rfl) ?_
    exact ⟨_, rfl, rfl, HU⟩
   ·rw [decide_eq_false q3]
    refine Wl_guard_t rfl ?_
    refine Wmv (.slice a n c) ?_
    refine Wl_guard_t rfl ?_
    refine Wl_call (r_call1 rfl Tryz.call28 rfl) (rright_spec _ hs (by omega)) ?_
    rintro v w4 ⟨rfl, hU4⟩
    have hzw4 := hU4.size
    replace hs := hs.upd0 hU4
    replace hsb := hsb.upd0 hU4
    replace hss := hss.upd0 hU4
    replace HU := HU.trans0 hU4
    refine Wl_guard_t rfl ?_
    refine Wl_v (r_not rfl) ?_
    refine Wl_v (r_pick_f (v := .bool (!decide (Rt l))) rfl rfl) ?_
    refine Wl_nil ?_
    by_cases q4 : Rt l
    ·have hr := q4
     rw [decide_eq_true q4]
     simp only [Bool.not_true, Bool.not_false]
     refine W_cond_f rfl ?_
     refine W_skip (W_seq (W_seq (W_region ?_)))
     refine Wmv (.slice a n c) ?_
     refine Wmv (.slice a3 p q) ?_
     refine Wmv (.int .i64 nn) ?_
     have hdl9 := d4F_len (l := l) hbs nn
     refine Wl_call (r_call3 rfl Tryz.call23 rfl rfl rfl) (fdec_spec _ hs (by omega) hss.any hbs (by omega) (by omega)) ?_
     rintro v w5 ⟨a5, m5, c5, rfl, hO5, hU5⟩
     have hzw5 := hU5.size
     replace hs := hs.upd0 hU5
     replace hsb := hsb.upd0 hU5
     replace hss := hss.upd0 hU5
     replace HU := HU.trans0 hU5
     replace hO5 := hO5.tight
     have hl_hO5 := ilen hO5.sl
     have hc_hO5 := hO5.sl.cap.1
     refine Wmv (.tuple #[.slice a5 m5 c5, .int .i64 ((d4F l s nn).2)]) ?_
     refine Wl_v (r_ext (v := .slice a5 m5 c5) rfl rfl) ?_
     refine Wl_v (r_ext (v := .int .i64 ((d4F l s nn).2)) rfl rfl) ?_
     refine Was (.slice a5 m5 c5) ?_
     refine Was (.int .i64 ((d4F l s nn).2)) ?_
     refine Wl_nil (W_seq (W_region ?_))
     refine Wmv (.int .i64 ((d4F l s nn).2)) ?_
     refine Wl_call (r_call1 rfl Tryz.call15 rfl) (num18 _ ) ?_
     rintro v w6 ⟨rfl, hU6⟩
     have hzw6 := hU6.size
     replace hs := hs.upd0 hU6
     replace hsb := hsb.upd0 hU6
     replace hss := hss.upd0 hU6
     replace HU := HU.trans0 hU6
     replace hO5 := hO5.upd0 hU6
     refine Wl_v (r_eq rfl rfl) ?_
     refine Wl_nil ?_
     by_cases q5 : ((d4F l s nn).2) = 0
     ·have hA := four_a hbs q5
      rw [decide_eq_true q5]
      refine W_cond_t rfl ?_
      refine W_seq (W_region ?_)
      refine Wmv (.slice a n c) ?_
      refine Wmv (.slice a5 m5 c5) ?_
      refine Wl_call (r_call2 rfl Tryz.call17 rfl rfl) (fenc_spec _ hs (by omega) hO5.sl.any (d4F_byt _ _ _) (by omega)) ?_
      rintro v w7 ⟨a7, m7, c7, rfl, hO7, hU7⟩
      have hzw7 := hU7.size
      replace hs := hs.upd0 hU7
      replace hsb := hsb.upd0 hU7
      replace hss := hss.upd0 hU7
      replace HU := HU.trans0 hU7
      replace hO7 := hO7.tight
      have hl_hO7 := ilen hO7.sl
      have hc_hO7 := hO7.sl.cap.1
      replace hO7 := hO7.icong (show (f4F l ((d4F l s nn).1)).1 = s from (by rw [hA.1]))
      have hz_hO7 : m7 = (s : List Int).length := (ilen hO7.sl).symm
      rw [show ((f4F l ((d4F l s nn).1)).2 : Int) = 0 from (by rw [hA.1])]
      refine Wmv (.tuple #[.slice a7 m7 c7, .int .i64 0]) ?_
      refine Wl_v (r_ext (v := .slice a7 m7 c7) rfl rfl) ?_
      refine Wl_v (r_ext (v := .int .i64 0) rfl rfl) ?_
      refine Was (.slice a7 m7 c7) ?_
      refine Was (.int .i64 0) ?_
      refine Wl_nil (W_seq (W_region ?_))
      refine Wmv (.slice a7 m7 c7) ?_
      refine Wmv (.int .i64 0) ?_
      refine Wmv (.slice a3 p q) ?_
      refine Wl_bstr Tryz.underlying32 Tryz.underlying5 Tryz.underlying9 rfl hss ?_
      refine Wl_call (r_call4 rfl Tryz.call19 rfl rfl rfl rfl) (is18 (y := s) _ hO7.sl.any hbs hbs) ?_
      rintro v w8 ⟨rfl, hU8⟩
      have hzw8 := hU8.size
      replace hs := hs.upd0 hU8
      replace hsb := hsb.upd0 hU8
      replace HU := HU.trans0 hU8
      refine Wl_v (r_not rfl) ?_
      refine Wmv (.bool (!decide ((s : List Int) = s ∧ (0 : Int) = 0))) ?_
      have q6 : (s : List Int) = s ∧ (0 : Int) = 0 := ⟨rfl, rfl⟩
      rw [decide_eq_true q6]
      simp only [Bool.not_true, Bool.not_false]
      refine Wl_guard_t rfl ?_
      refine Wmv (.slice a5 m5 c5) ?_
      refine Wl_guard_t rfl ?_
      refine Wl_v (r_len Tryz.underlying32 rfl) ?_
      refine Wl_guard_t rfl ?_
      refine Wmv (.int .i64 nn) ?_
      refine Wl_guard_t rfl ?_
      refine Wl_v (r_ne rfl rfl) ?_
      refine Wl_v (r_pick_f (v := .bool (decide (((m5 : Nat) : Int) ≠ nn))) rfl rfl) ?_
      refine Wl_nil ?_
      have q7 : ¬ (((m5 : Nat) : Int) ≠ nn) := (by omega)
      rw [decide_eq_false q7]
      refine W_cond_f rfl ?_
      refine W_skip (W_seq (W_seq (W_region ?_)))
      refine Wmv (.slice a n c) ?_
      refine Wmv (.slice a2 m d) ?_
      refine Wl_call (r_call2 rfl Tryz.call29 rfl rfl) (oen_spec _ hs (by omega) hsb.any hb (by omega)) ?_
      rintro v w9 ⟨rfl, hU9⟩
      have hzw9 := hU9.size
      replace hs := hs.upd0 hU9
      replace hsb := hsb.upd0 hU9
      replace HU := HU.trans0 hU9
      refine Wmv (.tuple #[.int .i64 ((enF l b).1), .bool (decide ((enF l b).2 = true))]) ?_
      refine Wl_v (r_ext (v := .int .i64 ((enF l b).1)) rfl rfl) ?_
      refine Wl_v (r_ext (v := .bool (decide ((enF l b).2 = true))) rfl rfl) ?_
      refine Was (.int .i64 ((enF l b).1)) ?_
      refine Was (.bool (decide ((enF l b).2 = true))) ?_
      refine Wl_nil (W_seq (W_region ?_))
      refine Wmv (.bool (decide ((enF l b).2 = true))) ?_
      refine Wl_v (r_not rfl) ?_
      refine Wmv (.bool (!decide ((enF l b).2 = true))) ?_
      by_cases q8 : (enF l b).2 = true
      ·have hH := enF_hs hr q8
       rw [decide_eq_true q8]
       simp only [Bool.not_true, Bool.not_false]
       refine Wl_guard_t rfl ?_
       refine Wmv (.slice a2 m d) ?_
       refine Wl_guard_t rfl ?_
       refine Wl_v (r_len Tryz.underlying32 rfl) ?_
       refine Wl_guard_t rfl ?_
       by_cases q9 : paF ((m : Nat) : Int) = 0
       ·obtain ⟨sA, hsA⟩ : ∃ x, x = (f4F l b).1 := ⟨_, rfl⟩
        obtain ⟨k, hk⟩ : ∃ k, k = (m + 3) / 4 := ⟨_, rfl⟩
        have hpi := paF_inv q9
        obtain ⟨r, hkr⟩ : ∃ r, 3 * k + r = m := ⟨m - 3 * k, by omega⟩
        have hB := four_b hr hb hH (show b.length = m from by omega) (by omega) q9 hk.symm hkr hsA
        have hB9 := hB.2.2.2.2.2.2.2.2.2
        have hAl := hB.2.2.2.1
        have hAb := hB.2.2.1
        have b1 := out_lel (b := b) hr 0 k
        have b2 := out_lel (b := b) hr k (2 * k)
        have b3 := out_lel (b := b) hr (2 * k) (3 * k)
        have b4 := out_lel (b := b) hr (3 * k) (3 * k + r)
        refine Wl_call (r_call1 rfl Tryz.call13 rfl) (splt_t (n := ((m : Nat) : Int)) _ q9) ?_
        rintro v w10 ⟨rfl, hU10⟩
        have hzw10 := hU10.size
        replace hs := hs.upd0 hU10
        replace hsb := hsb.upd0 hU10
        replace HU := HU.trans0 hU10
        refine Wl_guard_t rfl ?_
        refine Wl_v (r_not (b := true) rfl) ?_
        refine Wl_v (r_pick_f (v := .bool false) rfl rfl) ?_
        refine Wl_nil ?_
        refine W_cond_f rfl ?_
        refine W_skip (W_seq (W_region ?_))
        refine Wmv (.slice a n c) ?_
        refine Wmv (.slice a2 m d) ?_
        refine Wl_call (r_call2 rfl Tryz.call17 rfl rfl) (fenc_spec _ hs (by omega) hsb.any hb (by omega)) ?_
        rintro v w11 ⟨a11, m11, c11, rfl, hO11, hU11⟩
        have hzw11 := hU11.size
        replace hs := hs.upd0 hU11
        replace hsb := hsb.upd0 hU11
        replace HU := HU.trans0 hU11
        replace hO11 := hO11.tight
        have hl_hO11 := ilen hO11.sl
        have hc_hO11 := hO11.sl.cap.1
        replace hO11 := hO11.icong (show (f4F l b).1 = sA from hsA.symm)
        have hz_hO11 : m11 = (sA : List Int).length := (ilen hO11.sl).symm
        rw [show ((f4F l b).2 : Int) = 0 from (by rw [hB.1])]
        refine Wmv (.tuple #[.slice a11 m11 c11, .int .i64 0]) ?_
        refine Wl_v (r_ext (v := .slice a11 m11 c11) rfl rfl) ?_
        refine Wl_v (r_ext (v := .int .i64 0) rfl rfl) ?_
        refine Was (.slice a11 m11 c11) ?_
        refine Was (.int .i64 0) ?_
        refine Wl_nil (W_seq (W_region ?_))
        refine Wmv (.slice a n c) ?_
        refine Wmv (.slice a11 m11 c11) ?_
        refine Wmv (.slice a2 m d) ?_
        refine Wl_v (r_len Tryz.underlying32 rfl) ?_
        refine Wl_call (r_call3 rfl Tryz.call23 rfl rfl rfl) (fdec_spec _ hs (by omega) hO11.sl.any hAb (by omega) (by omega)) ?_
        rintro v w12 ⟨a12, m12, c12, rfl, hO12, hU12⟩
        have hzw12 := hU12.size
        replace hs := hs.upd0 hU12
        replace hsb := hsb.upd0 hU12
        replace HU := HU.trans0 hU12
        replace hO11 := hO11.upd0 hU12
        replace hO12 := hO12.tight
        have hl_hO12 := ilen hO12.sl
        have hc_hO12 := hO12.sl.cap.1
        replace hO12 := hO12.icong (show (d4F l sA ((m : Nat) : Int)).1 = b from (by rw [hB9]))
        have hz_hO12 : m12 = (b : List Int).length := (ilen hO12.sl).symm
        rw [show ((d4F l sA ((m : Nat) : Int)).2 : Int) = 0 from (by rw [hB9])]
        refine Wmv (.tuple #[.slice a12 m12 c12, .int .i64 0]) ?_
        refine Wl_v (r_ext (v := .slice a12 m12 c12) rfl rfl) ?_
        refine Wl_v (r_ext (v := .int .i64 0) rfl rfl) ?_
        refine Was (.slice a12 m12 c12) ?_
        refine Was (.int .i64 0) ?_
        refine Wl_nil (W_seq (W_region ?_))
        refine Wmv (.slice a11 m11 c11) ?_
        refine Wl_call (r_call1 rfl Tryz.call25 rfl) (split_ok _ hO11.sl.any hAb (by omega) hB.2.2.2.2.1) ?_
        rintro v w13 ⟨a13, c13, ja13, ka13, qa13, jb13, kb13, qb13, jc13, kc13, qc13, jd13, kd13, qd13, rfl, hS13, hOa13, hOb13, hOc13, hOd13, hU13⟩
        have hzw13 := hU13.size
        replace hs := hs.upd0 hU13
        replace hsb := hsb.upd0 hU13
        replace HU := HU.trans0 hU13
        replace hO11 := hO11.upd0 hU13
        replace hO12 := hO12.upd0 hU13
        replace hS13 := hS13.tight
        have hl_hS13 := hS13.sl.len
        have hc_hS13 := hS13.sl.cap.1
        replace hOa13 := hOa13.tight
        have hl_hOa13 := ilen hOa13.sl
        have hc_hOa13 := hOa13.sl.cap.1
        replace hOb13 := hOb13.tight
        have hl_hOb13 := ilen hOb13.sl
        have hc_hOb13 := hOb13.sl.cap.1
        replace hOc13 := hOc13.tight
        have hl_hOc13 := ilen hOc13.sl
        have hc_hOc13 := hOc13.sl.cap.1
        replace hOd13 := hOd13.tight
        have hl_hOd13 := ilen hOd13.sl
        have hc_hOd13 := hOd13.sl.cap.1
        replace hOa13 := hOa13.icong (show (gbytes sA (gnum sA (gnum sA (gnum sA 0 131072).2.1 131072).2.1 131072).2.1 (gnum sA 0 131072).1).1 = out l (pt b 0 k) from hB.2.2.2.2.2.1)
        have hz_hOa13 : ka13 = (out l (pt b 0 k) : List Int).length := (ilen hOa13.sl).symm
        replace hOb13 := hOb13.icong (show (gbytes sA (gbytes sA (gnum sA (gnum sA (gnum sA 0 131072).2.1 131072).2.1 131072).2.1 (gnum sA 0 131072).1).2.1 (gnum sA (gnum sA 0 131072).2.1 131072).1).1 = out l (pt b k (2 * k)) from hB.2.2.2.2.2.2.1)
        have hz_hOb13 : kb13 = (out l (pt b k (2 * k)) : List Int).length := (ilen hOb13.sl).symm
        replace hOc13 := hOc13.icong (show (gbytes sA (gbytes sA (gbytes sA (gnum sA (gnum sA (gnum sA 0 131072).2.1 131072).2.1 131072).2.1 (gnum sA 0 131072).1).2.1 (gnum sA (gnum sA 0 131072).2.1 131072).1).2.1 (gnum sA (gnum sA (gnum sA 0 131072).2.1 131072).2.1 131072).1).1 = out l (pt b (2 * k) (3 * k)) from hB.2.2.2.2.2.2.2.1)
        have hz_hOc13 : kc13 = (out l (pt b (2 * k) (3 * k)) : List Int).length := (ilen hOc13.sl).symm
        replace hOd13 := hOd13.icong (show sA.drop (gbytes sA (gbytes sA (gbytes sA (gnum sA (gnum sA (gnum sA 0 131072).2.1 131072).2.1 131072).2.1 (gnum sA 0 131072).1).2.1 (gnum sA (gnum sA 0 131072).2.1 131072).1).2.1 (gnum sA (gnum sA (gnum sA 0 131072).2.1 131072).2.1 131072).1).2.1 = out l (pt b (3 * k) (3 * k + r)) from hB.2.2.2.2.2.2.2.2.1)
        have hz_hOd13 : kd13 = (out l (pt b (3 * k) (3 * k + r)) : List Int).length := (ilen hOd13.sl).symm
        refine Wmv (.tuple #[.slice a13 4 c13, .int .i64 0]) ?_
        refine Wl_v (r_ext (v := .slice a13 4 c13) rfl rfl) ?_
        refine Wl_v (r_ext (v := .int .i64 0) rfl rfl) ?_
        refine Was (.slice a13 4 c13) ?_
        refine Was (.int .i64 0) ?_
        refine Wl_nil (W_seq (W_region ?_))
        refine Wmv (.slice a2 m d) ?_
        refine Wl_v (r_len Tryz.underlying32 rfl) ?_
        refine Wl_call (r_call1 rfl Tryz.call11 rfl) (psz_ok (n := ((m : Nat) : Int)) _ q9) ?_
        rintro v w14 ⟨a14, c14, rfl, hO14, hU14⟩
        have hzw14 := hU14.size
        replace hs := hs.upd0 hU14
        replace hsb := hsb.upd0 hU14
        replace HU := HU.trans0 hU14
        replace hO11 := hO11.upd0 hU14
        replace hO12 := hO12.upd0 hU14
        replace hS13 := hS13.upd0 hU14
        replace hOa13 := hOa13.upd0 hU14
        replace hOb13 := hOb13.upd0 hU14
        replace hOc13 := hOc13.upd0 hU14
        replace hOd13 := hOd13.upd0 hU14
        have hl_hO14 := ilen hO14
        have hc_hO14 := hO14.cap.1
        replace hO14 := hO14.icong (show [(((m : Nat) : Int) + 3) / 4, (((m : Nat) : Int) + 3) / 4, (((m : Nat) : Int) + 3) / 4, ((m : Nat) : Int) - 3 * ((((m : Nat) : Int) + 3) / 4)] = [((k : Nat) : Int), ((k : Nat) : Int), ((k : Nat) : Int), ((r : Nat) : Int)] from (by simp only [List.cons.injEq, and_true]; omega))
        have hz_hO14 : 4 = ([((k : Nat) : Int), ((k : Nat) : Int), ((k : Nat) : Int), ((r : Nat) : Int)] : List Int).length := (ilen hO14).symm
        refine Wmv (.tuple #[.slice a14 4 c14, .int .i64 0]) ?_
        refine Wl_v (r_ext (v := .slice a14 4 c14) rfl rfl) ?_
        refine Wl_v (r_ext (v := .int .i64 0) rfl rfl) ?_
        refine Was (.slice a14 4 c14) ?_
        refine Was (.int .i64 0) ?_
        refine Wl_nil (W_seq (W_seq (W_region ?_)))
        refine Wmv (.int .i64 0) ?_
        refine Wl_call (r_call1 rfl Tryz.call15 rfl) (num18 _ ) ?_
        rintro v w15 ⟨rfl, hU15⟩
        have hzw15 := hU15.size
        replace hs := hs.upd0 hU15
        replace hsb := hsb.upd0 hU15
        replace HU := HU.trans0 hU15
        replace hO11 := hO11.upd0 hU15
        replace hO12 := hO12.upd0 hU15
        replace hS13 := hS13.upd0 hU15
        replace hOa13 := hOa13.upd0 hU15
        replace hOb13 := hOb13.upd0 hU15
        replace hOc13 := hOc13.upd0 hU15
        replace hOd13 := hOd13.upd0 hU15
        replace hO14 := hO14.upd0 hU15
        refine Wmv (.int .i64 0) ?_
        refine Wl_call (r_call1 rfl Tryz.call15 rfl) (num18 _ ) ?_
        rintro v w16 ⟨rfl, hU16⟩
        have hzw16 := hU16.size
        replace hs := hs.upd0 hU16
        replace hsb := hsb.upd0 hU16
        replace HU := HU.trans0 hU16
        replace hO11 := hO11.upd0 hU16
        replace hO12 := hO12.upd0 hU16
        replace hS13 := hS13.upd0 hU16
        replace hOa13 := hOa13.upd0 hU16
        replace hOb13 := hOb13.upd0 hU16
        replace hOc13 := hOc13.upd0 hU16
        replace hOd13 := hOd13.upd0 hU16
        replace hO14 := hO14.upd0 hU16
        refine Wl_v (r_add rfl rfl (show _ = (0 : Int) from by decide)) ?_
        refine Wmv (.int .i64 0) ?_
        refine Wl_call (r_call1 rfl Tryz.call15 rfl) (num18 _ ) ?_
        rintro v w17 ⟨rfl, hU17⟩
        have hzw17 := hU17.size
        replace hs := hs.upd0 hU17
        replace hsb := hsb.upd0 hU17
        replace HU := HU.trans0 hU17
        replace hO11 := hO11.upd0 hU17
        replace hO12 := hO12.upd0 hU17
        replace hS13 := hS13.upd0 hU17
        replace hOa13 := hOa13.upd0 hU17
        replace hOb13 := hOb13.upd0 hU17
        replace hOc13 := hOc13.upd0 hU17
        replace hOd13 := hOd13.upd0 hU17
        replace hO14 := hO14.upd0 hU17
        refine Wl_v (r_add rfl rfl (show _ = (0 : Int) from by decide)) ?_
        refine Wl_v (v := .bool false) (r_ne (a := 0) (b := 0) rfl rfl) ?_
        refine Wmv (.bool false) ?_
        refine Wl_guard_t rfl ?_
        refine Wmv (.slice a12 m12 c12) ?_
        refine Wl_guard_t rfl ?_
        refine Wmv (.int .i64 0) ?_
        refine Wl_guard_t rfl ?_
        refine Wmv (.slice a2 m d) ?_
        refine Wl_guard_t rfl ?_
        refine Wl_bstr Tryz.underlying32 Tryz.underlying5 Tryz.underlying9 rfl hsb ?_
        refine Wl_guard_t rfl ?_
        refine Wl_call (r_call4 rfl Tryz.call19 rfl rfl rfl rfl) (is18 (y := b) _ hO12.sl.any hb hb) ?_
        rintro v w18 ⟨rfl, hU18⟩
        have hzw18 := hU18.size
        replace hs := hs.upd0 hU18
        replace hsb := hsb.upd0 hU18
        replace HU := HU.trans0 hU18
        replace hO11 := hO11.upd0 hU18
        replace hS13 := hS13.upd0 hU18
        replace hOa13 := hOa13.upd0 hU18
        replace hOb13 := hOb13.upd0 hU18
        replace hOc13 := hOc13.upd0 hU18
        replace hOd13 := hOd13.upd0 hU18
        replace hO14 := hO14.upd0 hU18
        refine Wl_guard_t rfl ?_
        refine Wl_v (r_not rfl) ?_
        refine Wl_v (r_pick_f (v := .bool (!decide ((b : List Int) = b ∧ (0 : Int) = 0))) rfl rfl) ?_
        refine Wmv (.bool (!decide ((b : List Int) = b ∧ (0 : Int) = 0))) ?_
        have q10 : (b : List Int) = b ∧ (0 : Int) = 0 := ⟨rfl, rfl⟩
        rw [decide_eq_true q10]
        simp only [Bool.not_true, Bool.not_false]
        refine Wl_guard_t rfl ?_
        refine Wmv (.slice a13 4 c13) ?_
        refine Wl_guard_t rfl ?_
        refine Wl_v (r_len Tryz.underlying41 rfl) ?_
        refine Wl_guard_t rfl ?_
        refine Wl_v (v := .bool false) (r_ne (a := 4) (b := 4) rfl rfl) ?_
        refine Wl_v (r_pick_f (v := .bool false) rfl rfl) ?_
        refine Wmv (.bool false) ?_
        refine Wl_guard_t rfl ?_
        refine Wmv (.slice a14 4 c14) ?_
        refine Wl_guard_t rfl ?_
        refine Wl_v (r_len Tryz.underlying22 rfl) ?_
        refine Wl_guard_t rfl ?_
        refine Wl_v (v := .bool false) (r_ne (a := 4) (b := 4) rfl rfl) ?_
        refine Wl_v (r_pick_f (v := .bool false) rfl rfl) ?_
        refine Wl_nil ?_
        refine W_cond_f rfl ?_
        refine W_skip (W_seq (W_region ?_))
        refine Was (.int .i64 0) ?_
        refine Wl_nil (W_seq (W_seq (W_region ?_)))
        refine Was (.int .i64 0) ?_
        refine Wl_nil (W_block ?_)
        refine W_unroll 5 ?_
        refine unrK_succ ?_
        refine W_seq (W_seq (W_region ?_))
        refine Wmv (.int .i64 0) ?_
        refine Wl_v (v := .bool true) (r_lt (a := 0) (b := 4) rfl rfl) ?_
        refine Wl_nil ?_
        refine W_cond_t rfl ?_
        refine W_skip (W_seq (W_block (W_seq (W_seq (W_region ?_)))))
        refine Wmv (.slice a14 4 c14) ?_
        refine Wmv (.int .i64 0) ?_
        refine Wl_idxi Tryz.underlying22 Tryz.sizeOf3 rfl rfl hO14 (by omega) (by omega) ?_
        intro ib19 io19 hc19
        rw [show (0 : Int).toNat = 0 from rfl] at hc19
        rw [show ([((k : Nat) : Int), ((k : Nat) : Int), ((k : Nat) : Int), ((r : Nat) : Int)] : List Int).getD 0 0 = ((k : Nat) : Int) from rfl] at hc19
        refine Wl_loadc Tryz.isAgg3 rfl hc19 ?_
        refine Wl_v (r_lt rfl rfl) ?_
        refine Wmv (.bool (decide (((k : Nat) : Int) < 1))) ?_
        have q11 : ¬ (((k : Nat) : Int) < 1) := (by omega)
        rw [decide_eq_false q11]
        refine Wl_guard_t rfl ?_
        refine Wmv (.int .i64 0) ?_
        refine Wl_guard_t rfl ?_
        refine Wmv (.slice a14 4 c14) ?_
        refine Wl_guard_t rfl ?_
        refine Wmv (.int .i64 0) ?_
        refine Wl_guard_t rfl ?_
        refine Wl_idxi Tryz.underlying22 Tryz.sizeOf3 rfl rfl hO14 (by omega) (by omega) ?_
        intro ib20 io20 hc20
        rw [show (0 : Int).toNat = 0 from rfl] at hc20
        rw [show ([((k : Nat) : Int), ((k : Nat) : Int), ((k : Nat) : Int), ((r : Nat) : Int)] : List Int).getD 0 0 = ((k : Nat) : Int) from rfl] at hc20
        refine Wl_guard_t rfl ?_
        refine Wl_loadc Tryz.isAgg3 rfl hc20 ?_
        refine Wl_guard_t rfl ?_
        refine Wl_v (r_add rfl rfl (wi64 (by omega) (by omega))) ?_
        rw [show (0 + ((k : Nat) : Int) : Int) = ((k : Nat) : Int) from by omega]
        refine Wl_guard_t rfl ?_
        refine Wmv (.slice a2 m d) ?_
        refine Wl_guard_t rfl ?_
        refine Wl_v (r_len Tryz.underlying32 rfl) ?_
        refine Wl_guard_t rfl ?_
        refine Wl_v (r_gt rfl rfl) ?_
        refine Wl_v (r_pick_f (v := .bool (decide (((m : Nat) : Int) < ((k : Nat) : Int)))) rfl rfl) ?_
        refine Wl_nil ?_
        have q12 : ¬ (((m : Nat) : Int) < ((k : Nat) : Int)) := (by omega)
        rw [decide_eq_false q12]
        refine W_cond_f rfl ?_
        refine W_skip (W_seq (W_region ?_))
        refine Wmv (.slice a n c) ?_
        refine Wmv (.slice a2 m d) ?_
        refine Wmv (.int .i64 0) ?_
        refine Wmv (.int .i64 0) ?_
        refine Wmv (.slice a14 4 c14) ?_
        refine Wmv (.int .i64 0) ?_
        refine Wl_idxi Tryz.underlying22 Tryz.sizeOf3 rfl rfl hO14 (by omega) (by omega) ?_
        intro ib21 io21 hc21
        rw [show (0 : Int).toNat = 0 from rfl] at hc21
        rw [show ([((k : Nat) : Int), ((k : Nat) : Int), ((k : Nat) : Int), ((r : Nat) : Int)] : List Int).getD 0 0 = ((k : Nat) : Int) from rfl] at hc21
        refine Wl_loadc Tryz.isAgg3 rfl hc21 ?_
        refine Wl_v (r_add rfl rfl (wi64 (by omega) (by omega))) ?_
        rw [show (0 + ((k : Nat) : Int) : Int) = ((k : Nat) : Int) from by omega]
        refine Wl_v (r_slicen (l' := 0) (h' := k) (n' := k - 0) Tryz.underlying32 Tryz.sizeOf5 rfl rfl rfl (by omega) (by omega) (by omega) (by omega) (by omega)) ?_
        have hT22 := Sl.cutn (l := 0) (n := k - 0) hsb (by omega)
        have hl_hT22 := ilen hT22
        have hc_hT22 := hT22.cap.1
        refine Wl_call (r_call2 rfl Tryz.call30 rfl rfl) (oenc_spec _ hs (by omega) hT22.any ((hb.drop _).take _) (by omega)) ?_
        rintro v w23 ⟨a23, m23, c23, rfl, hO23, hU23⟩
        have hzw23 := hU23.size
        replace hs := hs.upd0 hU23
        replace hsb := hsb.upd0 hU23
        replace HU := HU.trans0 hU23
        replace hO11 := hO11.upd0 hU23
        replace hS13 := hS13.upd0 hU23
        replace hOa13 := hOa13.upd0 hU23
        replace hOb13 := hOb13.upd0 hU23
        replace hOc13 := hOc13.upd0 hU23
        replace hOd13 := hOd13.upd0 hU23
        replace hO14 := hO14.upd0 hU23
        replace hO23 := hO23.tight
        have hl_hO23 := ilen hO23.sl
        have hc_hO23 := hO23.sl.cap.1
        replace hO23 := hO23.icong (show (ecF l ((b.drop 0).take (k - 0))).1 = out l (pt b 0 k) from (by rw [ecF_pt hr hH]))
        have hz_hO23 : m23 = (out l (pt b 0 k) : List Int).length := (ilen hO23.sl).symm
        rw [show ((ecF l ((b.drop 0).take (k - 0))).2 : Int) = 0 from (by rw [ecF_pt hr hH])]
        refine Wmv (.tuple #[.slice a23 m23 c23, .int .i64 0]) ?_
        refine Wl_v (r_ext (v := .slice a23 m23 c23) rfl rfl) ?_
        refine Wl_v (r_ext (v := .int .i64 0) rfl rfl) ?_
        refine Was (.slice a23 m23 c23) ?_
        refine Was (.int .i64 0) ?_
        refine Wl_nil (W_seq (W_seq (W_region ?_)))
        refine Wmv (.slice a23 m23 c23) ?_
        refine Wmv (.int .i64 0) ?_
        refine Wmv (.slice a13 4 c13) ?_
        refine Wmv (.int .i64 0) ?_
        refine Wl_idxc (i' := 0) (v := .slice ja13 ka13 qa13) Tryz.underlying41 Tryz.sizeOf32 rfl rfl (by first | rfl | omega) hS13.sl (by decide) rfl ?_
        intro ib24 io24 hc24
        refine Wl_loadc Tryz.isAgg32 rfl hc24 ?_
        refine Wl_bstr Tryz.underlying32 Tryz.underlying5 Tryz.underlying9 rfl hOa13.sl ?_
        refine Wl_call (r_call4 rfl Tryz.call19 rfl rfl rfl rfl) (is18 (y := out l (pt b 0 k)) _ hO23.sl.any (out_byt _ _) (out_byt _ _)) ?_
        rintro v w25 ⟨rfl, hU25⟩
        have hzw25 := hU25.size
        replace hs := hs.upd0 hU25
        replace hsb := hsb.upd0 hU25
        replace HU := HU.trans0 hU25
        replace hO11 := hO11.upd0 hU25
        replace hS13 := hS13.upd0 hU25
        replace hOa13 := hOa13.upd0 hU25
        replace hOb13 := hOb13.upd0 hU25
        replace hOc13 := hOc13.upd0 hU25
        replace hOd13 := hOd13.upd0 hU25
        replace hO14 := hO14.upd0 hU25
        refine Wl_v (r_not rfl) ?_
        refine Wl_nil ?_
        have q13 : ((out l (pt b 0 k)) : List Int) = (out l (pt b 0 k)) ∧ (0 : Int) = 0 := ⟨rfl, rfl⟩
        rw [decide_eq_true q13]
        simp only [Bool.not_true, Bool.not_false]
        refine W_cond_f rfl ?_
        refine W_skip (W_region ?_)
        refine Wmv (.int .i64 0) ?_
        refine Wmv (.slice a14 4 c14) ?_
        refine Wmv (.int .i64 0) ?_
        refine Wl_idxi Tryz.underlying22 Tryz.sizeOf3 rfl rfl hO14 (by omega) (by omega) ?_
        intro ib26 io26 hc26
        rw [show (0 : Int).toNat = 0 from rfl] at hc26
        rw [show ([((k : Nat) : Int), ((k : Nat) : Int), ((k : Nat) : Int), ((r : Nat) : Int)] : List Int).getD 0 0 = ((k : Nat) : Int) from rfl] at hc26
        refine Wl_loadc Tryz.isAgg3 rfl hc26 ?_
        refine Wl_v (r_add rfl rfl (wi64 (by omega) (by omega))) ?_
        rw [show (0 + ((k : Nat) : Int) : Int) = ((k : Nat) : Int) from by omega]
        refine Was (.int .i64 ((k : Nat) : Int)) ?_
        refine Wl_nil (W_region ?_)
        refine Wmv (.int .i64 0) ?_
        refine Wl_v (r_add rfl rfl (show _ = (1 : Int) from by decide)) ?_
        refine Was (.int .i64 1) ?_
        refine Wl_nil ?_
        refine unrK_succ ?_
        refine W_seq (W_seq (W_region ?_))
        refine Wmv (.int .i64 1) ?_
        refine Wl_v (v := .bool true) (r_lt (a := 1) (b := 4) rfl rfl) ?_
        refine Wl_nil ?_
        refine W_cond_t rfl ?_
        refine W_skip (W_seq (W_block (W_seq (W_seq (W_region ?_)))))
        refine Wmv (.slice a14 4 c14) ?_
        refine Wmv (.int .i64 1) ?_
        refine Wl_idxi Tryz.underlying22 Tryz.sizeOf3 rfl rfl hO14 (by omega) (by omega) ?_
        intro ib27 io27 hc27
        rw [show (1 : Int).toNat = 1 from rfl] at hc27
        rw [show ([((k : Nat) : Int), ((k : Nat) : Int), ((k : Nat) : Int), ((r : Nat) : Int)] : List Int).getD 1 0 = ((k : Nat) : Int) from rfl] at hc27
        refine Wl_loadc Tryz.isAgg3 rfl hc27 ?_
        refine Wl_v (r_lt rfl rfl) ?_
        refine Wmv (.bool (decide (((k : Nat) : Int) < 1))) ?_
        have q14 : ¬ (((k : Nat) : Int) < 1) := (by omega)
        rw [decide_eq_false q14]
        refine Wl_guard_t rfl ?_
        refine Wmv (.int .i64 ((k : Nat) : Int)) ?_
        refine Wl_guard_t rfl ?_
        refine Wmv (.slice a14 4 c14) ?_
        refine Wl_guard_t rfl ?_
        refine Wmv (.int .i64 1) ?_
        refine Wl_guard_t rfl ?_
        refine Wl_idxi Tryz.underlying22 Tryz.sizeOf3 rfl rfl hO14 (by omega) (by omega) ?_
        intro ib28 io28 hc28
        rw [show (1 : Int).toNat = 1 from rfl] at hc28
        rw [show ([((k : Nat) : Int), ((k : Nat) : Int), ((k : Nat) : Int), ((r : Nat) : Int)] : List Int).getD 1 0 = ((k : Nat) : Int) from rfl] at hc28
        refine Wl_guard_t rfl ?_
        refine Wl_loadc Tryz.isAgg3 rfl hc28 ?_
        refine Wl_guard_t rfl ?_
        refine Wl_v (r_add rfl rfl (wi64 (by omega) (by omega))) ?_
        rw [show (((k : Nat) : Int) + ((k : Nat) : Int) : Int) = ((2 * k : Nat) : Int) from by omega]
        refine Wl_guard_t rfl ?_
        refine Wmv (.slice a2 m d) ?_
        refine Wl_guard_t rfl ?_
        refine Wl_v (r_len Tryz.underlying32 rfl) ?_
        refine Wl_guard_t rfl ?_
        refine Wl_v (r_gt rfl rfl) ?_
        refine Wl_v (r_pick_f (v := .bool (decide (((m : Nat) : Int) < ((2 * k : Nat) : Int)))) rfl rfl) ?_
        refine Wl_nil ?_
        have q15 : ¬ (((m : Nat) : Int) < ((2 * k : Nat) : Int)) := (by omega)
        rw [decide_eq_false q15]
        refine W_cond_f rfl ?_
        refine W_skip (W_seq (W_region ?_))
        refine Wmv (.slice a n c) ?_
        refine Wmv (.slice a2 m d) ?_
        refine Wmv (.int .i64 ((k : Nat) : Int)) ?_
        refine Wmv (.int .i64 ((k : Nat) : Int)) ?_
        refine Wmv (.slice a14 4 c14) ?_
        refine Wmv (.int .i64 1) ?_
        refine Wl_idxi Tryz.underlying22 Tryz.sizeOf3 rfl rfl hO14 (by omega) (by omega) ?_
        intro ib29 io29 hc29
        rw [show (1 : Int).toNat = 1 from rfl] at hc29
        rw [show ([((k : Nat) : Int), ((k : Nat) : Int), ((k : Nat) : Int), ((r : Nat) : Int)] : List Int).getD 1 0 = ((k : Nat) : Int) from rfl] at hc29
        refine Wl_loadc Tryz.isAgg3 rfl hc29 ?_
        refine Wl_v (r_add rfl rfl (wi64 (by omega) (by omega))) ?_
        rw [show (((k : Nat) : Int) + ((k : Nat) : Int) : Int) = ((2 * k : Nat) : Int) from by omega]
        refine Wl_v (r_slicen (l' := k) (h' := (2 * k)) (n' := (2 * k) - k) Tryz.underlying32 Tryz.sizeOf5 rfl rfl rfl (by omega) (by omega) (by omega) (by omega) (by omega)) ?_
        have hT30 := Sl.cutn (l := k) (n := (2 * k) - k) hsb (by omega)
        have hl_hT30 := ilen hT30
        have hc_hT30 := hT30.cap.1
        refine Wl_call (r_call2 rfl Tryz.call30 rfl rfl) (oenc_spec _ hs (by omega) hT30.any ((hb.drop _).take _) (by omega)) ?_
        rintro v w31 ⟨a31, m31, c31, rfl, hO31, hU31⟩
        have hzw31 := hU31.size
        replace hs := hs.upd0 hU31
        replace hsb := hsb.upd0 hU31
        replace HU := HU.trans0 hU31
        replace hO11 := hO11.upd0 hU31
        replace hS13 := hS13.upd0 hU31
        replace hOa13 := hOa13.upd0 hU31
        replace hOb13 := hOb13.upd0 hU31
        replace hOc13 := hOc13.upd0 hU31
        replace hOd13 := hOd13.upd0 hU31
        replace hO14 := hO14.upd0 hU31
        replace hO31 := hO31.tight
        have hl_hO31 := ilen hO31.sl
        have hc_hO31 := hO31.sl.cap.1
        replace hO31 := hO31.icong (show (ecF l ((b.drop k).take ((2 * k) - k))).1 = out l (pt b k (2 * k)) from (by rw [ecF_pt hr hH]))
        have hz_hO31 : m31 = (out l (pt b k (2 * k)) : List Int).length := (ilen hO31.sl).symm
        rw [show ((ecF l ((b.drop k).take ((2 * k) - k))).2 : Int) = 0 from (by rw [ecF_pt hr hH])]
        refine Wmv (.tuple #[.slice a31 m31 c31, .int .i64 0]) ?_
        refine Wl_v (r_ext (v := .slice a31 m31 c31) rfl rfl) ?_
        refine Wl_v (r_ext (v := .int .i64 0) rfl rfl) ?_
        refine Was (.slice a31 m31 c31) ?_
        refine Was (.int .i64 0) ?_
        refine Wl_nil (W_seq (W_seq (W_region ?_)))
        refine Wmv (.slice a31 m31 c31) ?_
        refine Wmv (.int .i64 0) ?_
        refine Wmv (.slice a13 4 c13) ?_
        refine Wmv (.int .i64 1) ?_
        refine Wl_idxc (i' := 1) (v := .slice jb13 kb13 qb13) Tryz.underlying41 Tryz.sizeOf32 rfl rfl (by first | rfl | omega) hS13.sl (by decide) rfl ?_
        intro ib32 io32 hc32
        refine Wl_loadc Tryz.isAgg32 rfl hc32 ?_
        refine Wl_bstr Tryz.underlying32 Tryz.underlying5 Tryz.underlying9 rfl hOb13.sl ?_
        refine Wl_call (r_call4 rfl Tryz.call19 rfl rfl rfl rfl) (is18 (y := out l (pt b k (2 * k))) _ hO31.sl.any (out_byt _ _) (out_byt _ _)) ?_
        rintro v w33 ⟨rfl, hU33⟩
        have hzw33 := hU33.size
        replace hs := hs.upd0 hU33
        replace hsb := hsb.upd0 hU33
        replace HU := HU.trans0 hU33
        replace hO11 := hO11.upd0 hU33
        replace hS13 := hS13.upd0 hU33
        replace hOa13 := hOa13.upd0 hU33
        replace hOb13 := hOb13.upd0 hU33
        replace hOc13 := hOc13.upd0 hU33
        replace hOd13 := hOd13.upd0 hU33
        replace hO14 := hO14.upd0 hU33
        refine Wl_v (r_not rfl) ?_
        refine Wl_nil ?_
        have q16 : ((out l (pt b k (2 * k))) : List Int) = (out l (pt b k (2 * k))) ∧ (0 : Int) = 0 := ⟨rfl, rfl⟩
        rw [decide_eq_true q16]
        simp only [Bool.not_true, Bool.not_false]
        refine W_cond_f rfl ?_
        refine W_skip (W_region ?_)
        refine Wmv (.int .i64 ((k : Nat) : Int)) ?_
        refine Wmv (.slice a14 4 c14) ?_
        refine Wmv (.int .i64 1) ?_
        refine Wl_idxi Tryz.underlying22 Tryz.sizeOf3 rfl rfl hO14 (by omega) (by omega) ?_
        intro ib34 io34 hc34
        rw [show (1 : Int).toNat = 1 from rfl] at hc34
        rw [show ([((k : Nat) : Int), ((k : Nat) : Int), ((k : Nat) : Int), ((r : Nat) : Int)] : List Int).getD 1 0 = ((k : Nat) : Int) from rfl] at hc34
        refine Wl_loadc Tryz.isAgg3 rfl hc34 ?_
        refine Wl_v (r_add rfl rfl (wi64 (by omega) (by omega))) ?_
        rw [show (((k : Nat) : Int) + ((k : Nat) : Int) : Int) = ((2 * k : Nat) : Int) from by omega]
        refine Was (.int .i64 ((2 * k : Nat) : Int)) ?_
        refine Wl_nil (W_region ?_)
        refine Wmv (.int .i64 1) ?_
        refine Wl_v (r_add rfl rfl (show _ = (2 : Int) from by decide)) ?_
        refine Was (.int .i64 2) ?_
        refine Wl_nil ?_
        refine unrK_succ ?_
        refine W_seq (W_seq (W_region ?_))
        refine Wmv (.int .i64 2) ?_
        refine Wl_v (v := .bool true) (r_lt (a := 2) (b := 4) rfl rfl) ?_
        refine Wl_nil ?_
        refine W_cond_t rfl ?_
        refine W_skip (W_seq (W_block (W_seq (W_seq (W_region ?_)))))
        refine Wmv (.slice a14 4 c14) ?_
        refine Wmv (.int .i64 2) ?_
        refine Wl_idxi Tryz.underlying22 Tryz.sizeOf3 rfl rfl hO14 (by omega) (by omega) ?_
        intro ib35 io35 hc35
        rw [show (2 : Int).toNat = 2 from rfl] at hc35
        rw [show ([((k : Nat) : Int), ((k : Nat) : Int), ((k : Nat) : Int), ((r : Nat) : Int)] : List Int).getD 2 0 = ((k : Nat) : Int) from rfl] at hc35
        refine Wl_loadc Tryz.isAgg3 rfl hc35 ?_
        refine Wl_v (r_lt rfl rfl) ?_
        refine Wmv (.bool (decide (((k : Nat) : Int) < 1))) ?_
        have q17 : ¬ (((k : Nat) : Int) < 1) := (by omega)
        rw [decide_eq_false q17]
        refine Wl_guard_t rfl ?_
        refine Wmv (.int .i64 ((2 * k : Nat) : Int)) ?_
        refine Wl_guard_t rfl ?_
        refine Wmv (.slice a14 4 c14) ?_
        refine Wl_guard_t rfl ?_
        refine Wmv (.int .i64 2) ?_
        refine Wl_guard_t rfl ?_
        refine Wl_idxi Tryz.underlying22 Tryz.sizeOf3 rfl rfl hO14 (by omega) (by omega) ?_
        intro ib36 io36 hc36
        rw [show (2 : Int).toNat = 2 from rfl] at hc36
        rw [show ([((k : Nat) : Int), ((k : Nat) : Int), ((k : Nat) : Int), ((r : Nat) : Int)] : List Int).getD 2 0 = ((k : Nat) : Int) from rfl] at hc36
        refine Wl_guard_t rfl ?_
        refine Wl_loadc Tryz.isAgg3 rfl hc36 ?_
        refine Wl_guard_t rfl ?_
        refine Wl_v (r_add rfl rfl (wi64 (by omega) (by omega))) ?_
        rw [show (((2 * k : Nat) : Int) + ((k : Nat) : Int) : Int) = ((3 * k : Nat) : Int) from by omega]
        refine Wl_guard_t rfl ?_
        refine Wmv (.slice a2 m d) ?_
        refine Wl_guard_t rfl ?_
        refine Wl_v (r_len Tryz.underlying32 rfl) ?_
        refine Wl_guard_t rfl ?_
        refine Wl_v (r_gt rfl rfl) ?_
        refine Wl_v (r_pick_f (v := .bool (decide (((m : Nat) : Int) < ((3 * k : Nat) : Int)))) rfl rfl) ?_
        refine Wl_nil ?_
        have q18 : ¬ (((m : Nat) : Int) < ((3 * k : Nat) : Int)) := (by omega)
        rw [decide_eq_false q18]
        refine W_cond_f rfl ?_
        refine W_skip (W_seq (W_region ?_))
        refine Wmv (.slice a n c) ?_
        refine Wmv (.slice a2 m d) ?_
        refine Wmv (.int .i64 ((2 * k : Nat) : Int)) ?_
        refine Wmv (.int .i64 ((2 * k : Nat) : Int)) ?_
        refine Wmv (.slice a14 4 c14) ?_
        refine Wmv (.int .i64 2) ?_
        refine Wl_idxi Tryz.underlying22 Tryz.sizeOf3 rfl rfl hO14 (by omega) (by omega) ?_
        intro ib37 io37 hc37
        rw [show (2 : Int).toNat = 2 from rfl] at hc37
        rw [show ([((k : Nat) : Int), ((k : Nat) : Int), ((k : Nat) : Int), ((r : Nat) : Int)] : List Int).getD 2 0 = ((k : Nat) : Int) from rfl] at hc37
        refine Wl_loadc Tryz.isAgg3 rfl hc37 ?_
        refine Wl_v (r_add rfl rfl (wi64 (by omega) (by omega))) ?_
        rw [show (((2 * k : Nat) : Int) + ((k : Nat) : Int) : Int) = ((3 * k : Nat) : Int) from by omega]
        refine Wl_v (r_slicen (l' := (2 * k)) (h' := (3 * k)) (n' := (3 * k) - (2 * k)) Tryz.underlying32 Tryz.sizeOf5 rfl rfl rfl (by omega) (by omega) (by omega) (by omega) (by omega)) ?_
        have hT38 := Sl.cutn (l := (2 * k)) (n := (3 * k) - (2 * k)) hsb (by omega)
        have hl_hT38 := ilen hT38
        have hc_hT38 := hT38.cap.1
        refine Wl_call (r_call2 rfl Tryz.call30 rfl rfl) (oenc_spec _ hs (by omega) hT38.any ((hb.drop _).take _) (by omega)) ?_
        rintro v w39 ⟨a39, m39, c39, rfl, hO39, hU39⟩
        have hzw39 := hU39.size
        replace hs := hs.upd0 hU39
        replace hsb := hsb.upd0 hU39
        replace HU := HU.trans0 hU39
        replace hO11 := hO11.upd0 hU39
        replace hS13 := hS13.upd0 hU39
        replace hOa13 := hOa13.upd0 hU39
        replace hOb13 := hOb13.upd0 hU39
        replace hOc13 := hOc13.upd0 hU39
        replace hOd13 := hOd13.upd0 hU39
        replace hO14 := hO14.upd0 hU39
        replace hO39 := hO39.tight
        have hl_hO39 := ilen hO39.sl
        have hc_hO39 := hO39.sl.cap.1
        replace hO39 := hO39.icong (show (ecF l ((b.drop (2 * k)).take ((3 * k) - (2 * k)))).1 = out l (pt b (2 * k) (3 * k)) from (by rw [ecF_pt hr hH]))
        have hz_hO39 : m39 = (out l (pt b (2 * k) (3 * k)) : List Int).length := (ilen hO39.sl).symm
        rw [show ((ecF l ((b.drop (2 * k)).take ((3 * k) - (2 * k)))).2 : Int) = 0 from (by rw [ecF_pt hr hH])]
        refine Wmv (.tuple #[.slice a39 m39 c39, .int .i64 0]) ?_
        refine Wl_v (r_ext (v := .slice a39 m39 c39) rfl rfl) ?_
        refine Wl_v (r_ext (v := .int .i64 0) rfl rfl) ?_
        refine Was (.slice a39 m39 c39) ?_
        refine Was (.int .i64 0) ?_
        refine Wl_nil (W_seq (W_seq (W_region ?_)))
        refine Wmv (.slice a39 m39 c39) ?_
        refine Wmv (.int .i64 0) ?_
        refine Wmv (.slice a13 4 c13) ?_
        refine Wmv (.int .i64 2) ?_
        refine Wl_idxc (i' := 2) (v := .slice jc13 kc13 qc13) Tryz.underlying41 Tryz.sizeOf32 rfl rfl (by first | rfl | omega) hS13.sl (by decide) rfl ?_
        intro ib40 io40 hc40
        refine Wl_loadc Tryz.isAgg32 rfl hc40 ?_
        refine Wl_bstr Tryz.underlying32 Tryz.underlying5 Tryz.underlying9 rfl hOc13.sl ?_
        refine Wl_call (r_call4 rfl Tryz.call19 rfl rfl rfl rfl) (is18 (y := out l (pt b (2 * k) (3 * k))) _ hO39.sl.any (out_byt _ _) (out_byt _ _)) ?_
        rintro v w41 ⟨rfl, hU41⟩
        have hzw41 := hU41.size
        replace hs := hs.upd0 hU41
        replace hsb := hsb.upd0 hU41
        replace HU := HU.trans0 hU41
        replace hO11 := hO11.upd0 hU41
        replace hS13 := hS13.upd0 hU41
        replace hOa13 := hOa13.upd0 hU41
        replace hOb13 := hOb13.upd0 hU41
        replace hOc13 := hOc13.upd0 hU41
        replace hOd13 := hOd13.upd0 hU41
        replace hO14 := hO14.upd0 hU41
        refine Wl_v (r_not rfl) ?_
        refine Wl_nil ?_
        have q19 : ((out l (pt b (2 * k) (3 * k))) : List Int) = (out l (pt b (2 * k) (3 * k))) ∧ (0 : Int) = 0 := ⟨rfl, rfl⟩
        rw [decide_eq_true q19]
        simp only [Bool.not_true, Bool.not_false]
        refine W_cond_f rfl ?_
        refine W_skip (W_region ?_)
        refine Wmv (.int .i64 ((2 * k : Nat) : Int)) ?_
        refine Wmv (.slice a14 4 c14) ?_
        refine Wmv (.int .i64 2) ?_
        refine Wl_idxi Tryz.underlying22 Tryz.sizeOf3 rfl rfl hO14 (by omega) (by omega) ?_
        intro ib42 io42 hc42
        rw [show (2 : Int).toNat = 2 from rfl] at hc42
        rw [show ([((k : Nat) : Int), ((k : Nat) : Int), ((k : Nat) : Int), ((r : Nat) : Int)] : List Int).getD 2 0 = ((k : Nat) : Int) from rfl] at hc42
        refine Wl_loadc Tryz.isAgg3 rfl hc42 ?_
        refine Wl_v (r_add rfl rfl (wi64 (by omega) (by omega))) ?_
        rw [show (((2 * k : Nat) : Int) + ((k : Nat) : Int) : Int) = ((3 * k : Nat) : Int) from by omega]
        refine Was (.int .i64 ((3 * k : Nat) : Int)) ?_
        refine Wl_nil (W_region ?_)
        refine Wmv (.int .i64 2) ?_
        refine Wl_v (r_add rfl rfl (show _ = (3 : Int) from by decide)) ?_
        refine Was (.int .i64 3) ?_
        refine Wl_nil ?_
        refine unrK_succ ?_
        refine W_seq (W_seq (W_region ?_))
        refine Wmv (.int .i64 3) ?_
        refine Wl_v (v := .bool true) (r_lt (a := 3) (b := 4) rfl rfl) ?_
        refine Wl_nil ?_
        refine W_cond_t rfl ?_
        refine W_skip (W_seq (W_block (W_seq (W_seq (W_region ?_)))))
        refine Wmv (.slice a14 4 c14) ?_
        refine Wmv (.int .i64 3) ?_
        refine Wl_idxi Tryz.underlying22 Tryz.sizeOf3 rfl rfl hO14 (by omega) (by omega) ?_
        intro ib43 io43 hc43
        rw [show (3 : Int).toNat = 3 from rfl] at hc43
        rw [show ([((k : Nat) : Int), ((k : Nat) : Int), ((k : Nat) : Int), ((r : Nat) : Int)] : List Int).getD 3 0 = ((r : Nat) : Int) from rfl] at hc43
        refine Wl_loadc Tryz.isAgg3 rfl hc43 ?_
        refine Wl_v (r_lt rfl rfl) ?_
        refine Wmv (.bool (decide (((r : Nat) : Int) < 1))) ?_
        have q20 : ¬ (((r : Nat) : Int) < 1) := (by omega)
        rw [decide_eq_false q20]
        refine Wl_guard_t rfl ?_
        refine Wmv (.int .i64 ((3 * k : Nat) : Int)) ?_
        refine Wl_guard_t rfl ?_
        refine Wmv (.slice a14 4 c14) ?_
        refine Wl_guard_t rfl ?_
        refine Wmv (.int .i64 3) ?_
        refine Wl_guard_t rfl ?_
        refine Wl_idxi Tryz.underlying22 Tryz.sizeOf3 rfl rfl hO14 (by omega) (by omega) ?_
        intro ib44 io44 hc44
        rw [show (3 : Int).toNat = 3 from rfl] at hc44
        rw [show ([((k : Nat) : Int), ((k : Nat) : Int), ((k : Nat) : Int), ((r : Nat) : Int)] : List Int).getD 3 0 = ((r : Nat) : Int) from rfl] at hc44
        refine Wl_guard_t rfl ?_
        refine Wl_loadc Tryz.isAgg3 rfl hc44 ?_
        refine Wl_guard_t rfl ?_
        refine Wl_v (r_add rfl rfl (wi64 (by omega) (by omega))) ?_
        rw [show (((3 * k : Nat) : Int) + ((r : Nat) : Int) : Int) = ((3 * k + r : Nat) : Int) from by omega]
        refine Wl_guard_t rfl ?_
        refine Wmv (.slice a2 m d) ?_
        refine Wl_guard_t rfl ?_
        refine Wl_v (r_len Tryz.underlying32 rfl) ?_
        refine Wl_guard_t rfl ?_
        refine Wl_v (r_gt rfl rfl) ?_
        refine Wl_v (r_pick_f (v := .bool (decide (((m : Nat) : Int) < ((3 * k + r : Nat) : Int)))) rfl rfl) ?_
        refine Wl_nil ?_
        have q21 : ¬ (((m : Nat) : Int) < ((3 * k + r : Nat) : Int)) := (by omega)
        rw [decide_eq_false q21]
        refine W_cond_f rfl ?_
        refine W_skip (W_seq (W_region ?_))
        refine Wmv (.slice a n c) ?_
        refine Wmv (.slice a2 m d) ?_
        refine Wmv (.int .i64 ((3 * k : Nat) : Int)) ?_
        refine Wmv (.int .i64 ((3 * k : Nat) : Int)) ?_
        refine Wmv (.slice a14 4 c14) ?_
        refine Wmv (.int .i64 3) ?_
        refine Wl_idxi Tryz.underlying22 Tryz.sizeOf3 rfl rfl hO14 (by omega) (by omega) ?_
        intro ib45 io45 hc45
        rw [show (3 : Int).toNat = 3 from rfl] at hc45
        rw [show ([((k : Nat) : Int), ((k : Nat) : Int), ((k : Nat) : Int), ((r : Nat) : Int)] : List Int).getD 3 0 = ((r : Nat) : Int) from rfl] at hc45
        refine Wl_loadc Tryz.isAgg3 rfl hc45 ?_
        refine Wl_v (r_add rfl rfl (wi64 (by omega) (by omega))) ?_
        rw [show (((3 * k : Nat) : Int) + ((r : Nat) : Int) : Int) = ((3 * k + r : Nat) : Int) from by omega]
        refine Wl_v (r_slicen (l' := (3 * k)) (h' := (3 * k + r)) (n' := (3 * k + r) - (3 * k)) Tryz.underlying32 Tryz.sizeOf5 rfl rfl rfl (by omega) (by omega) (by omega) (by omega) (by omega)) ?_
        have hT46 := Sl.cutn (l := (3 * k)) (n := (3 * k + r) - (3 * k)) hsb (by omega)
        have hl_hT46 := ilen hT46
        have hc_hT46 := hT46.cap.1
        refine Wl_call (r_call2 rfl Tryz.call30 rfl rfl) (oenc_spec _ hs (by omega) hT46.any ((hb.drop _).take _) (by omega)) ?_
        rintro v w47 ⟨a47, m47, c47, rfl, hO47, hU47⟩
        have hzw47 := hU47.size
        replace HU := HU.trans0 hU47
        replace hO11 := hO11.upd0 hU47
        replace hS13 := hS13.upd0 hU47
        replace hOa13 := hOa13.upd0 hU47
        replace hOb13 := hOb13.upd0 hU47
        replace hOc13 := hOc13.upd0 hU47
        replace hOd13 := hOd13.upd0 hU47
        replace hO14 := hO14.upd0 hU47
        replace hO47 := hO47.tight
        have hl_hO47 := ilen hO47.sl
        have hc_hO47 := hO47.sl.cap.1
        replace hO47 := hO47.icong (show (ecF l ((b.drop (3 * k)).take ((3 * k + r) - (3 * k)))).1 = out l (pt b (3 * k) (3 * k + r)) from (by rw [ecF_pt hr hH]))
        have hz_hO47 : m47 = (out l (pt b (3 * k) (3 * k + r)) : List Int).length := (ilen hO47.sl).symm
        rw [show ((ecF l ((b.drop (3 * k)).take ((3 * k + r) - (3 * k)))).2 : Int) = 0 from (by rw [ecF_pt hr hH])]
        refine Wmv (.tuple #[.slice a47 m47 c47, .int .i64 0]) ?_
        refine Wl_v (r_ext (v := .slice a47 m47 c47) rfl rfl) ?_
        refine Wl_v (r_ext (v := .int .i64 0) rfl rfl) ?_
        refine Was (.slice a47 m47 c47) ?_
        refine Was (.int .i64 0) ?_
        refine Wl_nil (W_seq (W_seq (W_region ?_)))
        refine Wmv (.slice a47 m47 c47) ?_
        refine Wmv (.int .i64 0) ?_
        refine Wmv (.slice a13 4 c13) ?_
        refine Wmv (.int .i64 3) ?_
        refine Wl_idxc (i' := 3) (v := .slice jd13 kd13 qd13) Tryz.underlying41 Tryz.sizeOf32 rfl rfl (by first | rfl | omega) hS13.sl (by decide) rfl ?_
        intro ib48 io48 hc48
        refine Wl_loadc Tryz.isAgg32 rfl hc48 ?_
        refine Wl_bstr Tryz.underlying32 Tryz.underlying5 Tryz.underlying9 rfl hOd13.sl ?_
        refine Wl_call (r_call4 rfl Tryz.call19 rfl rfl rfl rfl) (is18 (y := out l (pt b (3 * k) (3 * k + r))) _ hO47.sl.any (out_byt _ _) (out_byt _ _)) ?_
        rintro v w49 ⟨rfl, hU49⟩
        have hzw49 := hU49.size
        replace HU := HU.trans0 hU49
        replace hO11 := hO11.upd0 hU49
        replace hS13 := hS13.upd0 hU49
        replace hOa13 := hOa13.upd0 hU49
        replace hOb13 := hOb13.upd0 hU49
        replace hOc13 := hOc13.upd0 hU49
        replace hOd13 := hOd13.upd0 hU49
        replace hO14 := hO14.upd0 hU49
        refine Wl_v (r_not rfl) ?_
        refine Wl_nil ?_
        have q22 : ((out l (pt b (3 * k) (3 * k + r))) : List Int) = (out l (pt b (3 * k) (3 * k + r))) ∧ (0 : Int) = 0 := ⟨rfl, rfl⟩
        rw [decide_eq_true q22]
        simp only [Bool.not_true, Bool.not_false]
        refine W_cond_f rfl ?_
        refine W_skip (W_region ?_)
        refine Wmv (.int .i64 ((3 * k : Nat) : Int)) ?_
        refine Wmv (.slice a14 4 c14) ?_
        refine Wmv (.int .i64 3) ?_
        refine Wl_idxi Tryz.underlying22 Tryz.sizeOf3 rfl rfl hO14 (by omega) (by omega) ?_
        intro ib50 io50 hc50
        rw [show (3 : Int).toNat = 3 from rfl] at hc50
        rw [show ([((k : Nat) : Int), ((k : Nat) : Int), ((k : Nat) : Int), ((r : Nat) : Int)] : List Int).getD 3 0 = ((r : Nat) : Int) from rfl] at hc50
        refine Wl_loadc Tryz.isAgg3 rfl hc50 ?_
        refine Wl_v (r_add rfl rfl (wi64 (by omega) (by omega))) ?_
        rw [show (((3 * k : Nat) : Int) + ((r : Nat) : Int) : Int) = ((3 * k + r : Nat) : Int) from by omega]
        refine Was (.int .i64 ((3 * k + r : Nat) : Int)) ?_
        refine Wl_nil (W_region ?_)
        refine Wmv (.int .i64 3) ?_
        refine Wl_v (r_add rfl rfl (show _ = (4 : Int) from by decide)) ?_
        refine Was (.int .i64 4) ?_
        refine Wl_nil ?_
        refine unrK_succ ?_
        refine W_seq (W_seq (W_region ?_))
        refine Wmv (.int .i64 4) ?_
        refine Wl_v (v := .bool false) (r_lt (a := 4) (b := 4) rfl rfl) ?_
        refine Wl_nil ?_
        refine W_cond_f rfl ?_
        refine W_exit ?_
        refine W_seq (W_region ?_)
        refine Wmv (.slice a13 4 c13) ?_
        refine Wl_call (r_call1 rfl Tryz.call21 rfl) (fjoin_ok _ hS13.sl hOa13.sl.any hOb13.sl.any hOc13.sl.any hOd13.sl.any (by omega) (by omega)) ?_
        rintro v w51 ⟨a51, m51, c51, rfl, hO51, hU51⟩
        have hzw51 := hU51.size
        replace HU := HU.trans0 hU51
        replace hO11 := hO11.upd0 hU51
        replace hO51 := hO51.tight
        have hl_hO51 := ilen hO51.sl
        have hc_hO51 := hO51.sl.cap.1
        replace hO51 := hO51.icong (show jn (out l (pt b 0 k)) (out l (pt b k (2 * k))) (out l (pt b (2 * k) (3 * k))) (out l (pt b (3 * k) (3 * k + r))) = sA from hB.2.1.symm)
        have hz_hO51 : m51 = (sA : List Int).length := (ilen hO51.sl).symm
        refine Wmv (.tuple #[.slice a51 m51 c51, .int .i64 0]) ?_
        refine Wl_v (r_ext (v := .slice a51 m51 c51) rfl rfl) ?_
        refine Wl_v (r_ext (v := .int .i64 0) rfl rfl) ?_
        refine Was (.slice a51 m51 c51) ?_
        refine Was (.int .i64 0) ?_
        refine Wl_nil (W_seq (W_region ?_))
        refine Wmv (.int .i64 ((3 * k + r : Nat) : Int)) ?_
        refine Wmv (.slice a2 m d) ?_
        refine Wl_v (r_len Tryz.underlying32 rfl) ?_
        refine Wl_v (r_eq rfl rfl) ?_
        refine Wmv (.bool (decide (((3 * k + r : Nat) : Int) = ((m : Nat) : Int)))) ?_
        have q23 : ((3 * k + r : Nat) : Int) = ((m : Nat) : Int) := (by omega)
        rw [decide_eq_true q23]
        refine Wl_guard_t rfl ?_
        refine Wmv (.slice a51 m51 c51) ?_
        refine Wl_guard_t rfl ?_
        refine Wmv (.int .i64 0) ?_
        refine Wl_guard_t rfl ?_
        refine Wmv (.slice a11 m11 c11) ?_
        refine Wl_guard_t rfl ?_
        refine Wl_bstr Tryz.underlying32 Tryz.underlying5 Tryz.underlying9 rfl hO11.sl ?_
        refine Wl_guard_t rfl ?_
        refine Wl_call (r_call4 rfl Tryz.call19 rfl rfl rfl rfl) (is18 (y := sA) _ hO51.sl.any hAb hAb) ?_
        rintro v w52 ⟨rfl, hU52⟩
        have hzw52 := hU52.size
        replace HU := HU.trans0 hU52
        refine Wl_v (r_pick_t (v := .bool (decide ((sA : List Int) = sA ∧ (0 : Int) = 0))) rfl rfl) ?_
        refine Wmv (.bool (decide ((sA : List Int) = sA ∧ (0 : Int) = 0))) ?_
        have q24 : (sA : List Int) = sA ∧ (0 : Int) = 0 := ⟨rfl, rfl⟩
        rw [decide_eq_true q24]
        refine Wl_guard_t rfl ?_
        refine Wl_call (r_call0 rfl Tryz.call16 ) (works18 _ ) ?_
        rintro v w53 ⟨rfl, hU53⟩
        have hzw53 := hU53.size
        replace HU := HU.trans0 hU53
        refine Wl_v (r_pick_t (v := .bool true) rfl rfl) ?_
        refine Was (.bool true) ?_
        refine Wl_nil ?_
        refine W_ret ?_
        refine ret_end (v := .bool true) rfl (res1 Tryz.results9 rfl) ?_
        exact ⟨_, rfl, rfl, HU⟩
       ·refine Wl_call (r_call1 rfl Tryz.call13 rfl) (splt_f (n := ((m : Nat) : Int)) _ q9) ?_
        rintro v w54 ⟨rfl, hU54⟩
        have hzw54 := hU54.size
        replace HU := HU.trans0 hU54
        refine Wl_guard_t rfl ?_
        refine Wl_v (r_not (b := false) rfl) ?_
        refine Wl_v (r_pick_f (v := .bool true) rfl rfl) ?_
        refine Wl_nil ?_
        refine W_cond_t rfl ?_
        refine W_seq (W_region ?_)
        refine Wl_call (r_call0 rfl Tryz.call16 ) (works18 _ ) ?_
        rintro v w55 ⟨rfl, hU55⟩
        have hzw55 := hU55.size
        replace HU := HU.trans0 hU55
        refine Was (.bool true) ?_
        refine Wl_nil ?_
        refine W_ret ?_
        refine ret_end (v := .bool true) rfl (res1 Tryz.results9 rfl) ?_
        exact ⟨_, rfl, rfl, HU⟩
      ·rw [decide_eq_false q8]
       simp only [Bool.not_true, Bool.not_false]
       refine Wl_guard_f rfl (Wl_guard_f rfl (Wl_guard_f rfl (Wl_guard_f rfl ?_)))
       refine Wl_v (r_pick_t (v := .bool true) rfl rfl) ?_
       refine Wl_nil ?_
       refine W_cond_t rfl ?_
       refine W_seq (W_region ?_)
       refine Wl_call (r_call0 rfl Tryz.call16 ) (works18 _ ) ?_
       rintro v w56 ⟨rfl, hU56⟩
       have hzw56 := hU56.size
       replace HU := HU.trans0 hU56
       refine Was (.bool true) ?_
       refine Wl_nil ?_
       refine W_ret ?_
       refine ret_end (v := .bool true) rfl (res1 Tryz.results9 rfl) ?_
       exact ⟨_, rfl, rfl, HU⟩
     ·rw [decide_eq_false q5]
      refine W_cond_f rfl ?_
      refine W_skip (W_seq (W_seq (W_region ?_)))
      refine Wmv (.slice a n c) ?_
      refine Wmv (.slice a2 m d) ?_
      refine Wl_call (r_call2 rfl Tryz.call29 rfl rfl) (oen_spec _ hs (by omega) hsb.any hb (by omega)) ?_
      rintro v w57 ⟨rfl, hU57⟩
      have hzw57 := hU57.size
      replace hs := hs.upd0 hU57
      replace hsb := hsb.upd0 hU57
      replace HU := HU.trans0 hU57
      refine Wmv (.tuple #[.int .i64 ((enF l b).1), .bool (decide ((enF l b).2 = true))]) ?_
      refine Wl_v (r_ext (v := .int .i64 ((enF l b).1)) rfl rfl) ?_
      refine Wl_v (r_ext (v := .bool (decide ((enF l b).2 = true))) rfl rfl) ?_
      refine Was (.int .i64 ((enF l b).1)) ?_
      refine Was (.bool (decide ((enF l b).2 = true))) ?_
      refine Wl_nil (W_seq (W_region ?_))
      refine Wmv (.bool (decide ((enF l b).2 = true))) ?_
      refine Wl_v (r_not rfl) ?_
      refine Wmv (.bool (!decide ((enF l b).2 = true))) ?_
      by_cases q25 : (enF l b).2 = true
      ·have hH := enF_hs hr q25
       rw [decide_eq_true q25]
       simp only [Bool.not_true, Bool.not_false]
       refine Wl_guard_t rfl ?_
       refine Wmv (.slice a2 m d) ?_
       refine Wl_guard_t rfl ?_
       refine Wl_v (r_len Tryz.underlying32 rfl) ?_
       refine Wl_guard_t rfl ?_
       by_cases q26 : paF ((m : Nat) : Int) = 0
       ·obtain ⟨sA, hsA⟩ : ∃ x, x = (f4F l b).1 := ⟨_, rfl⟩
        obtain ⟨k, hk⟩ : ∃ k, k = (m + 3) / 4 := ⟨_, rfl⟩
        have hpi := paF_inv q26
        obtain ⟨r, hkr⟩ : ∃ r, 3 * k + r = m := ⟨m - 3 * k, by omega⟩
        have hB := four_b hr hb hH (show b.length = m from by omega) (by omega) q26 hk.symm hkr hsA
        have hB9 := hB.2.2.2.2.2.2.2.2.2
        have hAl := hB.2.2.2.1
        have hAb := hB.2.2.1
        have b1 := out_lel (b := b) hr 0 k
        have b2 := out_lel (b := b) hr k (2 * k)
        have b3 := out_lel (b := b) hr (2 * k) (3 * k)
        have b4 := out_lel (b := b) hr (3 * k) (3 * k + r)
        refine Wl_call (r_call1 rfl Tryz.call13 rfl) (splt_t (n := ((m : Nat) : Int)) _ q26) ?_
        rintro v w58 ⟨rfl, hU58⟩
        have hzw58 := hU58.size
        replace hs := hs.upd0 hU58
        replace hsb := hsb.upd0 hU58
        replace HU := HU.trans0 hU58
        refine Wl_guard_t rfl ?_
        refine Wl_v (r_not (b := true) rfl) ?_
        refine Wl_v (r_pick_f (v := .bool false) rfl rfl) ?_
        refine Wl_nil ?_
        refine W_cond_f rfl ?_
        refine W_skip (W_seq (W_region ?_))
        refine Wmv (.slice a n c) ?_
        refine Wmv (.slice a2 m d) ?_
        refine Wl_call (r_call2 rfl Tryz.call17 rfl rfl) (fenc_spec _ hs (by omega) hsb.any hb (by omega)) ?_
        rintro v w59 ⟨a59, m59, c59, rfl, hO59, hU59⟩
        have hzw59 := hU59.size
        replace hs := hs.upd0 hU59
        replace hsb := hsb.upd0 hU59
        replace HU := HU.trans0 hU59
        replace hO59 := hO59.tight
        have hl_hO59 := ilen hO59.sl
        have hc_hO59 := hO59.sl.cap.1
        replace hO59 := hO59.icong (show (f4F l b).1 = sA from hsA.symm)
        have hz_hO59 : m59 = (sA : List Int).length := (ilen hO59.sl).symm
        rw [show ((f4F l b).2 : Int) = 0 from (by rw [hB.1])]
        refine Wmv (.tuple #[.slice a59 m59 c59, .int .i64 0]) ?_
        refine Wl_v (r_ext (v := .slice a59 m59 c59) rfl rfl) ?_
        refine Wl_v (r_ext (v := .int .i64 0) rfl rfl) ?_
        refine Was (.slice a59 m59 c59) ?_
        refine Was (.int .i64 0) ?_
        refine Wl_nil (W_seq (W_region ?_))
        refine Wmv (.slice a n c) ?_
        refine Wmv (.slice a59 m59 c59) ?_
        refine Wmv (.slice a2 m d) ?_
        refine Wl_v (r_len Tryz.underlying32 rfl) ?_
        refine Wl_call (r_call3 rfl Tryz.call23 rfl rfl rfl) (fdec_spec _ hs (by omega) hO59.sl.any hAb (by omega) (by omega)) ?_
        rintro v w60 ⟨a60, m60, c60, rfl, hO60, hU60⟩
        have hzw60 := hU60.size
        replace hs := hs.upd0 hU60
        replace hsb := hsb.upd0 hU60
        replace HU := HU.trans0 hU60
        replace hO59 := hO59.upd0 hU60
        replace hO60 := hO60.tight
        have hl_hO60 := ilen hO60.sl
        have hc_hO60 := hO60.sl.cap.1
        replace hO60 := hO60.icong (show (d4F l sA ((m : Nat) : Int)).1 = b from (by rw [hB9]))
        have hz_hO60 : m60 = (b : List Int).length := (ilen hO60.sl).symm
        rw [show ((d4F l sA ((m : Nat) : Int)).2 : Int) = 0 from (by rw [hB9])]
        refine Wmv (.tuple #[.slice a60 m60 c60, .int .i64 0]) ?_
        refine Wl_v (r_ext (v := .slice a60 m60 c60) rfl rfl) ?_
        refine Wl_v (r_ext (v := .int .i64 0) rfl rfl) ?_
        refine Was (.slice a60 m60 c60) ?_
        refine Was (.int .i64 0) ?_
        refine Wl_nil (W_seq (W_region ?_))
        refine Wmv (.slice a59 m59 c59) ?_
        refine Wl_call (r_call1 rfl Tryz.call25 rfl) (split_ok _ hO59.sl.any hAb (by omega) hB.2.2.2.2.1) ?_
        rintro v w61 ⟨a61, c61, ja61, ka61, qa61, jb61, kb61, qb61, jc61, kc61, qc61, jd61, kd61, qd61, rfl, hS61, hOa61, hOb61, hOc61, hOd61, hU61⟩
        have hzw61 := hU61.size
        replace hs := hs.upd0 hU61
        replace hsb := hsb.upd0 hU61
        replace HU := HU.trans0 hU61
        replace hO59 := hO59.upd0 hU61
        replace hO60 := hO60.upd0 hU61
        replace hS61 := hS61.tight
        have hl_hS61 := hS61.sl.len
        have hc_hS61 := hS61.sl.cap.1
        replace hOa61 := hOa61.tight
        have hl_hOa61 := ilen hOa61.sl
        have hc_hOa61 := hOa61.sl.cap.1
        replace hOb61 := hOb61.tight
        have hl_hOb61 := ilen hOb61.sl
        have hc_hOb61 := hOb61.sl.cap.1
        replace hOc61 := hOc61.tight
        have hl_hOc61 := ilen hOc61.sl
        have hc_hOc61 := hOc61.sl.cap.1
        replace hOd61 := hOd61.tight
        have hl_hOd61 := ilen hOd61.sl
        have hc_hOd61 := hOd61.sl.cap.1
        replace hOa61 := hOa61.icong (show (gbytes sA (gnum sA (gnum sA (gnum sA 0 131072).2.1 131072).2.1 131072).2.1 (gnum sA 0 131072).1).1 = out l (pt b 0 k) from hB.2.2.2.2.2.1)
        have hz_hOa61 : ka61 = (out l (pt b 0 k) : List Int).length := (ilen hOa61.sl).symm
        replace hOb61 := hOb61.icong (show (gbytes sA (gbytes sA (gnum sA (gnum sA (gnum sA 0 131072).2.1 131072).2.1 131072).2.1 (gnum sA 0 131072).1).2.1 (gnum sA (gnum sA 0 131072).2.1 131072).1).1 = out l (pt b k (2 * k)) from hB.2.2.2.2.2.2.1)
        have hz_hOb61 : kb61 = (out l (pt b k (2 * k)) : List Int).length := (ilen hOb61.sl).symm
        replace hOc61 := hOc61.icong (show (gbytes sA (gbytes sA (gbytes sA (gnum sA (gnum sA (gnum sA 0 131072).2.1 131072).2.1 131072).2.1 (gnum sA 0 131072).1).2.1 (gnum sA (gnum sA 0 131072).2.1 131072).1).2.1 (gnum sA (gnum sA (gnum sA 0 131072).2.1 131072).2.1 131072).1).1 = out l (pt b (2 * k) (3 * k)) from hB.2.2.2.2.2.2.2.1)
        have hz_hOc61 : kc61 = (out l (pt b (2 * k) (3 * k)) : List Int).length := (ilen hOc61.sl).symm
        replace hOd61 := hOd61.icong (show sA.drop (gbytes sA (gbytes sA (gbytes sA (gnum sA (gnum sA (gnum sA 0 131072).2.1 131072).2.1 131072).2.1 (gnum sA 0 131072).1).2.1 (gnum sA (gnum sA 0 131072).2.1 131072).1).2.1 (gnum sA (gnum sA (gnum sA 0 131072).2.1 131072).2.1 131072).1).2.1 = out l (pt b (3 * k) (3 * k + r)) from hB.2.2.2.2.2.2.2.2.1)
        have hz_hOd61 : kd61 = (out l (pt b (3 * k) (3 * k + r)) : List Int).length := (ilen hOd61.sl).symm
        refine Wmv (.tuple #[.slice a61 4 c61, .int .i64 0]) ?_
        refine Wl_v (r_ext (v := .slice a61 4 c61) rfl rfl) ?_
        refine Wl_v (r_ext (v := .int .i64 0) rfl rfl) ?_
        refine Was (.slice a61 4 c61) ?_
        refine Was (.int .i64 0) ?_
        refine Wl_nil (W_seq (W_region ?_))
        refine Wmv (.slice a2 m d) ?_
        refine Wl_v (r_len Tryz.underlying32 rfl) ?_
        refine Wl_call (r_call1 rfl Tryz.call11 rfl) (psz_ok (n := ((m : Nat) : Int)) _ q26) ?_
        rintro v w62 ⟨a62, c62, rfl, hO62, hU62⟩
        have hzw62 := hU62.size
        replace hs := hs.upd0 hU62
        replace hsb := hsb.upd0 hU62
        replace HU := HU.trans0 hU62
        replace hO59 := hO59.upd0 hU62
        replace hO60 := hO60.upd0 hU62
        replace hS61 := hS61.upd0 hU62
        replace hOa61 := hOa61.upd0 hU62
        replace hOb61 := hOb61.upd0 hU62
        replace hOc61 := hOc61.upd0 hU62
        replace hOd61 := hOd61.upd0 hU62
        have hl_hO62 := ilen hO62
        have hc_hO62 := hO62.cap.1
        replace hO62 := hO62.icong (show [(((m : Nat) : Int) + 3) / 4, (((m : Nat) : Int) + 3) / 4, (((m : Nat) : Int) + 3) / 4, ((m : Nat) : Int) - 3 * ((((m : Nat) : Int) + 3) / 4)] = [((k : Nat) : Int), ((k : Nat) : Int), ((k : Nat) : Int), ((r : Nat) : Int)] from (by simp only [List.cons.injEq, and_true]; omega))
        have hz_hO62 : 4 = ([((k : Nat) : Int), ((k : Nat) : Int), ((k : Nat) : Int), ((r : Nat) : Int)] : List Int).length := (ilen hO62).symm
        refine Wmv (.tuple #[.slice a62 4 c62, .int .i64 0]) ?_
        refine Wl_v (r_ext (v := .slice a62 4 c62) rfl rfl) ?_
        refine Wl_v (r_ext (v := .int .i64 0) rfl rfl) ?_
        refine Was (.slice a62 4 c62) ?_
        refine Was (.int .i64 0) ?_
        refine Wl_nil (W_seq (W_seq (W_region ?_)))
        refine Wmv (.int .i64 0) ?_
        refine Wl_call (r_call1 rfl Tryz.call15 rfl) (num18 _ ) ?_
        rintro v w63 ⟨rfl, hU63⟩
        have hzw63 := hU63.size
        replace hs := hs.upd0 hU63
        replace hsb := hsb.upd0 hU63
        replace HU := HU.trans0 hU63
        replace hO59 := hO59.upd0 hU63
        replace hO60 := hO60.upd0 hU63
        replace hS61 := hS61.upd0 hU63
        replace hOa61 := hOa61.upd0 hU63
        replace hOb61 := hOb61.upd0 hU63
        replace hOc61 := hOc61.upd0 hU63
        replace hOd61 := hOd61.upd0 hU63
        replace hO62 := hO62.upd0 hU63
        refine Wmv (.int .i64 0) ?_
        refine Wl_call (r_call1 rfl Tryz.call15 rfl) (num18 _ ) ?_
        rintro v w64 ⟨rfl, hU64⟩
        have hzw64 := hU64.size
        replace hs := hs.upd0 hU64
        replace hsb := hsb.upd0 hU64
        replace HU := HU.trans0 hU64
        replace hO59 := hO59.upd0 hU64
        replace hO60 := hO60.upd0 hU64
        replace hS61 := hS61.upd0 hU64
        replace hOa61 := hOa61.upd0 hU64
        replace hOb61 := hOb61.upd0 hU64
        replace hOc61 := hOc61.upd0 hU64
        replace hOd61 := hOd61.upd0 hU64
        replace hO62 := hO62.upd0 hU64
        refine Wl_v (r_add rfl rfl (show _ = (0 : Int) from by decide)) ?_
        refine Wmv (.int .i64 0) ?_
        refine Wl_call (r_call1 rfl Tryz.call15 rfl) (num18 _ ) ?_
        rintro v w65 ⟨rfl, hU65⟩
        have hzw65 := hU65.size
        replace hs := hs.upd0 hU65
        replace hsb := hsb.upd0 hU65
        replace HU := HU.trans0 hU65
        replace hO59 := hO59.upd0 hU65
        replace hO60 := hO60.upd0 hU65
        replace hS61 := hS61.upd0 hU65
        replace hOa61 := hOa61.upd0 hU65
        replace hOb61 := hOb61.upd0 hU65
        replace hOc61 := hOc61.upd0 hU65
        replace hOd61 := hOd61.upd0 hU65
        replace hO62 := hO62.upd0 hU65
        refine Wl_v (r_add rfl rfl (show _ = (0 : Int) from by decide)) ?_
        refine Wl_v (v := .bool false) (r_ne (a := 0) (b := 0) rfl rfl) ?_
        refine Wmv (.bool false) ?_
        refine Wl_guard_t rfl ?_
        refine Wmv (.slice a60 m60 c60) ?_
        refine Wl_guard_t rfl ?_
        refine Wmv (.int .i64 0) ?_
        refine Wl_guard_t rfl ?_
        refine Wmv (.slice a2 m d) ?_
        refine Wl_guard_t rfl ?_
        refine Wl_bstr Tryz.underlying32 Tryz.underlying5 Tryz.underlying9 rfl hsb ?_
        refine Wl_guard_t rfl ?_
        refine Wl_call (r_call4 rfl Tryz.call19 rfl rfl rfl rfl) (is18 (y := b) _ hO60.sl.any hb hb) ?_
        rintro v w66 ⟨rfl, hU66⟩
        have hzw66 := hU66.size
        replace hs := hs.upd0 hU66
        replace hsb := hsb.upd0 hU66
        replace HU := HU.trans0 hU66
        replace hO59 := hO59.upd0 hU66
        replace hS61 := hS61.upd0 hU66
        replace hOa61 := hOa61.upd0 hU66
        replace hOb61 := hOb61.upd0 hU66
        replace hOc61 := hOc61.upd0 hU66
        replace hOd61 := hOd61.upd0 hU66
        replace hO62 := hO62.upd0 hU66
        refine Wl_guard_t rfl ?_
        refine Wl_v (r_not rfl) ?_
        refine Wl_v (r_pick_f (v := .bool (!decide ((b : List Int) = b ∧ (0 : Int) = 0))) rfl rfl) ?_
        refine Wmv (.bool (!decide ((b : List Int) = b ∧ (0 : Int) = 0))) ?_
        have q27 : (b : List Int) = b ∧ (0 : Int) = 0 := ⟨rfl, rfl⟩
        rw [decide_eq_true q27]
        simp only [Bool.not_true, Bool.not_false]
        refine Wl_guard_t rfl ?_
        refine Wmv (.slice a61 4 c61) ?_
        refine Wl_guard_t rfl ?_
        refine Wl_v (r_len Tryz.underlying41 rfl) ?_
        refine Wl_guard_t rfl ?_
        refine Wl_v (v := .bool false) (r_ne (a := 4) (b := 4) rfl rfl) ?_
        refine Wl_v (r_pick_f (v := .bool false) rfl rfl) ?_
        refine Wmv (.bool false) ?_
        refine Wl_guard_t rfl ?_
        refine Wmv (.slice a62 4 c62) ?_
        refine Wl_guard_t rfl ?_
        refine Wl_v (r_len Tryz.underlying22 rfl) ?_
        refine Wl_guard_t rfl ?_
        refine Wl_v (v := .bool false) (r_ne (a := 4) (b := 4) rfl rfl) ?_
        refine Wl_v (r_pick_f (v := .bool false) rfl rfl) ?_
        refine Wl_nil ?_
        refine W_cond_f rfl ?_
        refine W_skip (W_seq (W_region ?_))
        refine Was (.int .i64 0) ?_
        refine Wl_nil (W_seq (W_seq (W_region ?_)))
        refine Was (.int .i64 0) ?_
        refine Wl_nil (W_block ?_)
        refine W_unroll 5 ?_
        refine unrK_succ ?_
        refine W_seq (W_seq (W_region ?_))
        refine Wmv (.int .i64 0) ?_
        refine Wl_v (v := .bool true) (r_lt (a := 0) (b := 4) rfl rfl) ?_
        refine Wl_nil ?_
        refine W_cond_t rfl ?_
        refine W_skip (W_seq (W_block (W_seq (W_seq (W_region ?_)))))
        refine Wmv (.slice a62 4 c62) ?_
        refine Wmv (.int .i64 0) ?_
        refine Wl_idxi Tryz.underlying22 Tryz.sizeOf3 rfl rfl hO62 (by omega) (by omega) ?_
        intro ib67 io67 hc67
        rw [show (0 : Int).toNat = 0 from rfl] at hc67
        rw [show ([((k : Nat) : Int), ((k : Nat) : Int), ((k : Nat) : Int), ((r : Nat) : Int)] : List Int).getD 0 0 = ((k : Nat) : Int) from rfl] at hc67
        refine Wl_loadc Tryz.isAgg3 rfl hc67 ?_
        refine Wl_v (r_lt rfl rfl) ?_
        refine Wmv (.bool (decide (((k : Nat) : Int) < 1))) ?_
        have q28 : ¬ (((k : Nat) : Int) < 1) := (by omega)
        rw [decide_eq_false q28]
        refine Wl_guard_t rfl ?_
        refine Wmv (.int .i64 0) ?_
        refine Wl_guard_t rfl ?_
        refine Wmv (.slice a62 4 c62) ?_
        refine Wl_guard_t rfl ?_
        refine Wmv (.int .i64 0) ?_
        refine Wl_guard_t rfl ?_
        refine Wl_idxi Tryz.underlying22 Tryz.sizeOf3 rfl rfl hO62 (by omega) (by omega) ?_
        intro ib68 io68 hc68
        rw [show (0 : Int).toNat = 0 from rfl] at hc68
        rw [show ([((k : Nat) : Int), ((k : Nat) : Int), ((k : Nat) : Int), ((r : Nat) : Int)] : List Int).getD 0 0 = ((k : Nat) : Int) from rfl] at hc68
        refine Wl_guard_t rfl ?_
        refine Wl_loadc Tryz.isAgg3 rfl hc68 ?_
        refine Wl_guard_t rfl ?_
        refine Wl_v (r_add rfl rfl (wi64 (by omega) (by omega))) ?_
        rw [show (0 + ((k : Nat) : Int) : Int) = ((k : Nat) : Int) from by omega]
        refine Wl_guard_t rfl ?_
        refine Wmv (.slice a2 m d) ?_
        refine Wl_guard_t rfl ?_
        refine Wl_v (r_len Tryz.underlying32 rfl) ?_
        refine Wl_guard_t rfl ?_
        refine Wl_v (r_gt rfl rfl) ?_
        refine Wl_v (r_pick_f (v := .bool (decide (((m : Nat) : Int) < ((k : Nat) : Int)))) rfl rfl) ?_
        refine Wl_nil ?_
        have q29 : ¬ (((m : Nat) : Int) < ((k : Nat) : Int)) := (by omega)
        rw [decide_eq_false q29]
        refine W_cond_f rfl ?_
        refine W_skip (W_seq (W_region ?_))
        refine Wmv (.slice a n c) ?_
        refine Wmv (.slice a2 m d) ?_
        refine Wmv (.int .i64 0) ?_
        refine Wmv (.int .i64 0) ?_
        refine Wmv (.slice a62 4 c62) ?_
        refine Wmv (.int .i64 0) ?_
        refine Wl_idxi Tryz.underlying22 Tryz.sizeOf3 rfl rfl hO62 (by omega) (by omega) ?_
        intro ib69 io69 hc69
        rw [show (0 : Int).toNat = 0 from rfl] at hc69
        rw [show ([((k : Nat) : Int), ((k : Nat) : Int), ((k : Nat) : Int), ((r : Nat) : Int)] : List Int).getD 0 0 = ((k : Nat) : Int) from rfl] at hc69
        refine Wl_loadc Tryz.isAgg3 rfl hc69 ?_
        refine Wl_v (r_add rfl rfl (wi64 (by omega) (by omega))) ?_
        rw [show (0 + ((k : Nat) : Int) : Int) = ((k : Nat) : Int) from by omega]
        refine Wl_v (r_slicen (l' := 0) (h' := k) (n' := k - 0) Tryz.underlying32 Tryz.sizeOf5 rfl rfl rfl (by omega) (by omega) (by omega) (by omega) (by omega)) ?_
        have hT70 := Sl.cutn (l := 0) (n := k - 0) hsb (by omega)
        have hl_hT70 := ilen hT70
        have hc_hT70 := hT70.cap.1
        refine Wl_call (r_call2 rfl Tryz.call30 rfl rfl) (oenc_spec _ hs (by omega) hT70.any ((hb.drop _).take _) (by omega)) ?_
        rintro v w71 ⟨a71, m71, c71, rfl, hO71, hU71⟩
        have hzw71 := hU71.size
        replace hs := hs.upd0 hU71
        replace hsb := hsb.upd0 hU71
        replace HU := HU.trans0 hU71
        replace hO59 := hO59.upd0 hU71
        replace hS61 := hS61.upd0 hU71
        replace hOa61 := hOa61.upd0 hU71
        replace hOb61 := hOb61.upd0 hU71
        replace hOc61 := hOc61.upd0 hU71
        replace hOd61 := hOd61.upd0 hU71
        replace hO62 := hO62.upd0 hU71
        replace hO71 := hO71.tight
        have hl_hO71 := ilen hO71.sl
        have hc_hO71 := hO71.sl.cap.1
        replace hO71 := hO71.icong (show (ecF l ((b.drop 0).take (k - 0))).1 = out l (pt b 0 k) from (by rw [ecF_pt hr hH]))
        have hz_hO71 : m71 = (out l (pt b 0 k) : List Int).length := (ilen hO71.sl).symm
        rw [show ((ecF l ((b.drop 0).take (k - 0))).2 : Int) = 0 from (by rw [ecF_pt hr hH])]
        refine Wmv (.tuple #[.slice a71 m71 c71, .int .i64 0]) ?_
        refine Wl_v (r_ext (v := .slice a71 m71 c71) rfl rfl) ?_
        refine Wl_v (r_ext (v := .int .i64 0) rfl rfl) ?_
        refine Was (.slice a71 m71 c71) ?_
        refine Was (.int .i64 0) ?_
        refine Wl_nil (W_seq (W_seq (W_region ?_)))
        refine Wmv (.slice a71 m71 c71) ?_
        refine Wmv (.int .i64 0) ?_
        refine Wmv (.slice a61 4 c61) ?_
        refine Wmv (.int .i64 0) ?_
        refine Wl_idxc (i' := 0) (v := .slice ja61 ka61 qa61) Tryz.underlying41 Tryz.sizeOf32 rfl rfl (by first | rfl | omega) hS61.sl (by decide) rfl ?_
        intro ib72 io72 hc72
        refine Wl_loadc Tryz.isAgg32 rfl hc72 ?_
        refine Wl_bstr Tryz.underlying32 Tryz.underlying5 Tryz.underlying9 rfl hOa61.sl ?_
        refine Wl_call (r_call4 rfl Tryz.call19 rfl rfl rfl rfl) (is18 (y := out l (pt b 0 k)) _ hO71.sl.any (out_byt _ _) (out_byt _ _)) ?_
        rintro v w73 ⟨rfl, hU73⟩
        have hzw73 := hU73.size
        replace hs := hs.upd0 hU73
        replace hsb := hsb.upd0 hU73
        replace HU := HU.trans0 hU73
        replace hO59 := hO59.upd0 hU73
        replace hS61 := hS61.upd0 hU73
        replace hOa61 := hOa61.upd0 hU73
        replace hOb61 := hOb61.upd0 hU73
        replace hOc61 := hOc61.upd0 hU73
        replace hOd61 := hOd61.upd0 hU73
        replace hO62 := hO62.upd0 hU73
        refine Wl_v (r_not rfl) ?_
        refine Wl_nil ?_
        have q30 : ((out l (pt b 0 k)) : List Int) = (out l (pt b 0 k)) ∧ (0 : Int) = 0 := ⟨rfl, rfl⟩
        rw [decide_eq_true q30]
        simp only [Bool.not_true, Bool.not_false]
        refine W_cond_f rfl ?_
        refine W_skip (W_region ?_)
        refine Wmv (.int .i64 0) ?_
        refine Wmv (.slice a62 4 c62) ?_
        refine Wmv (.int .i64 0) ?_
        refine Wl_idxi Tryz.underlying22 Tryz.sizeOf3 rfl rfl hO62 (by omega) (by omega) ?_
        intro ib74 io74 hc74
        rw [show (0 : Int).toNat = 0 from rfl] at hc74
        rw [show ([((k : Nat) : Int), ((k : Nat) : Int), ((k : Nat) : Int), ((r : Nat) : Int)] : List Int).getD 0 0 = ((k : Nat) : Int) from rfl] at hc74
        refine Wl_loadc Tryz.isAgg3 rfl hc74 ?_
        refine Wl_v (r_add rfl rfl (wi64 (by omega) (by omega))) ?_
        rw [show (0 + ((k : Nat) : Int) : Int) = ((k : Nat) : Int) from by omega]
        refine Was (.int .i64 ((k : Nat) : Int)) ?_
        refine Wl_nil (W_region ?_)
        refine Wmv (.int .i64 0) ?_
        refine Wl_v (r_add rfl rfl (show _ = (1 : Int) from by decide)) ?_
        refine Was (.int .i64 1) ?_
        refine Wl_nil ?_
        refine unrK_succ ?_
        refine W_seq (W_seq (W_region ?_))
        refine Wmv (.int .i64 1) ?_
        refine Wl_v (v := .bool true) (r_lt (a := 1) (b := 4) rfl rfl) ?_
        refine Wl_nil ?_
        refine W_cond_t rfl ?_
        refine W_skip (W_seq (W_block (W_seq (W_seq (W_region ?_)))))
        refine Wmv (.slice a62 4 c62) ?_
        refine Wmv (.int .i64 1) ?_
        refine Wl_idxi Tryz.underlying22 Tryz.sizeOf3 rfl rfl hO62 (by omega) (by omega) ?_
        intro ib75 io75 hc75
        rw [show (1 : Int).toNat = 1 from rfl] at hc75
        rw [show ([((k : Nat) : Int), ((k : Nat) : Int), ((k : Nat) : Int), ((r : Nat) : Int)] : List Int).getD 1 0 = ((k : Nat) : Int) from rfl] at hc75
        refine Wl_loadc Tryz.isAgg3 rfl hc75 ?_
        refine Wl_v (r_lt rfl rfl) ?_
        refine Wmv (.bool (decide (((k : Nat) : Int) < 1))) ?_
        have q31 : ¬ (((k : Nat) : Int) < 1) := (by omega)
        rw [decide_eq_false q31]
        refine Wl_guard_t rfl ?_
        refine Wmv (.int .i64 ((k : Nat) : Int)) ?_
        refine Wl_guard_t rfl ?_
        refine Wmv (.slice a62 4 c62) ?_
        refine Wl_guard_t rfl ?_
        refine Wmv (.int .i64 1) ?_
        refine Wl_guard_t rfl ?_
        refine Wl_idxi Tryz.underlying22 Tryz.sizeOf3 rfl rfl hO62 (by omega) (by omega) ?_
        intro ib76 io76 hc76
        rw [show (1 : Int).toNat = 1 from rfl] at hc76
        rw [show ([((k : Nat) : Int), ((k : Nat) : Int), ((k : Nat) : Int), ((r : Nat) : Int)] : List Int).getD 1 0 = ((k : Nat) : Int) from rfl] at hc76
        refine Wl_guard_t rfl ?_
        refine Wl_loadc Tryz.isAgg3 rfl hc76 ?_
        refine Wl_guard_t rfl ?_
        refine Wl_v (r_add rfl rfl (wi64 (by omega) (by omega))) ?_
        rw [show (((k : Nat) : Int) + ((k : Nat) : Int) : Int) = ((2 * k : Nat) : Int) from by omega]
        refine Wl_guard_t rfl ?_
        refine Wmv (.slice a2 m d) ?_
        refine Wl_guard_t rfl ?_
        refine Wl_v (r_len Tryz.underlying32 rfl) ?_
        refine Wl_guard_t rfl ?_
        refine Wl_v (r_gt rfl rfl) ?_
        refine Wl_v (r_pick_f (v := .bool (decide (((m : Nat) : Int) < ((2 * k : Nat) : Int)))) rfl rfl) ?_
        refine Wl_nil ?_
        have q32 : ¬ (((m : Nat) : Int) < ((2 * k : Nat) : Int)) := (by omega)
        rw [decide_eq_false q32]
        refine W_cond_f rfl ?_
        refine W_skip (W_seq (W_region ?_))
        refine Wmv (.slice a n c) ?_
        refine Wmv (.slice a2 m d) ?_
        refine Wmv (.int .i64 ((k : Nat) : Int)) ?_
        refine Wmv (.int .i64 ((k : Nat) : Int)) ?_
        refine Wmv (.slice a62 4 c62) ?_
        refine Wmv (.int .i64 1) ?_
        refine Wl_idxi Tryz.underlying22 Tryz.sizeOf3 rfl rfl hO62 (by omega) (by omega) ?_
        intro ib77 io77 hc77
        rw [show (1 : Int).toNat = 1 from rfl] at hc77
        rw [show ([((k : Nat) : Int), ((k : Nat) : Int), ((k : Nat) : Int), ((r : Nat) : Int)] : List Int).getD 1 0 = ((k : Nat) : Int) from rfl] at hc77
        refine Wl_loadc Tryz.isAgg3 rfl hc77 ?_
        refine Wl_v (r_add rfl rfl (wi64 (by omega) (by omega))) ?_
        rw [show (((k : Nat) : Int) + ((k : Nat) : Int) : Int) = ((2 * k : Nat) : Int) from by omega]
        refine Wl_v (r_slicen (l' := k) (h' := (2 * k)) (n' := (2 * k) - k) Tryz.underlying32 Tryz.sizeOf5 rfl rfl rfl (by omega) (by omega) (by omega) (by omega) (by omega)) ?_
        have hT78 := Sl.cutn (l := k) (n := (2 * k) - k) hsb (by omega)
        have hl_hT78 := ilen hT78
        have hc_hT78 := hT78.cap.1
        refine Wl_call (r_call2 rfl Tryz.call30 rfl rfl) (oenc_spec _ hs (by omega) hT78.any ((hb.drop _).take _) (by omega)) ?_
        rintro v w79 ⟨a79, m79, c79, rfl, hO79, hU79⟩
        have hzw79 := hU79.size
        replace hs := hs.upd0 hU79
        replace hsb := hsb.upd0 hU79
        replace HU := HU.trans0 hU79
        replace hO59 := hO59.upd0 hU79
        replace hS61 := hS61.upd0 hU79
        replace hOa61 := hOa61.upd0 hU79
        replace hOb61 := hOb61.upd0 hU79
        replace hOc61 := hOc61.upd0 hU79
        replace hOd61 := hOd61.upd0 hU79
        replace hO62 := hO62.upd0 hU79
        replace hO79 := hO79.tight
        have hl_hO79 := ilen hO79.sl
        have hc_hO79 := hO79.sl.cap.1
        replace hO79 := hO79.icong (show (ecF l ((b.drop k).take ((2 * k) - k))).1 = out l (pt b k (2 * k)) from (by rw [ecF_pt hr hH]))
        have hz_hO79 : m79 = (out l (pt b k (2 * k)) : List Int).length := (ilen hO79.sl).symm
        rw [show ((ecF l ((b.drop k).take ((2 * k) - k))).2 : Int) = 0 from (by rw [ecF_pt hr hH])]
        refine Wmv (.tuple #[.slice a79 m79 c79, .int .i64 0]) ?_
        refine Wl_v (r_ext (v := .slice a79 m79 c79) rfl rfl) ?_
        refine Wl_v (r_ext (v := .int .i64 0) rfl rfl) ?_
        refine Was (.slice a79 m79 c79) ?_
        refine Was (.int .i64 0) ?_
        refine Wl_nil (W_seq (W_seq (W_region ?_)))
        refine Wmv (.slice a79 m79 c79) ?_
        refine Wmv (.int .i64 0) ?_
        refine Wmv (.slice a61 4 c61) ?_
        refine Wmv (.int .i64 1) ?_
        refine Wl_idxc (i' := 1) (v := .slice jb61 kb61 qb61) Tryz.underlying41 Tryz.sizeOf32 rfl rfl (by first | rfl | omega) hS61.sl (by decide) rfl ?_
        intro ib80 io80 hc80
        refine Wl_loadc Tryz.isAgg32 rfl hc80 ?_
        refine Wl_bstr Tryz.underlying32 Tryz.underlying5 Tryz.underlying9 rfl hOb61.sl ?_
        refine Wl_call (r_call4 rfl Tryz.call19 rfl rfl rfl rfl) (is18 (y := out l (pt b k (2 * k))) _ hO79.sl.any (out_byt _ _) (out_byt _ _)) ?_
        rintro v w81 ⟨rfl, hU81⟩
        have hzw81 := hU81.size
        replace hs := hs.upd0 hU81
        replace hsb := hsb.upd0 hU81
        replace HU := HU.trans0 hU81
        replace hO59 := hO59.upd0 hU81
        replace hS61 := hS61.upd0 hU81
        replace hOa61 := hOa61.upd0 hU81
        replace hOb61 := hOb61.upd0 hU81
        replace hOc61 := hOc61.upd0 hU81
        replace hOd61 := hOd61.upd0 hU81
        replace hO62 := hO62.upd0 hU81
        refine Wl_v (r_not rfl) ?_
        refine Wl_nil ?_
        have q33 : ((out l (pt b k (2 * k))) : List Int) = (out l (pt b k (2 * k))) ∧ (0 : Int) = 0 := ⟨rfl, rfl⟩
        rw [decide_eq_true q33]
        simp only [Bool.not_true, Bool.not_false]
        refine W_cond_f rfl ?_
        refine W_skip (W_region ?_)
        refine Wmv (.int .i64 ((k : Nat) : Int)) ?_
        refine Wmv (.slice a62 4 c62) ?_
        refine Wmv (.int .i64 1) ?_
        refine Wl_idxi Tryz.underlying22 Tryz.sizeOf3 rfl rfl hO62 (by omega) (by omega) ?_
        intro ib82 io82 hc82
        rw [show (1 : Int).toNat = 1 from rfl] at hc82
        rw [show ([((k : Nat) : Int), ((k : Nat) : Int), ((k : Nat) : Int), ((r : Nat) : Int)] : List Int).getD 1 0 = ((k : Nat) : Int) from rfl] at hc82
        refine Wl_loadc Tryz.isAgg3 rfl hc82 ?_
        refine Wl_v (r_add rfl rfl (wi64 (by omega) (by omega))) ?_
        rw [show (((k : Nat) : Int) + ((k : Nat) : Int) : Int) = ((2 * k : Nat) : Int) from by omega]
        refine Was (.int .i64 ((2 * k : Nat) : Int)) ?_
        refine Wl_nil (W_region ?_)
        refine Wmv (.int .i64 1) ?_
        refine Wl_v (r_add rfl rfl (show _ = (2 : Int) from by decide)) ?_
        refine Was (.int .i64 2) ?_
        refine Wl_nil ?_
        refine unrK_succ ?_
        refine W_seq (W_seq (W_region ?_))
        refine Wmv (.int .i64 2) ?_
        refine Wl_v (v := .bool true) (r_lt (a := 2) (b := 4) rfl rfl) ?_
        refine Wl_nil ?_
        refine W_cond_t rfl ?_
        refine W_skip (W_seq (W_block (W_seq (W_seq (W_region ?_)))))
        refine Wmv (.slice a62 4 c62) ?_
        refine Wmv (.int .i64 2) ?_
        refine Wl_idxi Tryz.underlying22 Tryz.sizeOf3 rfl rfl hO62 (by omega) (by omega) ?_
        intro ib83 io83 hc83
        rw [show (2 : Int).toNat = 2 from rfl] at hc83
        rw [show ([((k : Nat) : Int), ((k : Nat) : Int), ((k : Nat) : Int), ((r : Nat) : Int)] : List Int).getD 2 0 = ((k : Nat) : Int) from rfl] at hc83
        refine Wl_loadc Tryz.isAgg3 rfl hc83 ?_
        refine Wl_v (r_lt rfl rfl) ?_
        refine Wmv (.bool (decide (((k : Nat) : Int) < 1))) ?_
        have q34 : ¬ (((k : Nat) : Int) < 1) := (by omega)
        rw [decide_eq_false q34]
        refine Wl_guard_t rfl ?_
        refine Wmv (.int .i64 ((2 * k : Nat) : Int)) ?_
        refine Wl_guard_t rfl ?_
        refine Wmv (.slice a62 4 c62) ?_
        refine Wl_guard_t rfl ?_
        refine Wmv (.int .i64 2) ?_
        refine Wl_guard_t rfl ?_
        refine Wl_idxi Tryz.underlying22 Tryz.sizeOf3 rfl rfl hO62 (by omega) (by omega) ?_
        intro ib84 io84 hc84
        rw [show (2 : Int).toNat = 2 from rfl] at hc84
        rw [show ([((k : Nat) : Int), ((k : Nat) : Int), ((k : Nat) : Int), ((r : Nat) : Int)] : List Int).getD 2 0 = ((k : Nat) : Int) from rfl] at hc84
        refine Wl_guard_t rfl ?_
        refine Wl_loadc Tryz.isAgg3 rfl hc84 ?_
        refine Wl_guard_t rfl ?_
        refine Wl_v (r_add rfl rfl (wi64 (by omega) (by omega))) ?_
        rw [show (((2 * k : Nat) : Int) + ((k : Nat) : Int) : Int) = ((3 * k : Nat) : Int) from by omega]
        refine Wl_guard_t rfl ?_
        refine Wmv (.slice a2 m d) ?_
        refine Wl_guard_t rfl ?_
        refine Wl_v (r_len Tryz.underlying32 rfl) ?_
        refine Wl_guard_t rfl ?_
        refine Wl_v (r_gt rfl rfl) ?_
        refine Wl_v (r_pick_f (v := .bool (decide (((m : Nat) : Int) < ((3 * k : Nat) : Int)))) rfl rfl) ?_
        refine Wl_nil ?_
        have q35 : ¬ (((m : Nat) : Int) < ((3 * k : Nat) : Int)) := (by omega)
        rw [decide_eq_false q35]
        refine W_cond_f rfl ?_
        refine W_skip (W_seq (W_region ?_))
        refine Wmv (.slice a n c) ?_
        refine Wmv (.slice a2 m d) ?_
        refine Wmv (.int .i64 ((2 * k : Nat) : Int)) ?_
        refine Wmv (.int .i64 ((2 * k : Nat) : Int)) ?_
        refine Wmv (.slice a62 4 c62) ?_
        refine Wmv (.int .i64 2) ?_
        refine Wl_idxi Tryz.underlying22 Tryz.sizeOf3 rfl rfl hO62 (by omega) (by omega) ?_
        intro ib85 io85 hc85
        rw [show (2 : Int).toNat = 2 from rfl] at hc85
        rw [show ([((k : Nat) : Int), ((k : Nat) : Int), ((k : Nat) : Int), ((r : Nat) : Int)] : List Int).getD 2 0 = ((k : Nat) : Int) from rfl] at hc85
        refine Wl_loadc Tryz.isAgg3 rfl hc85 ?_
        refine Wl_v (r_add rfl rfl (wi64 (by omega) (by omega))) ?_
        rw [show (((2 * k : Nat) : Int) + ((k : Nat) : Int) : Int) = ((3 * k : Nat) : Int) from by omega]
        refine Wl_v (r_slicen (l' := (2 * k)) (h' := (3 * k)) (n' := (3 * k) - (2 * k)) Tryz.underlying32 Tryz.sizeOf5 rfl rfl rfl (by omega) (by omega) (by omega) (by omega) (by omega)) ?_
        have hT86 := Sl.cutn (l := (2 * k)) (n := (3 * k) - (2 * k)) hsb (by omega)
        have hl_hT86 := ilen hT86
        have hc_hT86 := hT86.cap.1
        refine Wl_call (r_call2 rfl Tryz.call30 rfl rfl) (oenc_spec _ hs (by omega) hT86.any ((hb.drop _).take _) (by omega)) ?_
        rintro v w87 ⟨a87, m87, c87, rfl, hO87, hU87⟩
        have hzw87 := hU87.size
        replace hs := hs.upd0 hU87
        replace hsb := hsb.upd0 hU87
        replace HU := HU.trans0 hU87
        replace hO59 := hO59.upd0 hU87
        replace hS61 := hS61.upd0 hU87
        replace hOa61 := hOa61.upd0 hU87
        replace hOb61 := hOb61.upd0 hU87
        replace hOc61 := hOc61.upd0 hU87
        replace hOd61 := hOd61.upd0 hU87
        replace hO62 := hO62.upd0 hU87
        replace hO87 := hO87.tight
        have hl_hO87 := ilen hO87.sl
        have hc_hO87 := hO87.sl.cap.1
        replace hO87 := hO87.icong (show (ecF l ((b.drop (2 * k)).take ((3 * k) - (2 * k)))).1 = out l (pt b (2 * k) (3 * k)) from (by rw [ecF_pt hr hH]))
        have hz_hO87 : m87 = (out l (pt b (2 * k) (3 * k)) : List Int).length := (ilen hO87.sl).symm
        rw [show ((ecF l ((b.drop (2 * k)).take ((3 * k) - (2 * k)))).2 : Int) = 0 from (by rw [ecF_pt hr hH])]
        refine Wmv (.tuple #[.slice a87 m87 c87, .int .i64 0]) ?_
        refine Wl_v (r_ext (v := .slice a87 m87 c87) rfl rfl) ?_
        refine Wl_v (r_ext (v := .int .i64 0) rfl rfl) ?_
        refine Was (.slice a87 m87 c87) ?_
        refine Was (.int .i64 0) ?_
        refine Wl_nil (W_seq (W_seq (W_region ?_)))
        refine Wmv (.slice a87 m87 c87) ?_
        refine Wmv (.int .i64 0) ?_
        refine Wmv (.slice a61 4 c61) ?_
        refine Wmv (.int .i64 2) ?_
        refine Wl_idxc (i' := 2) (v := .slice jc61 kc61 qc61) Tryz.underlying41 Tryz.sizeOf32 rfl rfl (by first | rfl | omega) hS61.sl (by decide) rfl ?_
        intro ib88 io88 hc88
        refine Wl_loadc Tryz.isAgg32 rfl hc88 ?_
        refine Wl_bstr Tryz.underlying32 Tryz.underlying5 Tryz.underlying9 rfl hOc61.sl ?_
        refine Wl_call (r_call4 rfl Tryz.call19 rfl rfl rfl rfl) (is18 (y := out l (pt b (2 * k) (3 * k))) _ hO87.sl.any (out_byt _ _) (out_byt _ _)) ?_
        rintro v w89 ⟨rfl, hU89⟩
        have hzw89 := hU89.size
        replace hs := hs.upd0 hU89
        replace hsb := hsb.upd0 hU89
        replace HU := HU.trans0 hU89
        replace hO59 := hO59.upd0 hU89
        replace hS61 := hS61.upd0 hU89
        replace hOa61 := hOa61.upd0 hU89
        replace hOb61 := hOb61.upd0 hU89
        replace hOc61 := hOc61.upd0 hU89
        replace hOd61 := hOd61.upd0 hU89
        replace hO62 := hO62.upd0 hU89
        refine Wl_v (r_not rfl) ?_
        refine Wl_nil ?_
        have q36 : ((out l (pt b (2 * k) (3 * k))) : List Int) = (out l (pt b (2 * k) (3 * k))) ∧ (0 : Int) = 0 := ⟨rfl, rfl⟩
        rw [decide_eq_true q36]
        simp only [Bool.not_true, Bool.not_false]
        refine W_cond_f rfl ?_
        refine W_skip (W_region ?_)
        refine Wmv (.int .i64 ((2 * k : Nat) : Int)) ?_
        refine Wmv (.slice a62 4 c62) ?_
        refine Wmv (.int .i64 2) ?_
        refine Wl_idxi Tryz.underlying22 Tryz.sizeOf3 rfl rfl hO62 (by omega) (by omega) ?_
        intro ib90 io90 hc90
        rw [show (2 : Int).toNat = 2 from rfl] at hc90
        rw [show ([((k : Nat) : Int), ((k : Nat) : Int), ((k : Nat) : Int), ((r : Nat) : Int)] : List Int).getD 2 0 = ((k : Nat) : Int) from rfl] at hc90
        refine Wl_loadc Tryz.isAgg3 rfl hc90 ?_
        refine Wl_v (r_add rfl rfl (wi64 (by omega) (by omega))) ?_
        rw [show (((2 * k : Nat) : Int) + ((k : Nat) : Int) : Int) = ((3 * k : Nat) : Int) from by omega]
        refine Was (.int .i64 ((3 * k : Nat) : Int)) ?_
        refine Wl_nil (W_region ?_)
        refine Wmv (.int .i64 2) ?_
        refine Wl_v (r_add rfl rfl (show _ = (3 : Int) from by decide)) ?_
        refine Was (.int .i64 3) ?_
        refine Wl_nil ?_
        refine unrK_succ ?_
        refine W_seq (W_seq (W_region ?_))
        refine Wmv (.int .i64 3) ?_
        refine Wl_v (v := .bool true) (r_lt (a := 3) (b := 4) rfl rfl) ?_
        refine Wl_nil ?_
        refine W_cond_t rfl ?_
        refine W_skip (W_seq (W_block (W_seq (W_seq (W_region ?_)))))
        refine Wmv (.slice a62 4 c62) ?_
        refine Wmv (.int .i64 3) ?_
        refine Wl_idxi Tryz.underlying22 Tryz.sizeOf3 rfl rfl hO62 (by omega) (by omega) ?_
        intro ib91 io91 hc91
        rw [show (3 : Int).toNat = 3 from rfl] at hc91
        rw [show ([((k : Nat) : Int), ((k : Nat) : Int), ((k : Nat) : Int), ((r : Nat) : Int)] : List Int).getD 3 0 = ((r : Nat) : Int) from rfl] at hc91
        refine Wl_loadc Tryz.isAgg3 rfl hc91 ?_
        refine Wl_v (r_lt rfl rfl) ?_
        refine Wmv (.bool (decide (((r : Nat) : Int) < 1))) ?_
        have q37 : ¬ (((r : Nat) : Int) < 1) := (by omega)
        rw [decide_eq_false q37]
        refine Wl_guard_t rfl ?_
        refine Wmv (.int .i64 ((3 * k : Nat) : Int)) ?_
        refine Wl_guard_t rfl ?_
        refine Wmv (.slice a62 4 c62) ?_
        refine Wl_guard_t rfl ?_
        refine Wmv (.int .i64 3) ?_
        refine Wl_guard_t rfl ?_
        refine Wl_idxi Tryz.underlying22 Tryz.sizeOf3 rfl rfl hO62 (by omega) (by omega) ?_
        intro ib92 io92 hc92
        rw [show (3 : Int).toNat = 3 from rfl] at hc92
        rw [show ([((k : Nat) : Int), ((k : Nat) : Int), ((k : Nat) : Int), ((r : Nat) : Int)] : List Int).getD 3 0 = ((r : Nat) : Int) from rfl] at hc92
        refine Wl_guard_t rfl ?_
        refine Wl_loadc Tryz.isAgg3 rfl hc92 ?_
        refine Wl_guard_t rfl ?_
        refine Wl_v (r_add rfl rfl (wi64 (by omega) (by omega))) ?_
        rw [show (((3 * k : Nat) : Int) + ((r : Nat) : Int) : Int) = ((3 * k + r : Nat) : Int) from by omega]
        refine Wl_guard_t rfl ?_
        refine Wmv (.slice a2 m d) ?_
        refine Wl_guard_t rfl ?_
        refine Wl_v (r_len Tryz.underlying32 rfl) ?_
        refine Wl_guard_t rfl ?_
        refine Wl_v (r_gt rfl rfl) ?_
        refine Wl_v (r_pick_f (v := .bool (decide (((m : Nat) : Int) < ((3 * k + r : Nat) : Int)))) rfl rfl) ?_
        refine Wl_nil ?_
        have q38 : ¬ (((m : Nat) : Int) < ((3 * k + r : Nat) : Int)) := (by omega)
        rw [decide_eq_false q38]
        refine W_cond_f rfl ?_
        refine W_skip (W_seq (W_region ?_))
        refine Wmv (.slice a n c) ?_
        refine Wmv (.slice a2 m d) ?_
        refine Wmv (.int .i64 ((3 * k : Nat) : Int)) ?_
        refine Wmv (.int .i64 ((3 * k : Nat) : Int)) ?_
        refine Wmv (.slice a62 4 c62) ?_
        refine Wmv (.int .i64 3) ?_
        refine Wl_idxi Tryz.underlying22 Tryz.sizeOf3 rfl rfl hO62 (by omega) (by omega) ?_
        intro ib93 io93 hc93
        rw [show (3 : Int).toNat = 3 from rfl] at hc93
        rw [show ([((k : Nat) : Int), ((k : Nat) : Int), ((k : Nat) : Int), ((r : Nat) : Int)] : List Int).getD 3 0 = ((r : Nat) : Int) from rfl] at hc93
        refine Wl_loadc Tryz.isAgg3 rfl hc93 ?_
        refine Wl_v (r_add rfl rfl (wi64 (by omega) (by omega))) ?_
        rw [show (((3 * k : Nat) : Int) + ((r : Nat) : Int) : Int) = ((3 * k + r : Nat) : Int) from by omega]
        refine Wl_v (r_slicen (l' := (3 * k)) (h' := (3 * k + r)) (n' := (3 * k + r) - (3 * k)) Tryz.underlying32 Tryz.sizeOf5 rfl rfl rfl (by omega) (by omega) (by omega) (by omega) (by omega)) ?_
        have hT94 := Sl.cutn (l := (3 * k)) (n := (3 * k + r) - (3 * k)) hsb (by omega)
        have hl_hT94 := ilen hT94
        have hc_hT94 := hT94.cap.1
        refine Wl_call (r_call2 rfl Tryz.call30 rfl rfl) (oenc_spec _ hs (by omega) hT94.any ((hb.drop _).take _) (by omega)) ?_
        rintro v w95 ⟨a95, m95, c95, rfl, hO95, hU95⟩
        have hzw95 := hU95.size
        replace HU := HU.trans0 hU95
        replace hO59 := hO59.upd0 hU95
        replace hS61 := hS61.upd0 hU95
        replace hOa61 := hOa61.upd0 hU95
        replace hOb61 := hOb61.upd0 hU95
        replace hOc61 := hOc61.upd0 hU95
        replace hOd61 := hOd61.upd0 hU95
        replace hO62 := hO62.upd0 hU95
        replace hO95 := hO95.tight
        have hl_hO95 := ilen hO95.sl
        have hc_hO95 := hO95.sl.cap.1
        replace hO95 := hO95.icong (show (ecF l ((b.drop (3 * k)).take ((3 * k + r) - (3 * k)))).1 = out l (pt b (3 * k) (3 * k + r)) from (by rw [ecF_pt hr hH]))
        have hz_hO95 : m95 = (out l (pt b (3 * k) (3 * k + r)) : List Int).length := (ilen hO95.sl).symm
        rw [show ((ecF l ((b.drop (3 * k)).take ((3 * k + r) - (3 * k)))).2 : Int) = 0 from (by rw [ecF_pt hr hH])]
        refine Wmv (.tuple #[.slice a95 m95 c95, .int .i64 0]) ?_
        refine Wl_v (r_ext (v := .slice a95 m95 c95) rfl rfl) ?_
        refine Wl_v (r_ext (v := .int .i64 0) rfl rfl) ?_
        refine Was (.slice a95 m95 c95) ?_
        refine Was (.int .i64 0) ?_
        refine Wl_nil (W_seq (W_seq (W_region ?_)))
        refine Wmv (.slice a95 m95 c95) ?_
        refine Wmv (.int .i64 0) ?_
        refine Wmv (.slice a61 4 c61) ?_
        refine Wmv (.int .i64 3) ?_
        refine Wl_idxc (i' := 3) (v := .slice jd61 kd61 qd61) Tryz.underlying41 Tryz.sizeOf32 rfl rfl (by first | rfl | omega) hS61.sl (by decide) rfl ?_
        intro ib96 io96 hc96
        refine Wl_loadc Tryz.isAgg32 rfl hc96 ?_
        refine Wl_bstr Tryz.underlying32 Tryz.underlying5 Tryz.underlying9 rfl hOd61.sl ?_
        refine Wl_call (r_call4 rfl Tryz.call19 rfl rfl rfl rfl) (is18 (y := out l (pt b (3 * k) (3 * k + r))) _ hO95.sl.any (out_byt _ _) (out_byt _ _)) ?_
        rintro v w97 ⟨rfl, hU97⟩
        have hzw97 := hU97.size
        replace HU := HU.trans0 hU97
        replace hO59 := hO59.upd0 hU97
        replace hS61 := hS61.upd0 hU97
        replace hOa61 := hOa61.upd0 hU97
        replace hOb61 := hOb61.upd0 hU97
        replace hOc61 := hOc61.upd0 hU97
        replace hOd61 := hOd61.upd0 hU97
        replace hO62 := hO62.upd0 hU97
        refine Wl_v (r_not rfl) ?_
        refine Wl_nil ?_
        have q39 : ((out l (pt b (3 * k) (3 * k + r))) : List Int) = (out l (pt b (3 * k) (3 * k + r))) ∧ (0 : Int) = 0 := ⟨rfl, rfl⟩
        rw [decide_eq_true q39]
        simp only [Bool.not_true, Bool.not_false]
        refine W_cond_f rfl ?_
        refine W_skip (W_region ?_)
        refine Wmv (.int .i64 ((3 * k : Nat) : Int)) ?_
        refine Wmv (.slice a62 4 c62) ?_
        refine Wmv (.int .i64 3) ?_
        refine Wl_idxi Tryz.underlying22 Tryz.sizeOf3 rfl rfl hO62 (by omega) (by omega) ?_
        intro ib98 io98 hc98
        rw [show (3 : Int).toNat = 3 from rfl] at hc98
        rw [show ([((k : Nat) : Int), ((k : Nat) : Int), ((k : Nat) : Int), ((r : Nat) : Int)] : List Int).getD 3 0 = ((r : Nat) : Int) from rfl] at hc98
        refine Wl_loadc Tryz.isAgg3 rfl hc98 ?_
        refine Wl_v (r_add rfl rfl (wi64 (by omega) (by omega))) ?_
        rw [show (((3 * k : Nat) : Int) + ((r : Nat) : Int) : Int) = ((3 * k + r : Nat) : Int) from by omega]
        refine Was (.int .i64 ((3 * k + r : Nat) : Int)) ?_
        refine Wl_nil (W_region ?_)
        refine Wmv (.int .i64 3) ?_
        refine Wl_v (r_add rfl rfl (show _ = (4 : Int) from by decide)) ?_
        refine Was (.int .i64 4) ?_
        refine Wl_nil ?_
        refine unrK_succ ?_
        refine W_seq (W_seq (W_region ?_))
        refine Wmv (.int .i64 4) ?_
        refine Wl_v (v := .bool false) (r_lt (a := 4) (b := 4) rfl rfl) ?_
        refine Wl_nil ?_
        refine W_cond_f rfl ?_
        refine W_exit ?_
        refine W_seq (W_region ?_)
        refine Wmv (.slice a61 4 c61) ?_
        refine Wl_call (r_call1 rfl Tryz.call21 rfl) (fjoin_ok _ hS61.sl hOa61.sl.any hOb61.sl.any hOc61.sl.any hOd61.sl.any (by omega) (by omega)) ?_
        rintro v w99 ⟨a99, m99, c99, rfl, hO99, hU99⟩
        have hzw99 := hU99.size
        replace HU := HU.trans0 hU99
        replace hO59 := hO59.upd0 hU99
        replace hO99 := hO99.tight
        have hl_hO99 := ilen hO99.sl
        have hc_hO99 := hO99.sl.cap.1
        replace hO99 := hO99.icong (show jn (out l (pt b 0 k)) (out l (pt b k (2 * k))) (out l (pt b (2 * k) (3 * k))) (out l (pt b (3 * k) (3 * k + r))) = sA from hB.2.1.symm)
        have hz_hO99 : m99 = (sA : List Int).length := (ilen hO99.sl).symm
        refine Wmv (.tuple #[.slice a99 m99 c99, .int .i64 0]) ?_
        refine Wl_v (r_ext (v := .slice a99 m99 c99) rfl rfl) ?_
        refine Wl_v (r_ext (v := .int .i64 0) rfl rfl) ?_
        refine Was (.slice a99 m99 c99) ?_
        refine Was (.int .i64 0) ?_
        refine Wl_nil (W_seq (W_region ?_))
        refine Wmv (.int .i64 ((3 * k + r : Nat) : Int)) ?_
        refine Wmv (.slice a2 m d) ?_
        refine Wl_v (r_len Tryz.underlying32 rfl) ?_
        refine Wl_v (r_eq rfl rfl) ?_
        refine Wmv (.bool (decide (((3 * k + r : Nat) : Int) = ((m : Nat) : Int)))) ?_
        have q40 : ((3 * k + r : Nat) : Int) = ((m : Nat) : Int) := (by omega)
        rw [decide_eq_true q40]
        refine Wl_guard_t rfl ?_
        refine Wmv (.slice a99 m99 c99) ?_
        refine Wl_guard_t rfl ?_
        refine Wmv (.int .i64 0) ?_
        refine Wl_guard_t rfl ?_
        refine Wmv (.slice a59 m59 c59) ?_
        refine Wl_guard_t rfl ?_
        refine Wl_bstr Tryz.underlying32 Tryz.underlying5 Tryz.underlying9 rfl hO59.sl ?_
        refine Wl_guard_t rfl ?_
        refine Wl_call (r_call4 rfl Tryz.call19 rfl rfl rfl rfl) (is18 (y := sA) _ hO99.sl.any hAb hAb) ?_
        rintro v w100 ⟨rfl, hU100⟩
        have hzw100 := hU100.size
        replace HU := HU.trans0 hU100
        refine Wl_v (r_pick_t (v := .bool (decide ((sA : List Int) = sA ∧ (0 : Int) = 0))) rfl rfl) ?_
        refine Wmv (.bool (decide ((sA : List Int) = sA ∧ (0 : Int) = 0))) ?_
        have q41 : (sA : List Int) = sA ∧ (0 : Int) = 0 := ⟨rfl, rfl⟩
        rw [decide_eq_true q41]
        refine Wl_guard_t rfl ?_
        refine Wl_call (r_call0 rfl Tryz.call16 ) (works18 _ ) ?_
        rintro v w101 ⟨rfl, hU101⟩
        have hzw101 := hU101.size
        replace HU := HU.trans0 hU101
        refine Wl_v (r_pick_t (v := .bool true) rfl rfl) ?_
        refine Was (.bool true) ?_
        refine Wl_nil ?_
        refine W_ret ?_
        refine ret_end (v := .bool true) rfl (res1 Tryz.results9 rfl) ?_
        exact ⟨_, rfl, rfl, HU⟩
       ·refine Wl_call (r_call1 rfl Tryz.call13 rfl) (splt_f (n := ((m : Nat) : Int)) _ q26) ?_
        rintro v w102 ⟨rfl, hU102⟩
        have hzw102 := hU102.size
        replace HU := HU.trans0 hU102
        refine Wl_guard_t rfl ?_
        refine Wl_v (r_not (b := false) rfl) ?_
        refine Wl_v (r_pick_f (v := .bool true) rfl rfl) ?_
        refine Wl_nil ?_
        refine W_cond_t rfl ?_
        refine W_seq (W_region ?_)
        refine Wl_call (r_call0 rfl Tryz.call16 ) (works18 _ ) ?_
        rintro v w103 ⟨rfl, hU103⟩
        have hzw103 := hU103.size
        replace HU := HU.trans0 hU103
        refine Was (.bool true) ?_
        refine Wl_nil ?_
        refine W_ret ?_
        refine ret_end (v := .bool true) rfl (res1 Tryz.results9 rfl) ?_
        exact ⟨_, rfl, rfl, HU⟩
      ·rw [decide_eq_false q25]
       simp only [Bool.not_true, Bool.not_false]
       refine Wl_guard_f rfl (Wl_guard_f rfl (Wl_guard_f rfl (Wl_guard_f rfl ?_)))
       refine Wl_v (r_pick_t (v := .bool true) rfl rfl) ?_
       refine Wl_nil ?_
       refine W_cond_t rfl ?_
       refine W_seq (W_region ?_)
       refine Wl_call (r_call0 rfl Tryz.call16 ) (works18 _ ) ?_
       rintro v w104 ⟨rfl, hU104⟩
       have hzw104 := hU104.size
       replace HU := HU.trans0 hU104
       refine Was (.bool true) ?_
       refine Wl_nil ?_
       refine W_ret ?_
       refine ret_end (v := .bool true) rfl (res1 Tryz.results9 rfl) ?_
       exact ⟨_, rfl, rfl, HU⟩
    ·rw [decide_eq_false q4]
     simp only [Bool.not_true, Bool.not_false]
     refine W_cond_t rfl ?_
     refine W_seq (W_region ?_)
     refine Wl_call (r_call0 rfl Tryz.call16 ) (works18 _ ) ?_
     rintro v w105 ⟨rfl, hU105⟩
     have hzw105 := hU105.size
     replace HU := HU.trans0 hU105
     refine Was (.bool true) ?_
     refine Wl_nil ?_
     refine W_ret ?_
     refine ret_end (v := .bool true) rfl (res1 Tryz.results9 rfl) ?_
     exact ⟨_, rfl, rfl, HU⟩
end Go.Proofs.YtdppageondgjkaaGreat
