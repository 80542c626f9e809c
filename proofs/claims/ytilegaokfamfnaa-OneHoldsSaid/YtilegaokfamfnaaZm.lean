/-
 Walks, printed by a small program of this project (gen.py).
-/
import Derived.Test.YtilegaokfamfnaaZl
import Derived.Test.YtilegaokfamfnaaZk
set_option linter.unusedVariables false
set_option linter.unusedSimpArgs false
namespace Go.Proofs.Ytilegaokfamfnaa
open Go.Fw

theorem ecF_byt (l b : List Int) : Byt (ecF l b).1 := by
 unfold ecF
 split
 ·exact byt_nil
 ·split
  ·exact byt_nil
  ·exact out_byt l b
theorem dcF_byt (l b : List Int) (n : Int) : Byt (dcF l b n).1 := by
 unfold dcF
 split
 ·exact byt_nil
 ·next hr =>
  split
  ·exact byt_nil
  ·split
   ·exact byt_nil
   ·split
    ·next h => exact yms_byt (Classical.not_not.1 hr) h.1
    ·exact byt_nil
theorem pfF_byt (l b : List Int) (n : Int) : Byt (pfF l b n).1 := by
 unfold pfF
 split
 ·exact byt_nil
 ·next hr =>
  split
  ·exact byt_nil
  ·split
   ·exact byt_nil
   ·split
    ·next h => exact yms_byt (Classical.not_not.1 hr) h
    ·exact byt_nil

set_option maxHeartbeats 2000000 in
set_option maxRecDepth 100000 in
theorem oneencodes {a a2 : Option Addr} {n c m d : Nat} {l b : List Int} (w : World) (hs : Sl w (fun g => g < w.heap.size) 1 (.slice a n c) n (ints .i64 l)) (hn : n ≤ 17592186044415) (hsb : Sl w (fun g => g < w.heap.size) 1 (.slice a2 m d) m (ints .u8 b)) (hb : Byt b) (hm : m ≤ 140737488351232) :
  Calls Try.prog 3 #[.slice a n c, .slice a2 m d] w (Ret fun v w' => v = .bool true ∧ Upd No w w') := by
 have HU : Upd (fun b => False) w w := Upd.refl _ _
 have hl_hs := ilen hs
 have hc_hs := hs.cap.1
 have hl_hsb := ilen hsb
 have hc_hsb := hsb.cap.1
 refine calls_of_W Try.func3 rfl Try.ntmps3 (by simp) ?_
 refine W_seq ?_
 refine W_region ?_
 refine Wl_v (r_as (v := .bool false) rfl) ?_
 refine Wl_nil ?_
 refine W_seq ?_
 refine W_seq ?_
 refine W_region ?_
 refine Wl_v (r_mv (v := .slice a n c) rfl) ?_
 refine Wl_v (r_len Try.underlying22 rfl) ?_
 refine Wl_v (r_gt rfl rfl) ?_
 refine Wl_v (r_mv (v := .bool (decide (300 < ((n : Nat) : Int)))) rfl) ?_
 by_cases q1 : 300 < ((n : Nat) : Int)
 ·rw [decide_eq_true q1]
  refine Wl_guard_f rfl ?_
  refine Wl_guard_f rfl ?_
  refine Wl_guard_f rfl ?_
  refine Wl_v (r_pick_t (v := .bool true) rfl rfl) ?_
  refine Wl_nil ?_
  refine W_cond_t rfl ?_
  refine W_seq ?_
  refine W_region ?_
  refine Wl_call (r_call0 rfl Try.call11 ) (works17 _ ) ?_
  rintro v w1 ⟨rfl, hU1⟩
  have hzw1 := hU1.size
  replace HU := HU.trans0 hU1
  refine Wl_v (r_as (v := .bool true) rfl) ?_
  refine Wl_nil ?_
  refine W_ret ?_
  refine ret_end (v := .bool true) rfl (res1 Try.results3 rfl) ?_
  exact ⟨_, rfl, rfl, HU⟩
 ·rw [decide_eq_false q1]
  refine Wl_guard_t rfl ?_
  refine Wl_v (r_mv (v := .slice a2 m d) rfl) ?_
  refine Wl_guard_t rfl ?_
  refine Wl_v (r_len Try.underlying23 rfl) ?_
  refine Wl_guard_t rfl ?_
  refine Wl_v (r_gt rfl rfl) ?_
  refine Wl_v (r_pick_f (v := .bool (decide (300 < ((m : Nat) : Int)))) rfl rfl) ?_
  refine Wl_nil ?_
  by_cases q2 : 300 < ((m : Nat) : Int)
  ·rw [decide_eq_true q2]
   refine W_cond_t rfl ?_
   refine W_seq ?_
   refine W_region ?_
   refine Wl_call (r_call0 rfl Try.call11 ) (works17 _ ) ?_
   rintro v w2 ⟨rfl, hU2⟩
   have hzw2 := hU2.size
   replace HU := HU.trans0 hU2
   refine Wl_v (r_as (v := .bool true) rfl) ?_
   refine Wl_nil ?_
   refine W_ret ?_
   refine ret_end (v := .bool true) rfl (res1 Try.results3 rfl) ?_
   exact ⟨_, rfl, rfl, HU⟩
  ·rw [decide_eq_false q2]
   refine W_cond_f rfl ?_
   refine W_skip ?_
   refine W_seq ?_
   refine W_region ?_
   refine Wl_lit0 Try.underlying23 Try.sizeOf5 ?_
   intro B3 w3 hB3 hU3 hzz3 hs3
   have hzw3 := hU3.size
   replace hs := hs.upd0 hU3
   replace hsb := hsb.upd0 hU3
   replace HU := HU.trans0 hU3
   refine Wl_v (r_mv (v := .slice a2 m d) rfl) ?_
   refine Wl_appendi (xs := []) (ys := b) (zs := b) (k' := .u8) (tot := m) (by first | rfl | exact (rows_app _ _).symm | simp) Try.underlying23 (ti := Try.t5) (z := .int .u8 0) (sz := 1) (by' := 1) rfl rfl rfl rfl rfl (by decide) rfl hs3 rfl hsb  (by omega) (by simp only [maxLen]; omega) (by omega) ?_
   intro a4 c4 w4 hU4 hzz4 hO4
   clear hs3
   have hzw4 := hU4.size
   replace hs := hs.upd hU4 (by intro x h1 h2; have h3 : x < w.heap.size := h1; have h4 : x = B3 := h2; omega)
   replace hsb := hsb.upd hU4 (by intro x h1 h2; have h3 : x < w.heap.size := h1; have h4 : x = B3 := h2; omega)
   replace HU := HU.trans hU4 (by intro x hx; have hx2 : x = B3 := hx; show (False) ∨ w.heap.size ≤ x; omega)
   replace hO4 := hO4.tight
   have hl_hO4 := ilen hO4.sl
   have hc_hO4 := hO4.sl.cap.1
   refine Wl_v (r_as (v := .slice a4 m c4) rfl) ?_
   refine Wl_nil ?_
   refine W_seq ?_
   refine W_region ?_
   refine Wl_v (r_mv (v := .slice a n c) rfl) ?_
   refine Wl_v (r_mv (v := .slice a4 m c4) rfl) ?_
   refine Wl_call (r_call2 rfl Try.call12 rfl rfl) (oenc_spec _ hs (by omega) hO4.sl.any hb (by omega)) ?_
   rintro v w5 ⟨a5, m5, c5, rfl, hO5, hU5⟩
   have hzw5 := hU5.size
   replace hs := hs.upd0 hU5
   replace hsb := hsb.upd0 hU5
   replace HU := HU.trans0 hU5
   replace hO4 := hO4.upd0 hU5
   replace hO5 := hO5.tight
   have hl_hO5 := ilen hO5.sl
   have hc_hO5 := hO5.sl.cap.1
   refine Wl_v (r_mv (v := .tuple #[.slice a5 m5 c5, .int .i64 ((ecF l b).2)]) rfl) ?_
   refine Wl_v (r_ext (v := .slice a5 m5 c5) rfl rfl) ?_
   refine Wl_v (r_ext (v := .int .i64 ((ecF l b).2)) rfl rfl) ?_
   refine Wl_v (r_as (v := .slice a5 m5 c5) rfl) ?_
   refine Wl_v (r_as (v := .int .i64 ((ecF l b).2)) rfl) ?_
   refine Wl_nil ?_
   refine W_seq ?_
   refine W_region ?_
   refine Wl_v (r_mv (v := .slice a n c) rfl) ?_
   refine Wl_v (r_mv (v := .slice a2 m d) rfl) ?_
   refine Wl_call (r_call2 rfl Try.call13 rfl rfl) (renc_spec _ hs (by omega) hsb.any hb (by omega)) ?_
   rintro v w6 ⟨a6, m6, c6, rfl, hO6, hU6⟩
   have hzw6 := hU6.size
   replace hsb := hsb.upd0 hU6
   replace HU := HU.trans0 hU6
   replace hO4 := hO4.upd0 hU6
   replace hO5 := hO5.upd0 hU6
   replace hO6 := hO6.tight
   have hl_hO6 := ilen hO6.sl
   have hc_hO6 := hO6.sl.cap.1
   refine Wl_v (r_mv (v := .tuple #[.slice a6 m6 c6, .int .i64 ((ecF l b).2)]) rfl) ?_
   refine Wl_v (r_ext (v := .slice a6 m6 c6) rfl rfl) ?_
   refine Wl_v (r_ext (v := .int .i64 ((ecF l b).2)) rfl rfl) ?_
   refine Wl_v (r_as (v := .slice a6 m6 c6) rfl) ?_
   refine Wl_v (r_as (v := .int .i64 ((ecF l b).2)) rfl) ?_
   refine Wl_nil ?_
   refine W_seq ?_
   refine W_region ?_
   refine Wl_v (r_mv (v := .slice a5 m5 c5) rfl) ?_
   refine Wl_v (r_mv (v := .int .i64 ((ecF l b).2)) rfl) ?_
   refine Wl_v (r_mv (v := .slice a6 m6 c6) rfl) ?_
   refine Wl_bstr Try.underlying23 Try.underlying5 Try.underlying9 rfl hO6.sl ?_
   refine Wl_v (r_mv (v := .int .i64 ((ecF l b).2)) rfl) ?_
   refine Wl_call (r_call4 rfl Try.call14 rfl rfl rfl rfl) (is17 (y := (ecF l b).1) _ hO5.sl.any (ecF_byt _ _) (ecF_byt _ _)) ?_
   rintro v w7 ⟨rfl, hU7⟩
   have hzw7 := hU7.size
   replace hsb := hsb.upd0 hU7
   replace HU := HU.trans0 hU7
   replace hO4 := hO4.upd0 hU7
   refine Wl_v (r_mv (v := .bool (decide ((((ecF l b).1) : List Int) = ((ecF l b).1) ∧ (((ecF l b).2) : Int) = ((ecF l b).2)))) rfl) ?_
   have q3 : (((ecF l b).1) : List Int) = ((ecF l b).1) ∧ (((ecF l b).2) : Int) = ((ecF l b).2) := ⟨rfl, rfl⟩
   rw [decide_eq_true q3]
   refine Wl_guard_t rfl ?_
   refine Wl_v (r_mv (v := .slice a4 m c4) rfl) ?_
   refine Wl_guard_t rfl ?_
   refine Wl_bstr Try.underlying23 Try.underlying5 Try.underlying9 rfl hO4.sl ?_
   refine Wl_guard_t rfl ?_
   refine Wl_v (r_mv (v := .slice a2 m d) rfl) ?_
   refine Wl_guard_t rfl ?_
   refine Wl_bstr Try.underlying23 Try.underlying5 Try.underlying9 rfl hsb ?_
   refine Wl_guard_t rfl ?_
   refine Wl_v (r_eqstr (show Byt b from hb) (show Byt b from hb) rfl rfl) ?_
   refine Wl_v (r_pick_t (v := .bool (decide (b = b))) rfl rfl) ?_
   refine Wl_v (r_mv (v := .bool (decide (b = b))) rfl) ?_
   have q4 : b = b := rfl
   rw [decide_eq_true q4]
   refine Wl_guard_t rfl ?_
   refine Wl_call (r_call0 rfl Try.call11 ) (works17 _ ) ?_
   rintro v w8 ⟨rfl, hU8⟩
   have hzw8 := hU8.size
   replace HU := HU.trans0 hU8
   refine Wl_v (r_pick_t (v := .bool true) rfl rfl) ?_
   refine Wl_v (r_as (v := .bool true) rfl) ?_
   refine Wl_nil ?_
   refine W_ret ?_
   refine ret_end (v := .bool true) rfl (res1 Try.results3 rfl) ?_
   exact ⟨_, rfl, rfl, HU⟩

set_option maxHeartbeats 2000000 in
set_option maxRecDepth 100000 in
theorem onesizes {a a2 : Option Addr} {n c m d : Nat} {l b : List Int} (w : World) (hs : Sl w (fun g => g < w.heap.size) 1 (.slice a n c) n (ints .i64 l)) (hn : n ≤ 17592186044415) (hsb : Sl w (fun g => g < w.heap.size) 1 (.slice a2 m d) m (ints .u8 b)) (hb : Byt b) (hm : m ≤ 140737488351232) :
  Calls Try.prog 4 #[.slice a n c, .slice a2 m d] w (Ret fun v w' => v = .bool true ∧ Upd No w w') := by
 have HU : Upd (fun b => False) w w := Upd.refl _ _
 have hl_hs := ilen hs
 have hc_hs := hs.cap.1
 have hl_hsb := ilen hsb
 have hc_hsb := hsb.cap.1
 refine calls_of_W Try.func4 rfl Try.ntmps4 (by simp) ?_
 refine W_seq ?_
 refine W_region ?_
 refine Wl_v (r_as (v := .bool false) rfl) ?_
 refine Wl_nil ?_
 refine W_seq ?_
 refine W_seq ?_
 refine W_region ?_
 refine Wl_v (r_mv (v := .slice a n c) rfl) ?_
 refine Wl_v (r_len Try.underlying22 rfl) ?_
 refine Wl_v (r_gt rfl rfl) ?_
 refine Wl_v (r_mv (v := .bool (decide (300 < ((n : Nat) : Int)))) rfl) ?_
 by_cases q1 : 300 < ((n : Nat) : Int)
 ·rw [decide_eq_true q1]
  refine Wl_guard_f rfl ?_
  refine Wl_guard_f rfl ?_
  refine Wl_guard_f rfl ?_
  refine Wl_v (r_pick_t (v := .bool true) rfl rfl) ?_
  refine Wl_nil ?_
  refine W_cond_t rfl ?_
  refine W_seq ?_
  refine W_region ?_
  refine Wl_call (r_call0 rfl Try.call11 ) (works17 _ ) ?_
  rintro v w1 ⟨rfl, hU1⟩
  have hzw1 := hU1.size
  replace HU := HU.trans0 hU1
  refine Wl_v (r_as (v := .bool true) rfl) ?_
  refine Wl_nil ?_
  refine W_ret ?_
  refine ret_end (v := .bool true) rfl (res1 Try.results4 rfl) ?_
  exact ⟨_, rfl, rfl, HU⟩
 ·rw [decide_eq_false q1]
  refine Wl_guard_t rfl ?_
  refine Wl_v (r_mv (v := .slice a2 m d) rfl) ?_
  refine Wl_guard_t rfl ?_
  refine Wl_v (r_len Try.underlying23 rfl) ?_
  refine Wl_guard_t rfl ?_
  refine Wl_v (r_gt rfl rfl) ?_
  refine Wl_v (r_pick_f (v := .bool (decide (300 < ((m : Nat) : Int)))) rfl rfl) ?_
  refine Wl_nil ?_
  by_cases q2 : 300 < ((m : Nat) : Int)
  ·rw [decide_eq_true q2]
   refine W_cond_t rfl ?_
   refine W_seq ?_
   refine W_region ?_
   refine Wl_call (r_call0 rfl Try.call11 ) (works17 _ ) ?_
   rintro v w2 ⟨rfl, hU2⟩
   have hzw2 := hU2.size
   replace HU := HU.trans0 hU2
   refine Wl_v (r_as (v := .bool true) rfl) ?_
   refine Wl_nil ?_
   refine W_ret ?_
   refine ret_end (v := .bool true) rfl (res1 Try.results4 rfl) ?_
   exact ⟨_, rfl, rfl, HU⟩
  ·rw [decide_eq_false q2]
   refine W_cond_f rfl ?_
   refine W_skip ?_
   refine W_seq ?_
   refine W_region ?_
   refine Wl_v (r_mv (v := .slice a n c) rfl) ?_
   refine Wl_v (r_mv (v := .slice a2 m d) rfl) ?_
   refine Wl_call (r_call2 rfl Try.call15 rfl rfl) (obl_spec _ hs (by omega) hsb.any hb (by omega)) ?_
   rintro v w3 ⟨rfl, hU3⟩
   have hzw3 := hU3.size
   replace hs := hs.upd0 hU3
   replace hsb := hsb.upd0 hU3
   replace HU := HU.trans0 hU3
   refine Wl_v (r_mv (v := .tuple #[.int .i64 ((blF l b).1), .int .i64 ((blF l b).2)]) rfl) ?_
   refine Wl_v (r_ext (v := .int .i64 ((blF l b).1)) rfl rfl) ?_
   refine Wl_v (r_ext (v := .int .i64 ((blF l b).2)) rfl rfl) ?_
   refine Wl_v (r_as (v := .int .i64 ((blF l b).1)) rfl) ?_
   refine Wl_v (r_as (v := .int .i64 ((blF l b).2)) rfl) ?_
   refine Wl_nil ?_
   refine W_seq ?_
   refine W_region ?_
   refine Wl_v (r_mv (v := .slice a n c) rfl) ?_
   refine Wl_v (r_mv (v := .slice a2 m d) rfl) ?_
   refine Wl_call (r_call2 rfl Try.call16 rfl rfl) (osz_spec _ hs (by omega) hsb.any hb (by omega)) ?_
   rintro v w4 ⟨rfl, hU4⟩
   have hzw4 := hU4.size
   replace hs := hs.upd0 hU4
   replace hsb := hsb.upd0 hU4
   replace HU := HU.trans0 hU4
   refine Wl_v (r_mv (v := .tuple #[.int .i64 (if (blF l b).2 ≠ 0 then 0 else (blF l b).1 / 8 + 1), .int .i64 ((blF l b).2)]) rfl) ?_
   refine Wl_v (r_ext (v := .int .i64 (if (blF l b).2 ≠ 0 then 0 else (blF l b).1 / 8 + 1)) rfl rfl) ?_
   refine Wl_v (r_ext (v := .int .i64 ((blF l b).2)) rfl rfl) ?_
   refine Wl_v (r_as (v := .int .i64 (if (blF l b).2 ≠ 0 then 0 else (blF l b).1 / 8 + 1)) rfl) ?_
   refine Wl_v (r_as (v := .int .i64 ((blF l b).2)) rfl) ?_
   refine Wl_nil ?_
   refine W_seq ?_
   refine W_region ?_
   refine Wl_v (r_mv (v := .slice a n c) rfl) ?_
   refine Wl_v (r_mv (v := .slice a2 m d) rfl) ?_
   refine Wl_call (r_call2 rfl Try.call17 rfl rfl) (rbln_spec _ hs (by omega) hsb.any hb (by omega)) ?_
   rintro v w5 ⟨rfl, hU5⟩
   have hzw5 := hU5.size
   replace HU := HU.trans0 hU5
   have hbf := blF_bd (l := l) (b := b) (by omega)
   refine Wl_v (r_mv (v := .tuple #[.int .i64 ((blF l b).1), .int .i64 ((blF l b).2)]) rfl) ?_
   refine Wl_v (r_ext (v := .int .i64 ((blF l b).1)) rfl rfl) ?_
   refine Wl_v (r_ext (v := .int .i64 ((blF l b).2)) rfl rfl) ?_
   refine Wl_v (r_as (v := .int .i64 ((blF l b).1)) rfl) ?_
   refine Wl_v (r_as (v := .int .i64 ((blF l b).2)) rfl) ?_
   refine Wl_nil ?_
   refine W_seq ?_
   refine W_region ?_
   refine Wl_v (r_mv (v := .int .i64 ((blF l b).1)) rfl) ?_
   refine Wl_v (r_quo rfl rfl (by omega) (tq (by omega) (wi64 (by omega) (by omega)))) ?_
   refine Wl_v (r_add rfl rfl (wi64 (by omega) (by omega))) ?_
   refine Wl_v (r_as (v := .int .i64 ((((blF l b).1) / 8) + 1)) rfl) ?_
   refine Wl_nil ?_
   refine W_seq ?_
   refine W_seq ?_
   refine W_region ?_
   refine Wl_v (r_mv (v := .int .i64 ((blF l b).2)) rfl) ?_
   refine Wl_v (r_ne rfl rfl) ?_
   refine Wl_nil ?_
   by_cases q3 : ((blF l b).2) ≠ 0
   ·rw [decide_eq_true q3]
    refine W_cond_t rfl ?_
    refine W_region ?_
    refine Wl_v (r_as (v := .int .i64 0) rfl) ?_
    refine Wl_nil ?_
    refine W_seq ?_
    refine W_region ?_
    refine Wl_v (r_mv (v := .int .i64 ((blF l b).1)) rfl) ?_
    refine Wl_v (r_mv (v := .int .i64 ((blF l b).2)) rfl) ?_
    refine Wl_v (r_mv (v := .int .i64 ((blF l b).1)) rfl) ?_
    refine Wl_v (r_mv (v := .int .i64 ((blF l b).2)) rfl) ?_
    refine Wl_call (r_call4 rfl Try.call18 rfl rfl rfl rfl) (tells17 _ ) ?_
    rintro v w6 ⟨rfl, hU6⟩
    have hzw6 := hU6.size
    replace HU := HU.trans0 hU6
    refine Wl_v (r_mv (v := .bool (decide ((((blF l b).1) : Int) = ((blF l b).1) ∧ (((blF l b).2) : Int) = ((blF l b).2)))) rfl) ?_
    have q4 : (((blF l b).1) : Int) = ((blF l b).1) ∧ (((blF l b).2) : Int) = ((blF l b).2) := ⟨rfl, rfl⟩
    rw [decide_eq_true q4]
    refine Wl_guard_t rfl ?_
    refine Wl_v (r_mv (v := .int .i64 (if (blF l b).2 ≠ 0 then 0 else (blF l b).1 / 8 + 1)) rfl) ?_
    refine Wl_guard_t rfl ?_
    refine Wl_v (r_mv (v := .int .i64 ((blF l b).2)) rfl) ?_
    refine Wl_guard_t rfl ?_
    refine Wl_v (r_mv (v := .int .i64 0) rfl) ?_
    refine Wl_guard_t rfl ?_
    refine Wl_v (r_mv (v := .int .i64 ((blF l b).2)) rfl) ?_
    refine Wl_guard_t rfl ?_
    refine Wl_call (r_call4 rfl Try.call18 rfl rfl rfl rfl) (tells17 _ ) ?_
    rintro v w7 ⟨rfl, hU7⟩
    have hzw7 := hU7.size
    replace HU := HU.trans0 hU7
    refine Wl_v (r_pick_t (v := .bool (decide (((if (blF l b).2 ≠ 0 then 0 else (blF l b).1 / 8 + 1) : Int) = 0 ∧ (((blF l b).2) : Int) = ((blF l b).2)))) rfl rfl) ?_
    refine Wl_v (r_mv (v := .bool (decide (((if (blF l b).2 ≠ 0 then 0 else (blF l b).1 / 8 + 1) : Int) = 0 ∧ (((blF l b).2) : Int) = ((blF l b).2)))) rfl) ?_
    have q5 : ((if (blF l b).2 ≠ 0 then 0 else (blF l b).1 / 8 + 1) : Int) = 0 ∧ (((blF l b).2) : Int) = ((blF l b).2) := ⟨if_pos q3, rfl⟩
    rw [decide_eq_true q5]
    refine Wl_guard_t rfl ?_
    refine Wl_call (r_call0 rfl Try.call11 ) (works17 _ ) ?_
    rintro v w8 ⟨rfl, hU8⟩
    have hzw8 := hU8.size
    replace HU := HU.trans0 hU8
    refine Wl_v (r_pick_t (v := .bool true) rfl rfl) ?_
    refine Wl_v (r_as (v := .bool true) rfl) ?_
    refine Wl_nil ?_
    refine W_ret ?_
    refine ret_end (v := .bool true) rfl (res1 Try.results4 rfl) ?_
    exact ⟨_, rfl, rfl, HU⟩
   ·rw [decide_eq_false q3]
    refine W_cond_f rfl ?_
    refine W_skip ?_
    refine W_seq ?_
    refine W_region ?_
    refine Wl_v (r_mv (v := .int .i64 ((blF l b).1)) rfl) ?_
    refine Wl_v (r_mv (v := .int .i64 ((blF l b).2)) rfl) ?_
    refine Wl_v (r_mv (v := .int .i64 ((blF l b).1)) rfl) ?_
    refine Wl_v (r_mv (v := .int .i64 ((blF l b).2)) rfl) ?_
    refine Wl_call (r_call4 rfl Try.call18 rfl rfl rfl rfl) (tells17 _ ) ?_
    rintro v w9 ⟨rfl, hU9⟩
    have hzw9 := hU9.size
    replace HU := HU.trans0 hU9
    refine Wl_v (r_mv (v := .bool (decide ((((blF l b).1) : Int) = ((blF l b).1) ∧ (((blF l b).2) : Int) = ((blF l b).2)))) rfl) ?_
    have q6 : (((blF l b).1) : Int) = ((blF l b).1) ∧ (((blF l b).2) : Int) = ((blF l b).2) := ⟨rfl, rfl⟩
    rw [decide_eq_true q6]
    refine Wl_guard_t rfl ?_
    refine Wl_v (r_mv (v := .int .i64 (if (blF l b).2 ≠ 0 then 0 else (blF l b).1 / 8 + 1)) rfl) ?_
    refine Wl_guard_t rfl ?_
    refine Wl_v (r_mv (v := .int .i64 ((blF l b).2)) rfl) ?_
    refine Wl_guard_t rfl ?_
    refine Wl_v (r_mv (v := .int .i64 ((((blF l b).1) / 8) + 1)) rfl) ?_
    refine Wl_guard_t rfl ?_
    refine Wl_v (r_mv (v := .int .i64 ((blF l b).2)) rfl) ?_
    refine Wl_guard_t rfl ?_
    refine Wl_call (r_call4 rfl Try.call18 rfl rfl rfl rfl) (tells17 _ ) ?_
    rintro v w10 ⟨rfl, hU10⟩
    have hzw10 := hU10.size
    replace HU := HU.trans0 hU10
    refine Wl_v (r_pick_t (v := .bool (decide (((if (blF l b).2 ≠ 0 then 0 else (blF l b).1 / 8 + 1) : Int) = ((((blF l b).1) / 8) + 1) ∧ (((blF l b).2) : Int) = ((blF l b).2)))) rfl rfl) ?_
    refine Wl_v (r_mv (v := .bool (decide (((if (blF l b).2 ≠ 0 then 0 else (blF l b).1 / 8 + 1) : Int) = ((((blF l b).1) / 8) + 1) ∧ (((blF l b).2) : Int) = ((blF l b).2)))) rfl) ?_
    have q7 : ((if (blF l b).2 ≠ 0 then 0 else (blF l b).1 / 8 + 1) : Int) = ((((blF l b).1) / 8) + 1) ∧ (((blF l b).2) : Int) = ((blF l b).2) := ⟨if_neg q3, rfl⟩
    rw [decide_eq_true q7]
    refine Wl_guard_t rfl ?_
    refine Wl_call (r_call0 rfl Try.call11 ) (works17 _ ) ?_
    rintro v w11 ⟨rfl, hU11⟩
    have hzw11 := hU11.size
    replace HU := HU.trans0 hU11
    refine Wl_v (r_pick_t (v := .bool true) rfl rfl) ?_
    refine Wl_v (r_as (v := .bool true) rfl) ?_
    refine Wl_nil ?_
    refine W_ret ?_
    refine ret_end (v := .bool true) rfl (res1 Try.results4 rfl) ?_
    exact ⟨_, rfl, rfl, HU⟩

set_option maxHeartbeats 2000000 in
set_option maxRecDepth 100000 in
theorem onedecodes {a a2 : Option Addr} {n c m d : Nat} {l b : List Int} {nn : Int} (w : World) (hs : Sl w (fun g => g < w.heap.size) 1 (.slice a n c) n (ints .i64 l)) (hn : n ≤ 17592186044415) (hsb : Sl w (fun g => g < w.heap.size) 1 (.slice a2 m d) m (ints .u8 b)) (hb : Byt b) (hm : m ≤ 140737488351232) (hni : -9223372036854775808 ≤ nn ∧ nn ≤ 9223372036854775807) :
  Calls Try.prog 5 #[.slice a n c, .slice a2 m d, .int .i64 nn] w (Ret fun v w' => v = .bool true ∧ Upd No w w') := by
 have HU : Upd (fun b => False) w w := Upd.refl _ _
 have hl_hs := ilen hs
 have hc_hs := hs.cap.1
 have hl_hsb := ilen hsb
 have hc_hsb := hsb.cap.1
 refine calls_of_W Try.func5 rfl Try.ntmps5 (by simp) ?_
 refine W_seq ?_
 refine W_region ?_
 refine Wl_v (r_as (v := .bool false) rfl) ?_
 refine Wl_nil ?_
 refine W_seq ?_
 refine W_seq ?_
 refine W_region ?_
 refine Wl_v (r_mv (v := .slice a n c) rfl) ?_
 refine Wl_v (r_len Try.underlying22 rfl) ?_
 refine Wl_v (r_gt rfl rfl) ?_
 refine Wl_v (r_mv (v := .bool (decide (300 < ((n : Nat) : Int)))) rfl) ?_
 by_cases q1 : 300 < ((n : Nat) : Int)
 ·rw [decide_eq_true q1]
  refine Wl_guard_f rfl ?_
  refine Wl_guard_f rfl ?_
  refine Wl_guard_f rfl ?_
  refine Wl_v (r_pick_t (v := .bool true) rfl rfl) ?_
  refine Wl_nil ?_
  refine W_cond_t rfl ?_
  refine W_seq ?_
  refine W_region ?_
  refine Wl_call (r_call0 rfl Try.call11 ) (works17 _ ) ?_
  rintro v w1 ⟨rfl, hU1⟩
  have hzw1 := hU1.size
  replace HU := HU.trans0 hU1
  refine Wl_v (r_as (v := .bool true) rfl) ?_
  refine Wl_nil ?_
  refine W_ret ?_
  refine ret_end (v := .bool true) rfl (res1 Try.results5 rfl) ?_
  exact ⟨_, rfl, rfl, HU⟩
 ·rw [decide_eq_false q1]
  refine Wl_guard_t rfl ?_
  refine Wl_v (r_mv (v := .slice a2 m d) rfl) ?_
  refine Wl_guard_t rfl ?_
  refine Wl_v (r_len Try.underlying23 rfl) ?_
  refine Wl_guard_t rfl ?_
  refine Wl_v (r_gt rfl rfl) ?_
  refine Wl_v (r_pick_f (v := .bool (decide (200 < ((m : Nat) : Int)))) rfl rfl) ?_
  refine Wl_nil ?_
  by_cases q2 : 200 < ((m : Nat) : Int)
  ·rw [decide_eq_true q2]
   refine W_cond_t rfl ?_
   refine W_seq ?_
   refine W_region ?_
   refine Wl_call (r_call0 rfl Try.call11 ) (works17 _ ) ?_
   rintro v w2 ⟨rfl, hU2⟩
   have hzw2 := hU2.size
   replace HU := HU.trans0 hU2
   refine Wl_v (r_as (v := .bool true) rfl) ?_
   refine Wl_nil ?_
   refine W_ret ?_
   refine ret_end (v := .bool true) rfl (res1 Try.results5 rfl) ?_
   exact ⟨_, rfl, rfl, HU⟩
  ·rw [decide_eq_false q2]
   refine W_cond_f rfl ?_
   refine W_skip ?_
   refine W_seq ?_
   refine W_region ?_
   refine Wl_lit0 Try.underlying23 Try.sizeOf5 ?_
   intro B3 w3 hB3 hU3 hzz3 hs3
   have hzw3 := hU3.size
   replace hs := hs.upd0 hU3
   replace hsb := hsb.upd0 hU3
   replace HU := HU.trans0 hU3
   refine Wl_v (r_mv (v := .slice a2 m d) rfl) ?_
   refine Wl_appendi (xs := []) (ys := b) (zs := b) (k' := .u8) (tot := m) (by first | rfl | exact (rows_app _ _).symm | simp) Try.underlying23 (ti := Try.t5) (z := .int .u8 0) (sz := 1) (by' := 1) rfl rfl rfl rfl rfl (by decide) rfl hs3 rfl hsb  (by omega) (by simp only [maxLen]; omega) (by omega) ?_
   intro a4 c4 w4 hU4 hzz4 hO4
   clear hs3
   have hzw4 := hU4.size
   replace hs := hs.upd hU4 (by intro x h1 h2; have h3 : x < w.heap.size := h1; have h4 : x = B3 := h2; omega)
   replace hsb := hsb.upd hU4 (by intro x h1 h2; have h3 : x < w.heap.size := h1; have h4 : x = B3 := h2; omega)
   replace HU := HU.trans hU4 (by intro x hx; have hx2 : x = B3 := hx; show (False) ∨ w.heap.size ≤ x; omega)
   replace hO4 := hO4.tight
   have hl_hO4 := ilen hO4.sl
   have hc_hO4 := hO4.sl.cap.1
   refine Wl_v (r_as (v := .slice a4 m c4) rfl) ?_
   refine Wl_nil ?_
   refine W_seq ?_
   refine W_region ?_
   refine Wl_v (r_mv (v := .slice a n c) rfl) ?_
   refine Wl_v (r_mv (v := .slice a4 m c4) rfl) ?_
   refine Wl_v (r_mv (v := .int .i64 nn) rfl) ?_
   refine Wl_call (r_call3 rfl Try.call19 rfl rfl rfl) (odec _ hs (by omega) hO4.sl.any hb (by omega) (by omega)) ?_
   rintro v w5 ⟨a5, m5, c5, rfl, hO5, hU5⟩
   have hzw5 := hU5.size
   replace hs := hs.upd0 hU5
   replace hsb := hsb.upd0 hU5
   replace HU := HU.trans0 hU5
   replace hO4 := hO4.upd0 hU5
   replace hO5 := hO5.tight
   have hl_hO5 := ilen hO5.sl
   have hc_hO5 := hO5.sl.cap.1
   refine Wl_v (r_mv (v := .tuple #[.slice a5 m5 c5, .int .i64 ((dcF l b nn).2)]) rfl) ?_
   refine Wl_v (r_ext (v := .slice a5 m5 c5) rfl rfl) ?_
   refine Wl_v (r_ext (v := .int .i64 ((dcF l b nn).2)) rfl rfl) ?_
   refine Wl_v (r_as (v := .slice a5 m5 c5) rfl) ?_
   refine Wl_v (r_as (v := .int .i64 ((dcF l b nn).2)) rfl) ?_
   refine Wl_nil ?_
   refine W_seq ?_
   refine W_region ?_
   refine Wl_v (r_mv (v := .slice a n c) rfl) ?_
   refine Wl_v (r_mv (v := .slice a2 m d) rfl) ?_
   refine Wl_v (r_mv (v := .int .i64 nn) rfl) ?_
   refine Wl_call (r_call3 rfl Try.call20 rfl rfl rfl) (rdec_spec _ hs (by omega) hsb.any hb (by omega) (by omega)) ?_
   rintro v w6 ⟨a6, m6, c6, rfl, hO6, hU6⟩
   have hzw6 := hU6.size
   replace hsb := hsb.upd0 hU6
   replace HU := HU.trans0 hU6
   replace hO4 := hO4.upd0 hU6
   replace hO5 := hO5.upd0 hU6
   replace hO6 := hO6.tight
   have hl_hO6 := ilen hO6.sl
   have hc_hO6 := hO6.sl.cap.1
   refine Wl_v (r_mv (v := .tuple #[.slice a6 m6 c6, .int .i64 ((dcF l b nn).2)]) rfl) ?_
   refine Wl_v (r_ext (v := .slice a6 m6 c6) rfl rfl) ?_
   refine Wl_v (r_ext (v := .int .i64 ((dcF l b nn).2)) rfl rfl) ?_
   refine Wl_v (r_as (v := .slice a6 m6 c6) rfl) ?_
   refine Wl_v (r_as (v := .int .i64 ((dcF l b nn).2)) rfl) ?_
   refine Wl_nil ?_
   refine W_seq ?_
   refine W_region ?_
   refine Wl_v (r_mv (v := .slice a5 m5 c5) rfl) ?_
   refine Wl_v (r_mv (v := .int .i64 ((dcF l b nn).2)) rfl) ?_
   refine Wl_v (r_mv (v := .slice a6 m6 c6) rfl) ?_
   refine Wl_bstr Try.underlying23 Try.underlying5 Try.underlying9 rfl hO6.sl ?_
   refine Wl_v (r_mv (v := .int .i64 ((dcF l b nn).2)) rfl) ?_
   refine Wl_call (r_call4 rfl Try.call14 rfl rfl rfl rfl) (is17 (y := (dcF l b nn).1) _ hO5.sl.any (dcF_byt _ _ _) (dcF_byt _ _ _)) ?_
   rintro v w7 ⟨rfl, hU7⟩
   have hzw7 := hU7.size
   replace hsb := hsb.upd0 hU7
   replace HU := HU.trans0 hU7
   replace hO4 := hO4.upd0 hU7
   refine Wl_v (r_mv (v := .bool (decide ((((dcF l b nn).1) : List Int) = ((dcF l b nn).1) ∧ (((dcF l b nn).2) : Int) = ((dcF l b nn).2)))) rfl) ?_
   have q3 : (((dcF l b nn).1) : List Int) = ((dcF l b nn).1) ∧ (((dcF l b nn).2) : Int) = ((dcF l b nn).2) := ⟨rfl, rfl⟩
   rw [decide_eq_true q3]
   refine Wl_guard_t rfl ?_
   refine Wl_v (r_mv (v := .slice a4 m c4) rfl) ?_
   refine Wl_guard_t rfl ?_
   refine Wl_bstr Try.underlying23 Try.underlying5 Try.underlying9 rfl hO4.sl ?_
   refine Wl_guard_t rfl ?_
   refine Wl_v (r_mv (v := .slice a2 m d) rfl) ?_
   refine Wl_guard_t rfl ?_
   refine Wl_bstr Try.underlying23 Try.underlying5 Try.underlying9 rfl hsb ?_
   refine Wl_guard_t rfl ?_
   refine Wl_v (r_eqstr (show Byt b from hb) (show Byt b from hb) rfl rfl) ?_
   refine Wl_v (r_pick_t (v := .bool (decide (b = b))) rfl rfl) ?_
   refine Wl_v (r_mv (v := .bool (decide (b = b))) rfl) ?_
   have q4 : b = b := rfl
   rw [decide_eq_true q4]
   refine Wl_guard_t rfl ?_
   refine Wl_call (r_call0 rfl Try.call11 ) (works17 _ ) ?_
   rintro v w8 ⟨rfl, hU8⟩
   have hzw8 := hU8.size
   replace HU := HU.trans0 hU8
   refine Wl_v (r_pick_t (v := .bool true) rfl rfl) ?_
   refine Wl_v (r_as (v := .bool true) rfl) ?_
   refine Wl_nil ?_
   refine W_ret ?_
   refine ret_end (v := .bool true) rfl (res1 Try.results5 rfl) ?_
   exact ⟨_, rfl, rfl, HU⟩

set_option maxHeartbeats 2000000 in
set_option maxRecDepth 100000 in
theorem onecounts {a a2 : Option Addr} {n c m d : Nat} {l b : List Int} (w : World) (hs : Sl w (fun g => g < w.heap.size) 1 (.slice a n c) n (ints .i64 l)) (hn : n ≤ 17592186044415) (hsb : Sl w (fun g => g < w.heap.size) 1 (.slice a2 m d) m (ints .u8 b)) (hb : Byt b) (hm : m ≤ 140737488351232) :
  Calls Try.prog 6 #[.slice a n c, .slice a2 m d] w (Ret fun v w' => v = .bool true ∧ Upd No w w') := by
 have HU : Upd (fun b => False) w w := Upd.refl _ _
 have hl_hs := ilen hs
 have hc_hs := hs.cap.1
 have hl_hsb := ilen hsb
 have hc_hsb := hsb.cap.1
 refine calls_of_W Try.func6 rfl Try.ntmps6 (by simp) ?_
 refine W_seq ?_
 refine W_region ?_
 refine Wl_v (r_as (v := .bool false) rfl) ?_
 refine Wl_nil ?_
 refine W_seq ?_
 refine W_seq ?_
 refine W_region ?_
 refine Wl_v (r_mv (v := .slice a n c) rfl) ?_
 refine Wl_v (r_len Try.underlying22 rfl) ?_
 refine Wl_v (r_gt rfl rfl) ?_
 refine Wl_v (r_mv (v := .bool (decide (300 < ((n : Nat) : Int)))) rfl) ?_
 by_cases q1 : 300 < ((n : Nat) : Int)
 ·rw [decide_eq_true q1]
  refine Wl_guard_f rfl ?_
  refine Wl_guard_f rfl ?_
  refine Wl_guard_f rfl ?_
  refine Wl_v (r_pick_t (v := .bool true) rfl rfl) ?_
  refine Wl_nil ?_
  refine W_cond_t rfl ?_
  refine W_seq ?_
  refine W_region ?_
  refine Wl_call (r_call0 rfl Try.call11 ) (works17 _ ) ?_
  rintro v w1 ⟨rfl, hU1⟩
  have hzw1 := hU1.size
  replace HU := HU.trans0 hU1
  refine Wl_v (r_as (v := .bool true) rfl) ?_
  refine Wl_nil ?_
  refine W_ret ?_
  refine ret_end (v := .bool true) rfl (res1 Try.results6 rfl) ?_
  exact ⟨_, rfl, rfl, HU⟩
 ·rw [decide_eq_false q1]
  refine Wl_guard_t rfl ?_
  refine Wl_v (r_mv (v := .slice a2 m d) rfl) ?_
  refine Wl_guard_t rfl ?_
  refine Wl_v (r_len Try.underlying23 rfl) ?_
  refine Wl_guard_t rfl ?_
  refine Wl_v (r_gt rfl rfl) ?_
  refine Wl_v (r_pick_f (v := .bool (decide (200 < ((m : Nat) : Int)))) rfl rfl) ?_
  refine Wl_nil ?_
  by_cases q2 : 200 < ((m : Nat) : Int)
  ·rw [decide_eq_true q2]
   refine W_cond_t rfl ?_
   refine W_seq ?_
   refine W_region ?_
   refine Wl_call (r_call0 rfl Try.call11 ) (works17 _ ) ?_
   rintro v w2 ⟨rfl, hU2⟩
   have hzw2 := hU2.size
   replace HU := HU.trans0 hU2
   refine Wl_v (r_as (v := .bool true) rfl) ?_
   refine Wl_nil ?_
   refine W_ret ?_
   refine ret_end (v := .bool true) rfl (res1 Try.results6 rfl) ?_
   exact ⟨_, rfl, rfl, HU⟩
  ·rw [decide_eq_false q2]
   refine W_cond_f rfl ?_
   refine W_skip ?_
   refine W_seq ?_
   refine W_region ?_
   refine Wl_v (r_mv (v := .slice a n c) rfl) ?_
   refine Wl_v (r_mv (v := .slice a2 m d) rfl) ?_
   refine Wl_call (r_call2 rfl Try.call21 rfl rfl) (octs _ hs (by omega) hsb.any hb (by omega)) ?_
   rintro v w3 ⟨rfl, hU3⟩
   have hzw3 := hU3.size
   replace hs := hs.upd0 hU3
   replace hsb := hsb.upd0 hU3
   replace HU := HU.trans0 hU3
   refine Wl_v (r_mv (v := .tuple #[.int .i64 ((ctF l b).1), .int .i64 ((ctF l b).2)]) rfl) ?_
   refine Wl_v (r_ext (v := .int .i64 ((ctF l b).1)) rfl rfl) ?_
   refine Wl_v (r_ext (v := .int .i64 ((ctF l b).2)) rfl rfl) ?_
   refine Wl_v (r_as (v := .int .i64 ((ctF l b).1)) rfl) ?_
   refine Wl_v (r_as (v := .int .i64 ((ctF l b).2)) rfl) ?_
   refine Wl_nil ?_
   refine W_seq ?_
   refine W_region ?_
   refine Wl_v (r_mv (v := .slice a n c) rfl) ?_
   refine Wl_v (r_mv (v := .slice a2 m d) rfl) ?_
   refine Wl_call (r_call2 rfl Try.call22 rfl rfl) (rcnt_spec _ hs (by omega) hsb.any hb (by omega)) ?_
   rintro v w4 ⟨rfl, hU4⟩
   have hzw4 := hU4.size
   replace HU := HU.trans0 hU4
   refine Wl_v (r_mv (v := .tuple #[.int .i64 ((ctF l b).1), .int .i64 ((ctF l b).2)]) rfl) ?_
   refine Wl_v (r_ext (v := .int .i64 ((ctF l b).1)) rfl rfl) ?_
   refine Wl_v (r_ext (v := .int .i64 ((ctF l b).2)) rfl rfl) ?_
   refine Wl_v (r_as (v := .int .i64 ((ctF l b).1)) rfl) ?_
   refine Wl_v (r_as (v := .int .i64 ((ctF l b).2)) rfl) ?_
   refine Wl_nil ?_
   refine W_seq ?_
   refine W_region ?_
   refine Wl_v (r_mv (v := .int .i64 ((ctF l b).1)) rfl) ?_
   refine Wl_v (r_mv (v := .int .i64 ((ctF l b).2)) rfl) ?_
   refine Wl_v (r_mv (v := .int .i64 ((ctF l b).1)) rfl) ?_
   refine Wl_v (r_mv (v := .int .i64 ((ctF l b).2)) rfl) ?_
   refine Wl_call (r_call4 rfl Try.call18 rfl rfl rfl rfl) (tells17 _ ) ?_
   rintro v w5 ⟨rfl, hU5⟩
   have hzw5 := hU5.size
   replace HU := HU.trans0 hU5
   refine Wl_v (r_mv (v := .bool (decide ((((ctF l b).1) : Int) = ((ctF l b).1) ∧ (((ctF l b).2) : Int) = ((ctF l b).2)))) rfl) ?_
   have q3 : (((ctF l b).1) : Int) = ((ctF l b).1) ∧ (((ctF l b).2) : Int) = ((ctF l b).2) := ⟨rfl, rfl⟩
   rw [decide_eq_true q3]
   refine Wl_guard_t rfl ?_
   refine Wl_call (r_call0 rfl Try.call11 ) (works17 _ ) ?_
   rintro v w6 ⟨rfl, hU6⟩
   have hzw6 := hU6.size
   replace HU := HU.trans0 hU6
   refine Wl_v (r_pick_t (v := .bool true) rfl rfl) ?_
   refine Wl_v (r_as (v := .bool true) rfl) ?_
   refine Wl_nil ?_
   refine W_ret ?_
   refine ret_end (v := .bool true) rfl (res1 Try.results6 rfl) ?_
   exact ⟨_, rfl, rfl, HU⟩

set_option maxHeartbeats 2000000 in
set_option maxRecDepth 100000 in
theorem onefirsts {a a2 : Option Addr} {n c m d : Nat} {l b : List Int} {nn : Int} (w : World) (hs : Sl w (fun g => g < w.heap.size) 1 (.slice a n c) n (ints .i64 l)) (hn : n ≤ 17592186044415) (hsb : Sl w (fun g => g < w.heap.size) 1 (.slice a2 m d) m (ints .u8 b)) (hb : Byt b) (hm : m ≤ 140737488351232) (hni : -9223372036854775808 ≤ nn ∧ nn ≤ 9223372036854775807) :
  Calls Try.prog 7 #[.slice a n c, .slice a2 m d, .int .i64 nn] w (Ret fun v w' => v = .bool true ∧ Upd No w w') := by
 have HU : Upd (fun b => False) w w := Upd.refl _ _
 have hl_hs := ilen hs
 have hc_hs := hs.cap.1
 have hl_hsb := ilen hsb
 have hc_hsb := hsb.cap.1
 refine calls_of_W Try.func7 rfl Try.ntmps7 (by simp) ?_
 refine W_seq ?_
 refine W_region ?_
 refine Wl_v (r_as (v := .bool false) rfl) ?_
 refine Wl_nil ?_
 refine W_seq ?_
 refine W_seq ?_
 refine W_region ?_
 refine Wl_v (r_mv (v := .slice a n c) rfl) ?_
 refine Wl_v (r_len Try.underlying22 rfl) ?_
 refine Wl_v (r_gt rfl rfl) ?_
 refine Wl_v (r_mv (v := .bool (decide (300 < ((n : Nat) : Int)))) rfl) ?_
 by_cases q1 : 300 < ((n : Nat) : Int)
 ·rw [decide_eq_true q1]
  refine Wl_guard_f rfl ?_
  refine Wl_guard_f rfl ?_
  refine Wl_guard_f rfl ?_
  refine Wl_v (r_pick_t (v := .bool true) rfl rfl) ?_
  refine Wl_nil ?_
  refine W_cond_t rfl ?_
  refine W_seq ?_
  refine W_region ?_
  refine Wl_call (r_call0 rfl Try.call11 ) (works17 _ ) ?_
  rintro v w1 ⟨rfl, hU1⟩
  have hzw1 := hU1.size
  replace HU := HU.trans0 hU1
  refine Wl_v (r_as (v := .bool true) rfl) ?_
  refine Wl_nil ?_
  refine W_ret ?_
  refine ret_end (v := .bool true) rfl (res1 Try.results7 rfl) ?_
  exact ⟨_, rfl, rfl, HU⟩
 ·rw [decide_eq_false q1]
  refine Wl_guard_t rfl ?_
  refine Wl_v (r_mv (v := .slice a2 m d) rfl) ?_
  refine Wl_guard_t rfl ?_
  refine Wl_v (r_len Try.underlying23 rfl) ?_
  refine Wl_guard_t rfl ?_
  refine Wl_v (r_gt rfl rfl) ?_
  refine Wl_v (r_pick_f (v := .bool (decide (200 < ((m : Nat) : Int)))) rfl rfl) ?_
  refine Wl_nil ?_
  by_cases q2 : 200 < ((m : Nat) : Int)
  ·rw [decide_eq_true q2]
   refine W_cond_t rfl ?_
   refine W_seq ?_
   refine W_region ?_
   refine Wl_call (r_call0 rfl Try.call11 ) (works17 _ ) ?_
   rintro v w2 ⟨rfl, hU2⟩
   have hzw2 := hU2.size
   replace HU := HU.trans0 hU2
   refine Wl_v (r_as (v := .bool true) rfl) ?_
   refine Wl_nil ?_
   refine W_ret ?_
   refine ret_end (v := .bool true) rfl (res1 Try.results7 rfl) ?_
   exact ⟨_, rfl, rfl, HU⟩
  ·rw [decide_eq_false q2]
   refine W_cond_f rfl ?_
   refine W_skip ?_
   refine W_seq ?_
   refine W_region ?_
   refine Wl_v (r_mv (v := .slice a n c) rfl) ?_
   refine Wl_v (r_mv (v := .slice a2 m d) rfl) ?_
   refine Wl_v (r_mv (v := .int .i64 nn) rfl) ?_
   refine Wl_call (r_call3 rfl Try.call23 rfl rfl rfl) (opfx _ hs (by omega) hsb.any hb (by omega) (by omega)) ?_
   rintro v w3 ⟨a3, m3, c3, rfl, hO3, hU3⟩
   have hzw3 := hU3.size
   replace hs := hs.upd0 hU3
   replace hsb := hsb.upd0 hU3
   replace HU := HU.trans0 hU3
   replace hO3 := hO3.tight
   have hl_hO3 := ilen hO3.sl
   have hc_hO3 := hO3.sl.cap.1
   refine Wl_v (r_mv (v := .tuple #[.slice a3 m3 c3, .int .i64 ((pfF l b nn).2)]) rfl) ?_
   refine Wl_v (r_ext (v := .slice a3 m3 c3) rfl rfl) ?_
   refine Wl_v (r_ext (v := .int .i64 ((pfF l b nn).2)) rfl rfl) ?_
   refine Wl_v (r_as (v := .slice a3 m3 c3) rfl) ?_
   refine Wl_v (r_as (v := .int .i64 ((pfF l b nn).2)) rfl) ?_
   refine Wl_nil ?_
   refine W_seq ?_
   refine W_region ?_
   refine Wl_v (r_mv (v := .slice a n c) rfl) ?_
   refine Wl_v (r_mv (v := .slice a2 m d) rfl) ?_
   refine Wl_v (r_mv (v := .int .i64 nn) rfl) ?_
   refine Wl_call (r_call3 rfl Try.call24 rfl rfl rfl) (rfst_spec _ hs (by omega) hsb.any hb (by omega) (by omega)) ?_
   rintro v w4 ⟨a4, m4, c4, rfl, hO4, hU4⟩
   have hzw4 := hU4.size
   replace HU := HU.trans0 hU4
   replace hO3 := hO3.upd0 hU4
   have hl_hO4 := ilen hO4
   have hc_hO4 := hO4.cap.1
   refine Wl_v (r_mv (v := .tuple #[.slice a4 m4 c4, .int .i64 ((pfF l b nn).2)]) rfl) ?_
   refine Wl_v (r_ext (v := .slice a4 m4 c4) rfl rfl) ?_
   refine Wl_v (r_ext (v := .int .i64 ((pfF l b nn).2)) rfl rfl) ?_
   refine Wl_v (r_as (v := .slice a4 m4 c4) rfl) ?_
   refine Wl_v (r_as (v := .int .i64 ((pfF l b nn).2)) rfl) ?_
   refine Wl_nil ?_
   refine W_seq ?_
   refine W_region ?_
   refine Wl_v (r_mv (v := .slice a3 m3 c3) rfl) ?_
   refine Wl_v (r_mv (v := .int .i64 ((pfF l b nn).2)) rfl) ?_
   refine Wl_v (r_mv (v := .slice a4 m4 c4) rfl) ?_
   refine Wl_bstr Try.underlying23 Try.underlying5 Try.underlying9 rfl hO4 ?_
   refine Wl_v (r_mv (v := .int .i64 ((pfF l b nn).2)) rfl) ?_
   refine Wl_call (r_call4 rfl Try.call14 rfl rfl rfl rfl) (is17 (y := (pfF l b nn).1) _ hO3.sl.any (pfF_byt _ _ _) (pfF_byt _ _ _)) ?_
   rintro v w5 ⟨rfl, hU5⟩
   have hzw5 := hU5.size
   replace HU := HU.trans0 hU5
   refine Wl_v (r_mv (v := .bool (decide ((((pfF l b nn).1) : List Int) = ((pfF l b nn).1) ∧ (((pfF l b nn).2) : Int) = ((pfF l b nn).2)))) rfl) ?_
   have q3 : (((pfF l b nn).1) : List Int) = ((pfF l b nn).1) ∧ (((pfF l b nn).2) : Int) = ((pfF l b nn).2) := ⟨rfl, rfl⟩
   rw [decide_eq_true q3]
   refine Wl_guard_t rfl ?_
   refine Wl_call (r_call0 rfl Try.call11 ) (works17 _ ) ?_
   rintro v w6 ⟨rfl, hU6⟩
   have hzw6 := hU6.size
   replace HU := HU.trans0 hU6
   refine Wl_v (r_pick_t (v := .bool true) rfl rfl) ?_
   refine Wl_v (r_as (v := .bool true) rfl) ?_
   refine Wl_nil ?_
   refine W_ret ?_
   refine ret_end (v := .bool true) rfl (res1 Try.results7 rfl) ?_
   exact ⟨_, rfl, rfl, HU⟩

end Go.Proofs.Ytilegaokfamfnaa
