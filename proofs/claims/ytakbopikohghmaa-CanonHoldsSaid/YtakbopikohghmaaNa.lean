/-
  Walks, printed by a small program of this project (gen.py).
-/
import Derived.Test.YtakbopikohghmaaXk
set_option linter.unusedVariables false
set_option linter.unusedSimpArgs false
namespace Go.Proofs.Ytakbopikohghmaa
open Go.Fw

theorem lcodes_nil  (w : World)  :
    Calls Try.prog 18 #[.slice none 0 0, .slice none 0 0] w (Ret fun v w' => v = .bool true ∧ Upd No w w') := by
  have HU : Upd (fun b => False) w w := Upd.refl _ _
  refine calls_of_W Try.func18 rfl Try.ntmps18 (by simp) ?_
  refine W_seq ?_
  refine W_region ?_
  refine Wl_v (r_as (v := .bool false) rfl) ?_
  refine Wl_nil ?_
  refine W_seq ?_
  refine W_seq ?_
  refine W_region ?_
  refine Wl_v (r_mv (v := .slice none 0 0) rfl) ?_
  refine Wl_v (r_len Try.underlying28 rfl) ?_
  refine Wl_v (r_mv (v := .slice none 0 0) rfl) ?_
  refine Wl_v (r_len Try.underlying28 rfl) ?_
  refine Wl_v (r_ne rfl rfl) ?_
  refine Wl_nil ?_
  have q1 : ¬ (((0 : Nat) : Int) ≠ ((0 : Nat) : Int)) := (by omega)
  rw [decide_eq_false q1]
  refine W_cond_f rfl ?_
  refine W_skip ?_
  refine W_seq ?_
  refine W_seq ?_
  refine W_region ?_
  refine Wl_v (r_as (v := .int .i64 0) rfl) ?_
  refine Wl_nil ?_
  refine W_block ?_
  refine W_loop (fun mu ρ ds w' => 0 = mu ∧ ds = [] ∧ Liv ρ [(0, .slice none 0 0), (1, .slice none 0 0), (5, .int .i64 0)] ∧ Upd No w w') _ ⟨rfl, rfl, ⟨rfl, rfl, (by first | rfl | exact vint (by omega) | exact vint (by simp)), trivial⟩, Upd.refl _ _⟩ ?_
  rintro m1 ρ1 ds1 w1 ⟨rfl, rfl, hl1, hU1⟩
  obtain ⟨ρ1x, rfl⟩ : ∃ ρx, ρ1 = upds ρx [(0, .slice none 0 0), (1, .slice none 0 0), (5, .int .i64 0)] := ⟨_, upds_self hl1⟩
  clear hl1
  have hzw1 := hU1.size
  replace HU := HU.trans0 hU1
  have HL1 := hU1
  refine W_seq ?_
  refine W_seq ?_
  refine W_region ?_
  refine Wl_v (r_mv (v := .int .i64 0) rfl) ?_
  refine Wl_v (r_mv (v := .slice none 0 0) rfl) ?_
  refine Wl_v (r_len Try.underlying28 rfl) ?_
  refine Wl_v (r_lt rfl rfl) ?_
  refine Wl_nil ?_
  have q2 : ¬ (0 < ((0 : Nat) : Int)) := (by omega)
  rw [decide_eq_false q2]
  refine W_cond_f rfl ?_
  refine W_exit ?_
  refine W_seq ?_
  refine W_region ?_
  refine Wl_v (r_as (v := .bool true) rfl) ?_
  refine Wl_nil ?_
  refine W_ret ?_
  refine ret_end (v := .bool true) rfl (res1 Try.results18 rfl) ?_
  exact ⟨_, rfl, rfl, HU⟩

theorem ofc_len (cs : List (Int × Int)) : (ofc cs).1.length ≤ 256 := by
  unfold ofc
  split
  · simp
  · rename_i h1
    have h1 := (Classical.not_not.1 h1).1
    split
    · simp
    · split
      · show (lns cs).length ≤ 256
        rw [lns_len]; exact h1
      · simp

set_option maxHeartbeats 1000000 in
theorem canonmay {a : Option Addr} {n c : Nat} {l : List Int} (w : World) (hs : Sl w (fun g => g < w.heap.size) 1 (.slice a n c) n (ints .i64 l)) (hn : n ≤ 17592186044415) :
    Calls Try.prog 3 #[.slice a n c] w (Ret fun v w' => v = .bool true ∧ Upd No w w') := by
  have HU : Upd (fun b => False) w w := Upd.refl _ _
  have hl_hs := ilen hs
  have hc_hs := hs.cap.1
  refine calls_of_W Try.func3 rfl Try.ntmps3 (by simp) ?_
  refine W_seq ?_
  refine W_region ?_
  refine Wl_v (r_as (v := .bool false) rfl) ?_
  refine Wl_nil ?_
  refine W_seq ?_
  refine W_seq ?_
  refine W_region ?_
  refine Wl_v (r_mv (v := .slice a n c) rfl) ?_
  refine Wl_v (r_len Try.underlying22 rfl) ?_
  refine Wl_v (r_gt rfl rfl) ?_
  refine Wl_nil ?_
  by_cases q1 : 400 < ((n : Nat) : Int)
  · rw [decide_eq_true q1]
    refine W_cond_t rfl ?_
    refine W_seq ?_
    refine W_region ?_
    refine Wl_call (r_call0 rfl Try.call12 ) (works_spec _ ) ?_
    rintro v w1 ⟨rfl, hU1⟩
    have hzw1 := hU1.size
    replace hs := hs.upd0 hU1
    replace HU := HU.trans0 hU1
    refine Wl_v (r_as (v := .bool true) rfl) ?_
    refine Wl_nil ?_
    refine W_ret ?_
    refine ret_end (v := .bool true) rfl (res1 Try.results3 rfl) ?_
    exact ⟨_, rfl, rfl, HU⟩
  · rw [decide_eq_false q1]
    refine W_cond_f rfl ?_
    refine W_skip ?_
    refine W_seq ?_
    refine W_region ?_
    refine Wl_v (r_as (v := .int .i64 0) rfl) ?_
    refine Wl_nil ?_
    refine W_seq ?_
    refine W_seq ?_
    refine W_region ?_
    refine Wl_v (r_mv (v := .slice a n c) rfl) ?_
    refine Wl_call (r_call1 rfl Try.call13 rfl) (rright_spec _ hs (by omega)) ?_
    rintro v w2 ⟨rfl, hU2⟩
    have hzw2 := hU2.size
    replace hs := hs.upd0 hU2
    replace HU := HU.trans0 hU2
    refine Wl_v (r_not rfl) ?_
    refine Wl_nil ?_
    by_cases q2 : Rt l
    · rw [decide_eq_true q2]
      simp only [Bool.not_true, Bool.not_false]
      refine W_cond_f rfl ?_
      refine W_skip ?_
      refine W_seq ?_
      refine W_region ?_
      refine Wl_v (r_mv (v := .slice a n c) rfl) ?_
      have q3 : Rt l := q2
      refine Wl_call (r_call1 rfl Try.call15 rfl) (check_ok _ hs (by omega) q3) ?_
      rintro v w3 ⟨rfl, hU3⟩
      have hzw3 := hU3.size
      replace hs := hs.upd0 hU3
      replace HU := HU.trans0 hU3
      refine Wl_call (r_call1 rfl Try.call14 rfl) (num_spec _ ) ?_
      rintro v w4 ⟨rfl, hU4⟩
      have hzw4 := hU4.size
      replace hs := hs.upd0 hU4
      replace HU := HU.trans0 hU4
      refine Wl_v (r_mv (v := .int .i64 0) rfl) ?_
      refine Wl_v (v := .bool true) (r_eq (a := 0) (b := 0) rfl rfl) ?_
      refine Wl_v (r_mv (v := .bool true) rfl) ?_
      refine Wl_guard_t rfl ?_
      refine Wl_call (r_call0 rfl Try.call12 ) (works_spec _ ) ?_
      rintro v w5 ⟨rfl, hU5⟩
      have hzw5 := hU5.size
      replace hs := hs.upd0 hU5
      replace HU := HU.trans0 hU5
      refine Wl_v (r_pick_t (v := .bool true) rfl rfl) ?_
      refine Wl_v (r_as (v := .bool true) rfl) ?_
      refine Wl_nil ?_
      refine W_ret ?_
      refine ret_end (v := .bool true) rfl (res1 Try.results3 rfl) ?_
      exact ⟨_, rfl, rfl, HU⟩
    · rw [decide_eq_false q2]
      simp only [Bool.not_true, Bool.not_false]
      refine W_cond_t rfl ?_
      refine W_region ?_
      refine Wl_v (r_as (v := .int .i64 12) rfl) ?_
      refine Wl_nil ?_
      refine W_seq ?_
      refine W_region ?_
      refine Wl_v (r_mv (v := .slice a n c) rfl) ?_
      have q4 : ¬ (Rt l) := q2
      refine Wl_call (r_call1 rfl Try.call15 rfl) (check_no _ hs (by omega) q4) ?_
      rintro v w6 ⟨rfl, hU6⟩
      have hzw6 := hU6.size
      replace hs := hs.upd0 hU6
      replace HU := HU.trans0 hU6
      refine Wl_call (r_call1 rfl Try.call14 rfl) (num_spec _ ) ?_
      rintro v w7 ⟨rfl, hU7⟩
      have hzw7 := hU7.size
      replace hs := hs.upd0 hU7
      replace HU := HU.trans0 hU7
      refine Wl_v (r_mv (v := .int .i64 12) rfl) ?_
      refine Wl_v (v := .bool true) (r_eq (a := 12) (b := 12) rfl rfl) ?_
      refine Wl_v (r_mv (v := .bool true) rfl) ?_
      refine Wl_guard_t rfl ?_
      refine Wl_call (r_call0 rfl Try.call12 ) (works_spec _ ) ?_
      rintro v w8 ⟨rfl, hU8⟩
      have hzw8 := hU8.size
      replace hs := hs.upd0 hU8
      replace HU := HU.trans0 hU8
      refine Wl_v (r_pick_t (v := .bool true) rfl rfl) ?_
      refine Wl_v (r_as (v := .bool true) rfl) ?_
      refine Wl_nil ?_
      refine W_ret ?_
      refine ret_end (v := .bool true) rfl (res1 Try.results3 rfl) ?_
      exact ⟨_, rfl, rfl, HU⟩

set_option maxHeartbeats 1000000 in
theorem canoncodes {a : Option Addr} {n c : Nat} {l : List Int} (w : World) (hs : Sl w (fun g => g < w.heap.size) 1 (.slice a n c) n (ints .i64 l)) (hn : n ≤ 17592186044415) :
    Calls Try.prog 4 #[.slice a n c] w (Ret fun v w' => v = .bool true ∧ Upd No w w') := by
  have HU : Upd (fun b => False) w w := Upd.refl _ _
  have hl_hs := ilen hs
  have hc_hs := hs.cap.1
  refine calls_of_W Try.func4 rfl Try.ntmps4 (by simp) ?_
  refine W_seq ?_
  refine W_region ?_
  refine Wl_v (r_as (v := .bool false) rfl) ?_
  refine Wl_nil ?_
  refine W_seq ?_
  refine W_seq ?_
  refine W_region ?_
  refine Wl_v (r_mv (v := .slice a n c) rfl) ?_
  refine Wl_v (r_len Try.underlying22 rfl) ?_
  refine Wl_v (r_gt rfl rfl) ?_
  refine Wl_nil ?_
  by_cases q1 : 400 < ((n : Nat) : Int)
  · rw [decide_eq_true q1]
    refine W_cond_t rfl ?_
    refine W_seq ?_
    refine W_region ?_
    refine Wl_call (r_call0 rfl Try.call12 ) (works_spec _ ) ?_
    rintro v w1 ⟨rfl, hU1⟩
    have hzw1 := hU1.size
    replace hs := hs.upd0 hU1
    replace HU := HU.trans0 hU1
    refine Wl_v (r_as (v := .bool true) rfl) ?_
    refine Wl_nil ?_
    refine W_ret ?_
    refine ret_end (v := .bool true) rfl (res1 Try.results4 rfl) ?_
    exact ⟨_, rfl, rfl, HU⟩
  · rw [decide_eq_false q1]
    refine W_cond_f rfl ?_
    refine W_skip ?_
    refine W_seq ?_
    refine W_region ?_
    refine Wl_lit0 Try.underlying22 Try.sizeOf3 ?_
    intro B2 w2 hB2 hU2 hzz2 hs2
    have hzw2 := hU2.size
    replace hs := hs.upd0 hU2
    replace HU := HU.trans0 hU2
    refine Wl_v (r_mv (v := .slice a n c) rfl) ?_
    refine Wl_appendi (xs := []) (ys := l) (zs := l) (k' := .i64) (tot := n) (by first | rfl | simp) Try.underlying22 (ti := Try.t3) (z := .int .i64 0) (sz := 1) (by' := 8) rfl rfl rfl rfl rfl (by decide) rfl hs2 rfl hs  (by omega) (by simp only [maxLen]; omega) (by omega) ?_
    intro a3 c3 w3 hU3 hzz3 hO3
    clear hs2
    have hzw3 := hU3.size
    replace hs := hs.upd hU3 (by intro x h1 h2; have h3 : x < w.heap.size := h1; have h4 : x = B2 := h2; omega)
    replace HU := HU.trans hU3 (by intro x hx; have hx2 : x = B2 := hx; show (False) ∨ w.heap.size ≤ x; omega)
    replace hO3 := hO3.tight
    have hl_hO3 := ilen hO3.sl
    have hc_hO3 := hO3.sl.cap.1
    refine Wl_v (r_as (v := .slice a3 n c3) rfl) ?_
    refine Wl_nil ?_
    refine W_seq ?_
    refine W_region ?_
    refine Wl_v (r_mv (v := .slice a3 n c3) rfl) ?_
    by_cases q2 : Rt l
    · refine Wl_call (r_call1 rfl Try.call16 rfl) (codes_ok _ hO3.sl (by omega) q2) ?_
      rintro v w4 ⟨a4, c4, rfl, hO4, hU4⟩
      have hzw4 := hU4.size
      replace hs := hs.upd0 hU4
      replace HU := HU.trans0 hU4
      replace hO3 := hO3.upd0 hU4
      replace hO4 := hO4.tight
      have hl_hO4 := rlen encC_len (by decide) hO4.sl
      have hc_hO4 := hO4.sl.cap.1
      refine Wl_v (r_mv (v := .tuple #[.slice a4 n c4, .int .i64 0]) rfl) ?_
      refine Wl_v (r_ext (v := .slice a4 n c4) rfl rfl) ?_
      refine Wl_v (r_ext (v := .int .i64 0) rfl rfl) ?_
      refine Wl_v (r_as (v := .slice a4 n c4) rfl) ?_
      refine Wl_v (r_as (v := .int .i64 0) rfl) ?_
      refine Wl_nil ?_
      refine W_seq ?_
      refine W_region ?_
      refine Wl_v (r_mv (v := .slice a n c) rfl) ?_
      have q3 : Rt l := q2
      refine Wl_call (r_call1 rfl Try.call17 rfl) (rcodes_ok _ hs (by omega) q3) ?_
      rintro v w5 ⟨a5, c5, rfl, hO5, hU5⟩
      have hzw5 := hU5.size
      replace hs := hs.upd0 hU5
      replace HU := HU.trans0 hU5
      replace hO3 := hO3.upd0 hU5
      replace hO4 := hO4.upd0 hU5
      replace hO5 := hO5.tight
      have hl_hO5 := rlen encC_len (by decide) hO5.sl
      have hc_hO5 := hO5.sl.cap.1
      refine Wl_v (r_mv (v := .tuple #[.slice a5 n c5, .int .i64 0]) rfl) ?_
      refine Wl_v (r_ext (v := .slice a5 n c5) rfl rfl) ?_
      refine Wl_v (r_ext (v := .int .i64 0) rfl rfl) ?_
      refine Wl_v (r_as (v := .slice a5 n c5) rfl) ?_
      refine Wl_v (r_as (v := .int .i64 0) rfl) ?_
      refine Wl_nil ?_
      refine W_seq ?_
      refine W_region ?_
      refine Wl_v (r_mv (v := .slice a4 n c4) rfl) ?_
      refine Wl_v (r_mv (v := .slice a5 n c5) rfl) ?_
      refine Wl_call (r_call2 rfl Try.call18 rfl rfl) (lcodes_spec _ hO4.sl hO5.sl (by omega)) ?_
      rintro v w6 ⟨rfl, hU6⟩
      have hzw6 := hU6.size
      replace hs := hs.upd0 hU6
      replace HU := HU.trans0 hU6
      replace hO3 := hO3.upd0 hU6
      replace hO4 := hO4.upd0 hU6
      replace hO5 := hO5.upd0 hU6
      refine Wl_v (r_mv (v := .bool (decide ((cds l) = (cds l)))) rfl) ?_
      have q4 : (cds l) = (cds l) := rfl
      rw [decide_eq_true q4]
      refine Wl_guard_t rfl ?_
      refine Wl_v (r_mv (v := .int .i64 0) rfl) ?_
      refine Wl_guard_t rfl ?_
      refine Wl_call (r_call1 rfl Try.call14 rfl) (num_spec _ ) ?_
      rintro v w7 ⟨rfl, hU7⟩
      have hzw7 := hU7.size
      replace hs := hs.upd0 hU7
      replace HU := HU.trans0 hU7
      replace hO3 := hO3.upd0 hU7
      replace hO4 := hO4.upd0 hU7
      replace hO5 := hO5.upd0 hU7
      refine Wl_guard_t rfl ?_
      refine Wl_v (r_mv (v := .int .i64 0) rfl) ?_
      refine Wl_guard_t rfl ?_
      refine Wl_v (v := .bool true) (r_eq (a := 0) (b := 0) rfl rfl) ?_
      refine Wl_v (r_pick_t (v := .bool true) rfl rfl) ?_
      refine Wl_v (r_mv (v := .bool true) rfl) ?_
      refine Wl_guard_t rfl ?_
      refine Wl_v (r_mv (v := .slice a3 n c3) rfl) ?_
      refine Wl_guard_t rfl ?_
      refine Wl_v (r_mv (v := .slice a n c) rfl) ?_
      refine Wl_guard_t rfl ?_
      refine Wl_call (r_call2 rfl Try.call19 rfl rfl) (lints_spec _ hO3.sl hs (by omega)) ?_
      rintro v w8 ⟨rfl, hU8⟩
      have hzw8 := hU8.size
      replace hs := hs.upd0 hU8
      replace HU := HU.trans0 hU8
      replace hO3 := hO3.upd0 hU8
      replace hO4 := hO4.upd0 hU8
      replace hO5 := hO5.upd0 hU8
      refine Wl_v (r_pick_t (v := .bool (decide (l = l))) rfl rfl) ?_
      refine Wl_v (r_mv (v := .bool (decide (l = l))) rfl) ?_
      have q5 : l = l := rfl
      rw [decide_eq_true q5]
      refine Wl_guard_t rfl ?_
      refine Wl_call (r_call0 rfl Try.call12 ) (works_spec _ ) ?_
      rintro v w9 ⟨rfl, hU9⟩
      have hzw9 := hU9.size
      replace hs := hs.upd0 hU9
      replace HU := HU.trans0 hU9
      replace hO3 := hO3.upd0 hU9
      replace hO4 := hO4.upd0 hU9
      replace hO5 := hO5.upd0 hU9
      refine Wl_v (r_pick_t (v := .bool true) rfl rfl) ?_
      refine Wl_v (r_as (v := .bool true) rfl) ?_
      refine Wl_nil ?_
      refine W_ret ?_
      refine ret_end (v := .bool true) rfl (res1 Try.results4 rfl) ?_
      exact ⟨_, rfl, rfl, HU⟩
    · refine Wl_call (r_call1 rfl Try.call16 rfl) (codes_no _ hO3.sl (by omega) q2) ?_
      rintro v w10 ⟨rfl, hU10⟩
      have hzw10 := hU10.size
      replace hs := hs.upd0 hU10
      replace HU := HU.trans0 hU10
      replace hO3 := hO3.upd0 hU10
      refine Wl_v (r_mv (v := .tuple #[.slice none 0 0, .int .i64 12]) rfl) ?_
      refine Wl_v (r_ext (v := .slice none 0 0) rfl rfl) ?_
      refine Wl_v (r_ext (v := .int .i64 12) rfl rfl) ?_
      refine Wl_v (r_as (v := .slice none 0 0) rfl) ?_
      refine Wl_v (r_as (v := .int .i64 12) rfl) ?_
      refine Wl_nil ?_
      refine W_seq ?_
      refine W_region ?_
      refine Wl_v (r_mv (v := .slice a n c) rfl) ?_
      have q6 : ¬ (Rt l) := q2
      refine Wl_call (r_call1 rfl Try.call17 rfl) (rcodes_no _ hs (by omega) q6) ?_
      rintro v w11 ⟨rfl, hU11⟩
      have hzw11 := hU11.size
      replace hs := hs.upd0 hU11
      replace HU := HU.trans0 hU11
      replace hO3 := hO3.upd0 hU11
      refine Wl_v (r_mv (v := .tuple #[.slice none 0 0, .int .i64 12]) rfl) ?_
      refine Wl_v (r_ext (v := .slice none 0 0) rfl rfl) ?_
      refine Wl_v (r_ext (v := .int .i64 12) rfl rfl) ?_
      refine Wl_v (r_as (v := .slice none 0 0) rfl) ?_
      refine Wl_v (r_as (v := .int .i64 12) rfl) ?_
      refine Wl_nil ?_
      refine W_seq ?_
      refine W_region ?_
      refine Wl_v (r_mv (v := .slice none 0 0) rfl) ?_
      refine Wl_v (r_mv (v := .slice none 0 0) rfl) ?_
      refine Wl_call (r_call2 rfl Try.call18 rfl rfl) (lcodes_nil _ ) ?_
      rintro v w12 ⟨rfl, hU12⟩
      have hzw12 := hU12.size
      replace hs := hs.upd0 hU12
      replace HU := HU.trans0 hU12
      replace hO3 := hO3.upd0 hU12
      refine Wl_v (r_mv (v := .bool true) rfl) ?_
      refine Wl_guard_t rfl ?_
      refine Wl_v (r_mv (v := .int .i64 12) rfl) ?_
      refine Wl_guard_t rfl ?_
      refine Wl_call (r_call1 rfl Try.call14 rfl) (num_spec _ ) ?_
      rintro v w13 ⟨rfl, hU13⟩
      have hzw13 := hU13.size
      replace hs := hs.upd0 hU13
      replace HU := HU.trans0 hU13
      replace hO3 := hO3.upd0 hU13
      refine Wl_guard_t rfl ?_
      refine Wl_v (r_mv (v := .int .i64 12) rfl) ?_
      refine Wl_guard_t rfl ?_
      refine Wl_v (v := .bool true) (r_eq (a := 12) (b := 12) rfl rfl) ?_
      refine Wl_v (r_pick_t (v := .bool true) rfl rfl) ?_
      refine Wl_v (r_mv (v := .bool true) rfl) ?_
      refine Wl_guard_t rfl ?_
      refine Wl_v (r_mv (v := .slice a3 n c3) rfl) ?_
      refine Wl_guard_t rfl ?_
      refine Wl_v (r_mv (v := .slice a n c) rfl) ?_
      refine Wl_guard_t rfl ?_
      refine Wl_call (r_call2 rfl Try.call19 rfl rfl) (lints_spec _ hO3.sl hs (by omega)) ?_
      rintro v w14 ⟨rfl, hU14⟩
      have hzw14 := hU14.size
      replace hs := hs.upd0 hU14
      replace HU := HU.trans0 hU14
      replace hO3 := hO3.upd0 hU14
      refine Wl_v (r_pick_t (v := .bool (decide (l = l))) rfl rfl) ?_
      refine Wl_v (r_mv (v := .bool (decide (l = l))) rfl) ?_
      have q7 : l = l := rfl
      rw [decide_eq_true q7]
      refine Wl_guard_t rfl ?_
      refine Wl_call (r_call0 rfl Try.call12 ) (works_spec _ ) ?_
      rintro v w15 ⟨rfl, hU15⟩
      have hzw15 := hU15.size
      replace hs := hs.upd0 hU15
      replace HU := HU.trans0 hU15
      replace hO3 := hO3.upd0 hU15
      refine Wl_v (r_pick_t (v := .bool true) rfl rfl) ?_
      refine Wl_v (r_as (v := .bool true) rfl) ?_
      refine Wl_nil ?_
      refine W_ret ?_
      refine ret_end (v := .bool true) rfl (res1 Try.results4 rfl) ?_
      exact ⟨_, rfl, rfl, HU⟩

set_option maxHeartbeats 1000000 in
theorem canonsymbols {a : Option Addr} {n kc : Nat} {l : List Int} {c : Int × Int} (w : World) (hs : Sl w (fun g => g < w.heap.size) 1 (.slice a n kc) n (ints .i64 l)) (hn : n ≤ 17592186044415) :
    Calls Try.prog 5 #[.slice a n kc, .agg #[.int .i64 c.1, .int .u32 c.2]] w (Ret fun v w' => v = .bool true ∧ Upd No w w') := by
  have HU : Upd (fun b => False) w w := Upd.refl _ _
  have hl_hs := ilen hs
  have hc_hs := hs.cap.1
  refine calls_of_W Try.func5 rfl Try.ntmps5 (by simp) ?_
  refine W_seq ?_
  refine W_region ?_
  refine Wl_box (v := .agg #[.int .i64 c.1, .int .u32 c.2]) (cs := [.int .i64 c.1, .int .u32 c.2]) rfl rfl ?_
  intro B1 w1 hB1 hU1 hzz1 hb1
  have hzw1 := hU1.size
  replace hs := hs.upd0 hU1
  replace HU := HU.trans0 hU1
  refine Wl_v (r_as (v := .bool false) rfl) ?_
  refine Wl_nil ?_
  refine W_seq ?_
  refine W_seq ?_
  refine W_region ?_
  refine Wl_v (r_mv (v := .slice a n kc) rfl) ?_
  refine Wl_v (r_len Try.underlying22 rfl) ?_
  refine Wl_v (r_gt rfl rfl) ?_
  refine Wl_nil ?_
  by_cases q1 : 400 < ((n : Nat) : Int)
  · rw [decide_eq_true q1]
    refine W_cond_t rfl ?_
    refine W_seq ?_
    refine W_region ?_
    refine Wl_call (r_call0 rfl Try.call12 ) (works_spec _ ) ?_
    rintro v w2 ⟨rfl, hU2⟩
    have hzw2 := hU2.size
    replace hs := hs.upd0 hU2
    replace HU := HU.trans0 hU2
    replace hb1 := hb1.upd0 hU2
    refine Wl_v (r_as (v := .bool true) rfl) ?_
    refine Wl_nil ?_
    refine W_ret ?_
    refine ret_end (v := .bool true) rfl (res1 Try.results5 rfl) ?_
    exact ⟨_, rfl, rfl, HU⟩
  · rw [decide_eq_false q1]
    refine W_cond_f rfl ?_
    refine W_skip ?_
    refine W_seq ?_
    refine W_region ?_
    refine Wl_v (r_mv (v := .slice a n kc) rfl) ?_
    refine Wl_v (r_loada (b := B1) (off := 0) (cs := [.int .i64 c.1, .int .u32 c.2]) Try.isAgg37 Try.sizeOf37 rfl rfl (fun j hj => by rw [hb1.cell]; match j, hj with | 0, _ => rfl | 1, _ => rfl)) ?_
    refine Wl_call (r_call2 rfl Try.call20 rfl rfl) (symbol_spec _ hs (by omega)) ?_
    rintro v w3 ⟨rfl, hU3⟩
    have hzw3 := hU3.size
    replace hs := hs.upd0 hU3
    replace HU := HU.trans0 hU3
    replace hb1 := hb1.upd0 hU3
    refine Wl_v (r_mv (v := .tuple #[.int .i64 (if 0 ≤ sy l c then sy l c else 0), .bool (decide (0 ≤ sy l c))]) rfl) ?_
    refine Wl_v (r_ext (v := .int .i64 (if 0 ≤ sy l c then sy l c else 0)) rfl rfl) ?_
    refine Wl_v (r_ext (v := .bool (decide (0 ≤ sy l c))) rfl rfl) ?_
    refine Wl_v (r_as (v := .int .i64 (if 0 ≤ sy l c then sy l c else 0)) rfl) ?_
    refine Wl_v (r_as (v := .bool (decide (0 ≤ sy l c))) rfl) ?_
    refine Wl_nil ?_
    refine W_seq ?_
    refine W_region ?_
    refine Wl_v (r_mv (v := .slice a n kc) rfl) ?_
    refine Wl_v (r_loada (b := B1) (off := 0) (cs := [.int .i64 c.1, .int .u32 c.2]) Try.isAgg37 Try.sizeOf37 rfl rfl (fun j hj => by rw [hb1.cell]; match j, hj with | 0, _ => rfl | 1, _ => rfl)) ?_
    refine Wl_call (r_call2 rfl Try.call21 rfl rfl) (rsymbol_spec _ hs (by omega)) ?_
    rintro v w4 ⟨rfl, hU4⟩
    have hzw4 := hU4.size
    replace hs := hs.upd0 hU4
    replace HU := HU.trans0 hU4
    replace hb1 := hb1.upd0 hU4
    refine Wl_v (r_mv (v := .tuple #[.int .i64 (if 0 ≤ sy l c then sy l c else 0), .bool (decide (0 ≤ sy l c))]) rfl) ?_
    refine Wl_v (r_ext (v := .int .i64 (if 0 ≤ sy l c then sy l c else 0)) rfl rfl) ?_
    refine Wl_v (r_ext (v := .bool (decide (0 ≤ sy l c))) rfl rfl) ?_
    refine Wl_v (r_as (v := .int .i64 (if 0 ≤ sy l c then sy l c else 0)) rfl) ?_
    refine Wl_v (r_as (v := .bool (decide (0 ≤ sy l c))) rfl) ?_
    refine Wl_nil ?_
    refine W_seq ?_
    refine W_region ?_
    refine Wl_v (r_mv (v := .int .i64 (if 0 ≤ sy l c then sy l c else 0)) rfl) ?_
    refine Wl_v (r_mv (v := .int .i64 (if 0 ≤ sy l c then sy l c else 0)) rfl) ?_
    refine Wl_v (r_eq rfl rfl) ?_
    refine Wl_v (r_mv (v := .bool (decide ((if 0 ≤ sy l c then sy l c else 0) = (if 0 ≤ sy l c then sy l c else 0)))) rfl) ?_
    have q2 : (if 0 ≤ sy l c then sy l c else 0) = (if 0 ≤ sy l c then sy l c else 0) := rfl
    rw [decide_eq_true q2]
    refine Wl_guard_t rfl ?_
    refine Wl_v (r_mv (v := .bool (decide (0 ≤ sy l c))) rfl) ?_
    refine Wl_guard_t rfl ?_
    refine Wl_v (r_mv (v := .bool (decide (0 ≤ sy l c))) rfl) ?_
    refine Wl_guard_t rfl ?_
    by_cases q3 : 0 ≤ sy l c
    · rw [decide_eq_true q3]
      refine Wl_v (v := .bool true) (r_eqb (a := true) (b := true) Try.underlying4 rfl rfl) ?_
      refine Wl_v (r_pick_t (v := .bool true) rfl rfl) ?_
      refine Wl_v (r_mv (v := .bool true) rfl) ?_
      refine Wl_guard_t rfl ?_
      refine Wl_call (r_call0 rfl Try.call12 ) (works_spec _ ) ?_
      rintro v w5 ⟨rfl, hU5⟩
      have hzw5 := hU5.size
      replace hs := hs.upd0 hU5
      replace HU := HU.trans0 hU5
      replace hb1 := hb1.upd0 hU5
      refine Wl_v (r_pick_t (v := .bool true) rfl rfl) ?_
      refine Wl_v (r_as (v := .bool true) rfl) ?_
      refine Wl_nil ?_
      refine W_ret ?_
      refine ret_end (v := .bool true) rfl (res1 Try.results5 rfl) ?_
      exact ⟨_, rfl, rfl, HU⟩
    · rw [decide_eq_false q3]
      refine Wl_v (v := .bool true) (r_eqb (a := false) (b := false) Try.underlying4 rfl rfl) ?_
      refine Wl_v (r_pick_t (v := .bool true) rfl rfl) ?_
      refine Wl_v (r_mv (v := .bool true) rfl) ?_
      refine Wl_guard_t rfl ?_
      refine Wl_call (r_call0 rfl Try.call12 ) (works_spec _ ) ?_
      rintro v w6 ⟨rfl, hU6⟩
      have hzw6 := hU6.size
      replace hs := hs.upd0 hU6
      replace HU := HU.trans0 hU6
      replace hb1 := hb1.upd0 hU6
      refine Wl_v (r_pick_t (v := .bool true) rfl rfl) ?_
      refine Wl_v (r_as (v := .bool true) rfl) ?_
      refine Wl_nil ?_
      refine W_ret ?_
      refine ret_end (v := .bool true) rfl (res1 Try.results5 rfl) ?_
      exact ⟨_, rfl, rfl, HU⟩

set_option maxHeartbeats 1000000 in
theorem canonreads {a : Option Addr} {n c : Nat} {l : List Int} {bits m : Int} (w : World) (hs : Sl w (fun g => g < w.heap.size) 1 (.slice a n c) n (ints .i64 l)) (hn : n ≤ 17592186044415) (hbits : 0 ≤ bits ∧ bits < 18446744073709551616) (hm : -9223372036854775808 ≤ m ∧ m ≤ 9223372036854775807) :
    Calls Try.prog 6 #[.slice a n c, .int .u64 bits, .int .i64 m] w (Ret fun v w' => v = .bool true ∧ Upd No w w') := by
  have HU : Upd (fun b => False) w w := Upd.refl _ _
  have hl_hs := ilen hs
  have hc_hs := hs.cap.1
  refine calls_of_W Try.func6 rfl Try.ntmps6 (by simp) ?_
  refine W_seq ?_
  refine W_region ?_
  refine Wl_v (r_as (v := .bool false) rfl) ?_
  refine Wl_nil ?_
  refine W_seq ?_
  refine W_seq ?_
  refine W_region ?_
  refine Wl_v (r_mv (v := .slice a n c) rfl) ?_
  refine Wl_v (r_len Try.underlying22 rfl) ?_
  refine Wl_v (r_gt rfl rfl) ?_
  refine Wl_nil ?_
  by_cases q1 : 400 < ((n : Nat) : Int)
  · rw [decide_eq_true q1]
    refine W_cond_t rfl ?_
    refine W_seq ?_
    refine W_region ?_
    refine Wl_call (r_call0 rfl Try.call12 ) (works_spec _ ) ?_
    rintro v w1 ⟨rfl, hU1⟩
    have hzw1 := hU1.size
    replace hs := hs.upd0 hU1
    replace HU := HU.trans0 hU1
    refine Wl_v (r_as (v := .bool true) rfl) ?_
    refine Wl_nil ?_
    refine W_ret ?_
    refine ret_end (v := .bool true) rfl (res1 Try.results6 rfl) ?_
    exact ⟨_, rfl, rfl, HU⟩
  · rw [decide_eq_false q1]
    refine W_cond_f rfl ?_
    refine W_skip ?_
    refine W_seq ?_
    refine W_region ?_
    refine Wl_v (r_mv (v := .slice a n c) rfl) ?_
    refine Wl_v (r_mv (v := .int .u64 bits) rfl) ?_
    refine Wl_v (r_mv (v := .int .i64 m) rfl) ?_
    refine Wl_call (r_call3 rfl Try.call22 rfl rfl rfl) (decode_spec _ hs (by omega) (by omega) (by omega)) ?_
    rintro v w2 ⟨rfl, hU2⟩
    have hzw2 := hU2.size
    replace hs := hs.upd0 hU2
    replace HU := HU.trans0 hU2
    refine Wl_v (r_mv (v := .tuple #[.int .i64 ((dec l bits m).1), .int .i64 ((dec l bits m).2.1), .int .i64 ((dec l bits m).2.2)]) rfl) ?_
    refine Wl_v (r_ext (v := .int .i64 ((dec l bits m).1)) rfl rfl) ?_
    refine Wl_v (r_ext (v := .int .i64 ((dec l bits m).2.1)) rfl rfl) ?_
    refine Wl_v (r_ext (v := .int .i64 ((dec l bits m).2.2)) rfl rfl) ?_
    refine Wl_v (r_as (v := .int .i64 ((dec l bits m).1)) rfl) ?_
    refine Wl_v (r_as (v := .int .i64 ((dec l bits m).2.1)) rfl) ?_
    refine Wl_v (r_as (v := .int .i64 ((dec l bits m).2.2)) rfl) ?_
    refine Wl_nil ?_
    refine W_seq ?_
    refine W_region ?_
    refine Wl_v (r_mv (v := .slice a n c) rfl) ?_
    refine Wl_v (r_mv (v := .int .u64 bits) rfl) ?_
    refine Wl_v (r_mv (v := .int .i64 m) rfl) ?_
    refine Wl_call (r_call3 rfl Try.call23 rfl rfl rfl) (read_spec _ hs (by omega) (by omega) (by omega)) ?_
    rintro v w3 ⟨rfl, hU3⟩
    have hzw3 := hU3.size
    replace hs := hs.upd0 hU3
    replace HU := HU.trans0 hU3
    refine Wl_v (r_mv (v := .tuple #[.int .i64 ((dec l bits m).1), .int .i64 ((dec l bits m).2.1), .int .i64 ((dec l bits m).2.2)]) rfl) ?_
    refine Wl_v (r_ext (v := .int .i64 ((dec l bits m).1)) rfl rfl) ?_
    refine Wl_v (r_ext (v := .int .i64 ((dec l bits m).2.1)) rfl rfl) ?_
    refine Wl_v (r_ext (v := .int .i64 ((dec l bits m).2.2)) rfl rfl) ?_
    refine Wl_v (r_as (v := .int .i64 ((dec l bits m).1)) rfl) ?_
    refine Wl_v (r_as (v := .int .i64 ((dec l bits m).2.1)) rfl) ?_
    refine Wl_v (r_as (v := .int .i64 ((dec l bits m).2.2)) rfl) ?_
    refine Wl_nil ?_
    refine W_seq ?_
    refine W_region ?_
    refine Wl_v (r_mv (v := .int .i64 ((dec l bits m).1)) rfl) ?_
    refine Wl_v (r_mv (v := .int .i64 ((dec l bits m).1)) rfl) ?_
    refine Wl_v (r_eq rfl rfl) ?_
    refine Wl_v (r_mv (v := .bool (decide (((dec l bits m).1) = ((dec l bits m).1)))) rfl) ?_
    have q2 : ((dec l bits m).1) = ((dec l bits m).1) := rfl
    rw [decide_eq_true q2]
    refine Wl_guard_t rfl ?_
    refine Wl_v (r_mv (v := .int .i64 ((dec l bits m).2.1)) rfl) ?_
    refine Wl_guard_t rfl ?_
    refine Wl_v (r_mv (v := .int .i64 ((dec l bits m).2.1)) rfl) ?_
    refine Wl_guard_t rfl ?_
    refine Wl_v (r_eq rfl rfl) ?_
    refine Wl_v (r_pick_t (v := .bool (decide (((dec l bits m).2.1) = ((dec l bits m).2.1)))) rfl rfl) ?_
    refine Wl_v (r_mv (v := .bool (decide (((dec l bits m).2.1) = ((dec l bits m).2.1)))) rfl) ?_
    have q3 : ((dec l bits m).2.1) = ((dec l bits m).2.1) := rfl
    rw [decide_eq_true q3]
    refine Wl_guard_t rfl ?_
    refine Wl_v (r_mv (v := .int .i64 ((dec l bits m).2.2)) rfl) ?_
    refine Wl_guard_t rfl ?_
    refine Wl_call (r_call1 rfl Try.call14 rfl) (num_spec _ ) ?_
    rintro v w4 ⟨rfl, hU4⟩
    have hzw4 := hU4.size
    replace hs := hs.upd0 hU4
    replace HU := HU.trans0 hU4
    refine Wl_guard_t rfl ?_
    refine Wl_v (r_mv (v := .int .i64 ((dec l bits m).2.2)) rfl) ?_
    refine Wl_guard_t rfl ?_
    refine Wl_v (r_eq rfl rfl) ?_
    refine Wl_v (r_pick_t (v := .bool (decide (((dec l bits m).2.2) = ((dec l bits m).2.2)))) rfl rfl) ?_
    refine Wl_v (r_mv (v := .bool (decide (((dec l bits m).2.2) = ((dec l bits m).2.2)))) rfl) ?_
    have q4 : ((dec l bits m).2.2) = ((dec l bits m).2.2) := rfl
    rw [decide_eq_true q4]
    refine Wl_guard_t rfl ?_
    refine Wl_call (r_call0 rfl Try.call12 ) (works_spec _ ) ?_
    rintro v w5 ⟨rfl, hU5⟩
    have hzw5 := hU5.size
    replace hs := hs.upd0 hU5
    replace HU := HU.trans0 hU5
    refine Wl_v (r_pick_t (v := .bool true) rfl rfl) ?_
    refine Wl_v (r_as (v := .bool true) rfl) ?_
    refine Wl_nil ?_
    refine W_ret ?_
    refine ret_end (v := .bool true) rfl (res1 Try.results6 rfl) ?_
    exact ⟨_, rfl, rfl, HU⟩

set_option maxHeartbeats 1000000 in
theorem canonlongest {a : Option Addr} {n c : Nat} {l : List Int} (w : World) (hs : Sl w (fun g => g < w.heap.size) 1 (.slice a n c) n (ints .i64 l)) (hn : n ≤ 17592186044415) :
    Calls Try.prog 8 #[.slice a n c] w (Ret fun v w' => v = .bool true ∧ Upd No w w') := by
  have HU : Upd (fun b => False) w w := Upd.refl _ _
  have hl_hs := ilen hs
  have hc_hs := hs.cap.1
  refine calls_of_W Try.func8 rfl Try.ntmps8 (by simp) ?_
  refine W_seq ?_
  refine W_region ?_
  refine Wl_v (r_as (v := .bool false) rfl) ?_
  refine Wl_nil ?_
  refine W_seq ?_
  refine W_seq ?_
  refine W_region ?_
  refine Wl_v (r_mv (v := .slice a n c) rfl) ?_
  refine Wl_v (r_len Try.underlying22 rfl) ?_
  refine Wl_v (r_gt rfl rfl) ?_
  refine Wl_nil ?_
  by_cases q1 : 400 < ((n : Nat) : Int)
  · rw [decide_eq_true q1]
    refine W_cond_t rfl ?_
    refine W_seq ?_
    refine W_region ?_
    refine Wl_call (r_call0 rfl Try.call12 ) (works_spec _ ) ?_
    rintro v w1 ⟨rfl, hU1⟩
    have hzw1 := hU1.size
    replace hs := hs.upd0 hU1
    replace HU := HU.trans0 hU1
    refine Wl_v (r_as (v := .bool true) rfl) ?_
    refine Wl_nil ?_
    refine W_ret ?_
    refine ret_end (v := .bool true) rfl (res1 Try.results8 rfl) ?_
    exact ⟨_, rfl, rfl, HU⟩
  · rw [decide_eq_false q1]
    refine W_cond_f rfl ?_
    refine W_skip ?_
    refine W_seq ?_
    refine W_region ?_
    refine Wl_v (r_mv (v := .slice a n c) rfl) ?_
    by_cases q2 : Rt l
    · refine Wl_call (r_call1 rfl Try.call26 rfl) (mlen_ok _ hs (by omega) q2) ?_
      rintro v w2 ⟨rfl, hU2⟩
      have hzw2 := hU2.size
      replace hs := hs.upd0 hU2
      replace HU := HU.trans0 hU2
      refine Wl_v (r_mv (v := .tuple #[.int .i64 (mx l), .int .i64 0]) rfl) ?_
      refine Wl_v (r_ext (v := .int .i64 (mx l)) rfl rfl) ?_
      refine Wl_v (r_ext (v := .int .i64 0) rfl rfl) ?_
      refine Wl_v (r_as (v := .int .i64 (mx l)) rfl) ?_
      refine Wl_v (r_as (v := .int .i64 0) rfl) ?_
      refine Wl_nil ?_
      refine W_seq ?_
      refine W_region ?_
      refine Wl_v (r_mv (v := .slice a n c) rfl) ?_
      refine Wl_call (r_call1 rfl Try.call27 rfl) (longest_spec _ hs (by omega)) ?_
      rintro v w3 ⟨rfl, hU3⟩
      have hzw3 := hU3.size
      replace hs := hs.upd0 hU3
      replace HU := HU.trans0 hU3
      refine Wl_v (r_mv (v := .tuple #[.int .i64 (if Rt l then mx l else 0), .int .i64 (if Rt l then (0 : Int) else 12)]) rfl) ?_
      refine Wl_v (r_ext (v := .int .i64 (if Rt l then mx l else 0)) rfl rfl) ?_
      refine Wl_v (r_ext (v := .int .i64 (if Rt l then (0 : Int) else 12)) rfl rfl) ?_
      refine Wl_v (r_as (v := .int .i64 (if Rt l then mx l else 0)) rfl) ?_
      refine Wl_v (r_as (v := .int .i64 (if Rt l then (0 : Int) else 12)) rfl) ?_
      refine Wl_nil ?_
      refine W_seq ?_
      refine W_region ?_
      refine Wl_v (r_mv (v := .int .i64 (mx l)) rfl) ?_
      refine Wl_v (r_mv (v := .int .i64 (if Rt l then mx l else 0)) rfl) ?_
      refine Wl_v (r_eq rfl rfl) ?_
      refine Wl_v (r_mv (v := .bool (decide ((mx l) = (if Rt l then mx l else 0)))) rfl) ?_
      have q3 : (mx l) = (if Rt l then mx l else 0) := (by rw [if_pos q2])
      rw [decide_eq_true q3]
      refine Wl_guard_t rfl ?_
      refine Wl_v (r_mv (v := .int .i64 0) rfl) ?_
      refine Wl_guard_t rfl ?_
      refine Wl_call (r_call1 rfl Try.call14 rfl) (num_spec _ ) ?_
      rintro v w4 ⟨rfl, hU4⟩
      have hzw4 := hU4.size
      replace hs := hs.upd0 hU4
      replace HU := HU.trans0 hU4
      refine Wl_guard_t rfl ?_
      refine Wl_v (r_mv (v := .int .i64 (if Rt l then (0 : Int) else 12)) rfl) ?_
      refine Wl_guard_t rfl ?_
      refine Wl_v (r_eq rfl rfl) ?_
      refine Wl_v (r_pick_t (v := .bool (decide (0 = (if Rt l then (0 : Int) else 12)))) rfl rfl) ?_
      refine Wl_v (r_mv (v := .bool (decide (0 = (if Rt l then (0 : Int) else 12)))) rfl) ?_
      have q4 : 0 = (if Rt l then (0 : Int) else 12) := (by rw [if_pos q2])
      rw [decide_eq_true q4]
      refine Wl_guard_t rfl ?_
      refine Wl_call (r_call0 rfl Try.call12 ) (works_spec _ ) ?_
      rintro v w5 ⟨rfl, hU5⟩
      have hzw5 := hU5.size
      replace hs := hs.upd0 hU5
      replace HU := HU.trans0 hU5
      refine Wl_v (r_pick_t (v := .bool true) rfl rfl) ?_
      refine Wl_v (r_as (v := .bool true) rfl) ?_
      refine Wl_nil ?_
      refine W_ret ?_
      refine ret_end (v := .bool true) rfl (res1 Try.results8 rfl) ?_
      exact ⟨_, rfl, rfl, HU⟩
    · refine Wl_call (r_call1 rfl Try.call26 rfl) (mlen_no _ hs (by omega) q2) ?_
      rintro v w6 ⟨rfl, hU6⟩
      have hzw6 := hU6.size
      replace hs := hs.upd0 hU6
      replace HU := HU.trans0 hU6
      refine Wl_v (r_mv (v := .tuple #[.int .i64 0, .int .i64 12]) rfl) ?_
      refine Wl_v (r_ext (v := .int .i64 0) rfl rfl) ?_
      refine Wl_v (r_ext (v := .int .i64 12) rfl rfl) ?_
      refine Wl_v (r_as (v := .int .i64 0) rfl) ?_
      refine Wl_v (r_as (v := .int .i64 12) rfl) ?_
      refine Wl_nil ?_
      refine W_seq ?_
      refine W_region ?_
      refine Wl_v (r_mv (v := .slice a n c) rfl) ?_
      refine Wl_call (r_call1 rfl Try.call27 rfl) (longest_spec _ hs (by omega)) ?_
      rintro v w7 ⟨rfl, hU7⟩
      have hzw7 := hU7.size
      replace hs := hs.upd0 hU7
      replace HU := HU.trans0 hU7
      refine Wl_v (r_mv (v := .tuple #[.int .i64 (if Rt l then mx l else 0), .int .i64 (if Rt l then (0 : Int) else 12)]) rfl) ?_
      refine Wl_v (r_ext (v := .int .i64 (if Rt l then mx l else 0)) rfl rfl) ?_
      refine Wl_v (r_ext (v := .int .i64 (if Rt l then (0 : Int) else 12)) rfl rfl) ?_
      refine Wl_v (r_as (v := .int .i64 (if Rt l then mx l else 0)) rfl) ?_
      refine Wl_v (r_as (v := .int .i64 (if Rt l then (0 : Int) else 12)) rfl) ?_
      refine Wl_nil ?_
      refine W_seq ?_
      refine W_region ?_
      refine Wl_v (r_mv (v := .int .i64 0) rfl) ?_
      refine Wl_v (r_mv (v := .int .i64 (if Rt l then mx l else 0)) rfl) ?_
      refine Wl_v (r_eq rfl rfl) ?_
      refine Wl_v (r_mv (v := .bool (decide (0 = (if Rt l then mx l else 0)))) rfl) ?_
      have q5 : 0 = (if Rt l then mx l else 0) := (by rw [if_neg q2])
      rw [decide_eq_true q5]
      refine Wl_guard_t rfl ?_
      refine Wl_v (r_mv (v := .int .i64 12) rfl) ?_
      refine Wl_guard_t rfl ?_
      refine Wl_call (r_call1 rfl Try.call14 rfl) (num_spec _ ) ?_
      rintro v w8 ⟨rfl, hU8⟩
      have hzw8 := hU8.size
      replace hs := hs.upd0 hU8
      replace HU := HU.trans0 hU8
      refine Wl_guard_t rfl ?_
      refine Wl_v (r_mv (v := .int .i64 (if Rt l then (0 : Int) else 12)) rfl) ?_
      refine Wl_guard_t rfl ?_
      refine Wl_v (r_eq rfl rfl) ?_
      refine Wl_v (r_pick_t (v := .bool (decide (12 = (if Rt l then (0 : Int) else 12)))) rfl rfl) ?_
      refine Wl_v (r_mv (v := .bool (decide (12 = (if Rt l then (0 : Int) else 12)))) rfl) ?_
      have q6 : 12 = (if Rt l then (0 : Int) else 12) := (by rw [if_neg q2])
      rw [decide_eq_true q6]
      refine Wl_guard_t rfl ?_
      refine Wl_call (r_call0 rfl Try.call12 ) (works_spec _ ) ?_
      rintro v w9 ⟨rfl, hU9⟩
      have hzw9 := hU9.size
      replace hs := hs.upd0 hU9
      replace HU := HU.trans0 hU9
      refine Wl_v (r_pick_t (v := .bool true) rfl rfl) ?_
      refine Wl_v (r_as (v := .bool true) rfl) ?_
      refine Wl_nil ?_
      refine W_ret ?_
      refine ret_end (v := .bool true) rfl (res1 Try.results8 rfl) ?_
      exact ⟨_, rfl, rfl, HU⟩

set_option maxHeartbeats 1000000 in
theorem canonof {a : Option Addr} {n c : Nat} {cs : List (Int × Int)} (w : World) (hs : Sl w (fun g => g < w.heap.size) 2 (.slice a n c) n (rows encC cs)) (hn : n ≤ 17592186044415) :
    Calls Try.prog 7 #[.slice a n c] w (Ret fun v w' => v = .bool true ∧ Upd No w w') := by
  have HU : Upd (fun b => False) w w := Upd.refl _ _
  have hl_hs := rlen encC_len (by decide) hs
  have hc_hs := hs.cap.1
  refine calls_of_W Try.func7 rfl Try.ntmps7 (by simp) ?_
  refine W_seq ?_
  refine W_region ?_
  refine Wl_v (r_as (v := .bool false) rfl) ?_
  refine Wl_nil ?_
  refine W_seq ?_
  refine W_seq ?_
  refine W_region ?_
  refine Wl_v (r_mv (v := .slice a n c) rfl) ?_
  refine Wl_v (r_len Try.underlying28 rfl) ?_
  refine Wl_v (r_gt rfl rfl) ?_
  refine Wl_nil ?_
  by_cases q1 : 300 < ((n : Nat) : Int)
  · rw [decide_eq_true q1]
    refine W_cond_t rfl ?_
    refine W_seq ?_
    refine W_region ?_
    refine Wl_call (r_call0 rfl Try.call12 ) (works_spec _ ) ?_
    rintro v w1 ⟨rfl, hU1⟩
    have hzw1 := hU1.size
    replace hs := hs.upd0 hU1
    replace HU := HU.trans0 hU1
    refine Wl_v (r_as (v := .bool true) rfl) ?_
    refine Wl_nil ?_
    refine W_ret ?_
    refine ret_end (v := .bool true) rfl (res1 Try.results7 rfl) ?_
    exact ⟨_, rfl, rfl, HU⟩
  · rw [decide_eq_false q1]
    refine W_cond_f rfl ?_
    refine W_skip ?_
    refine W_seq ?_
    refine W_region ?_
    refine Wl_lit0 Try.underlying28 Try.sizeOf37 ?_
    intro B2 w2 hB2 hU2 hzz2 hs2
    have hzw2 := hU2.size
    replace hs := hs.upd0 hU2
    replace HU := HU.trans0 hU2
    refine Wl_v (r_mv (v := .slice a n c) rfl) ?_
    refine Wl_appendc (cs3 := rows encC cs) (tot := n) (by first | rfl | simp) Try.underlying28 (ti := Try.t37) (z := .agg #[.int .i64 0, .int .u32 0]) (sz := 2) (by' := 16) rfl rfl rfl rfl rfl (by decide) rfl hs2 rfl hs (rows_one encC_one _) (by omega) (by simp only [maxLen]; omega) (by omega) ?_
    intro a3 c3 w3 hU3 hzz3 hO3
    clear hs2
    have hzw3 := hU3.size
    replace hs := hs.upd hU3 (by intro x h1 h2; have h3 : x < w.heap.size := h1; have h4 : x = B2 := h2; omega)
    replace HU := HU.trans hU3 (by intro x hx; have hx2 : x = B2 := hx; show (False) ∨ w.heap.size ≤ x; omega)
    replace hO3 := hO3.tight
    have hl_hO3 := rlen encC_len (by decide) hO3.sl
    have hc_hO3 := hO3.sl.cap.1
    refine Wl_v (r_as (v := .slice a3 n c3) rfl) ?_
    refine Wl_nil ?_
    refine W_seq ?_
    refine W_region ?_
    refine Wl_v (r_mv (v := .slice a3 n c3) rfl) ?_
    refine Wl_call (r_call1 rfl Try.call24 rfl) (fromcodes_spec _ hO3.sl (by omega)) ?_
    rintro v w4 ⟨a4, n4, c4, rfl, hO4, hU4⟩
    have hzw4 := hU4.size
    replace hs := hs.upd0 hU4
    replace HU := HU.trans0 hU4
    replace hO3 := hO3.upd0 hU4
    replace hO4 := hO4.tight
    have hl_hO4 := ilen hO4.sl
    have hc_hO4 := hO4.sl.cap.1
    have hofc := ofc_len cs
    refine Wl_v (r_mv (v := .tuple #[.slice a4 n4 c4, .int .i64 ((ofc cs).2)]) rfl) ?_
    refine Wl_v (r_ext (v := .slice a4 n4 c4) rfl rfl) ?_
    refine Wl_v (r_ext (v := .int .i64 ((ofc cs).2)) rfl rfl) ?_
    refine Wl_v (r_as (v := .slice a4 n4 c4) rfl) ?_
    refine Wl_v (r_as (v := .int .i64 ((ofc cs).2)) rfl) ?_
    refine Wl_nil ?_
    refine W_seq ?_
    refine W_region ?_
    refine Wl_v (r_mv (v := .slice a n c) rfl) ?_
    refine Wl_call (r_call1 rfl Try.call25 rfl) (rof_spec _ hs (by omega)) ?_
    rintro v w5 ⟨a5, n5, c5, rfl, hO5, hU5⟩
    have hzw5 := hU5.size
    replace hs := hs.upd0 hU5
    replace HU := HU.trans0 hU5
    replace hO3 := hO3.upd0 hU5
    replace hO4 := hO4.upd0 hU5
    replace hO5 := hO5.tight
    have hl_hO5 := ilen hO5.sl
    have hc_hO5 := hO5.sl.cap.1
    refine Wl_v (r_mv (v := .tuple #[.slice a5 n5 c5, .int .i64 ((ofc cs).2)]) rfl) ?_
    refine Wl_v (r_ext (v := .slice a5 n5 c5) rfl rfl) ?_
    refine Wl_v (r_ext (v := .int .i64 ((ofc cs).2)) rfl rfl) ?_
    refine Wl_v (r_as (v := .slice a5 n5 c5) rfl) ?_
    refine Wl_v (r_as (v := .int .i64 ((ofc cs).2)) rfl) ?_
    refine Wl_nil ?_
    refine W_seq ?_
    refine W_region ?_
    refine Wl_v (r_mv (v := .slice a4 n4 c4) rfl) ?_
    refine Wl_v (r_mv (v := .slice a5 n5 c5) rfl) ?_
    refine Wl_call (r_call2 rfl Try.call19 rfl rfl) (lints_spec _ hO4.sl hO5.sl (by omega)) ?_
    rintro v w6 ⟨rfl, hU6⟩
    have hzw6 := hU6.size
    replace hs := hs.upd0 hU6
    replace HU := HU.trans0 hU6
    replace hO3 := hO3.upd0 hU6
    replace hO4 := hO4.upd0 hU6
    replace hO5 := hO5.upd0 hU6
    refine Wl_v (r_mv (v := .bool (decide (((ofc cs).1) = ((ofc cs).1)))) rfl) ?_
    have q2 : ((ofc cs).1) = ((ofc cs).1) := rfl
    rw [decide_eq_true q2]
    refine Wl_guard_t rfl ?_
    refine Wl_v (r_mv (v := .int .i64 ((ofc cs).2)) rfl) ?_
    refine Wl_guard_t rfl ?_
    refine Wl_call (r_call1 rfl Try.call14 rfl) (num_spec _ ) ?_
    rintro v w7 ⟨rfl, hU7⟩
    have hzw7 := hU7.size
    replace hs := hs.upd0 hU7
    replace HU := HU.trans0 hU7
    replace hO3 := hO3.upd0 hU7
    replace hO4 := hO4.upd0 hU7
    replace hO5 := hO5.upd0 hU7
    refine Wl_guard_t rfl ?_
    refine Wl_v (r_mv (v := .int .i64 ((ofc cs).2)) rfl) ?_
    refine Wl_guard_t rfl ?_
    refine Wl_v (r_eq rfl rfl) ?_
    refine Wl_v (r_pick_t (v := .bool (decide (((ofc cs).2) = ((ofc cs).2)))) rfl rfl) ?_
    refine Wl_v (r_mv (v := .bool (decide (((ofc cs).2) = ((ofc cs).2)))) rfl) ?_
    have q3 : ((ofc cs).2) = ((ofc cs).2) := rfl
    rw [decide_eq_true q3]
    refine Wl_guard_t rfl ?_
    refine Wl_v (r_mv (v := .slice a3 n c3) rfl) ?_
    refine Wl_guard_t rfl ?_
    refine Wl_v (r_mv (v := .slice a n c) rfl) ?_
    refine Wl_guard_t rfl ?_
    refine Wl_call (r_call2 rfl Try.call18 rfl rfl) (lcodes_spec _ hO3.sl hs (by omega)) ?_
    rintro v w8 ⟨rfl, hU8⟩
    have hzw8 := hU8.size
    replace hs := hs.upd0 hU8
    replace HU := HU.trans0 hU8
    replace hO3 := hO3.upd0 hU8
    replace hO4 := hO4.upd0 hU8
    replace hO5 := hO5.upd0 hU8
    refine Wl_v (r_pick_t (v := .bool (decide (cs = cs))) rfl rfl) ?_
    refine Wl_v (r_mv (v := .bool (decide (cs = cs))) rfl) ?_
    have q4 : cs = cs := rfl
    rw [decide_eq_true q4]
    refine Wl_guard_t rfl ?_
    refine Wl_call (r_call0 rfl Try.call12 ) (works_spec _ ) ?_
    rintro v w9 ⟨rfl, hU9⟩
    have hzw9 := hU9.size
    replace hs := hs.upd0 hU9
    replace HU := HU.trans0 hU9
    replace hO3 := hO3.upd0 hU9
    replace hO4 := hO4.upd0 hU9
    replace hO5 := hO5.upd0 hU9
    refine Wl_v (r_pick_t (v := .bool true) rfl rfl) ?_
    refine Wl_v (r_as (v := .bool true) rfl) ?_
    refine Wl_nil ?_
    refine W_ret ?_
    refine ret_end (v := .bool true) rfl (res1 Try.results7 rfl) ?_
    exact ⟨_, rfl, rfl, HU⟩

theorem pfx_self (a : Int × Int) (h : 0 ≤ a.2) : Pfx a a ↔ Vc a := by
  unfold Pfx
  have e : (2 : Int) ^ (min (a.1 - a.1).toNat IntKind.u32.bits) = 1 := by rw [Int.sub_self]; decide
  rw [e, Int.ediv_one]
  exact ⟨fun h => h.1, fun h => ⟨h, h, Int.le_refl _, rfl⟩⟩

set_option maxHeartbeats 1000000 in
theorem canonbegins {a b : Int × Int} (w : World) (ha : 0 ≤ a.2 ∧ a.2 < 4294967296) (hb : 0 ≤ b.2 ∧ b.2 < 4294967296) :
    Calls Try.prog 9 #[.agg #[.int .i64 a.1, .int .u32 a.2], .agg #[.int .i64 b.1, .int .u32 b.2]] w (Ret fun v w' => v = .bool true ∧ Upd No w w') := by
  have HU : Upd (fun b => False) w w := Upd.refl _ _
  refine calls_of_W Try.func9 rfl Try.ntmps9 (by simp) ?_
  refine W_seq ?_
  refine W_region ?_
  refine Wl_box (v := .agg #[.int .i64 a.1, .int .u32 a.2]) (cs := [.int .i64 a.1, .int .u32 a.2]) rfl rfl ?_
  intro B1 w1 hB1 hU1 hzz1 hb1
  have hzw1 := hU1.size
  replace HU := HU.trans0 hU1
  refine Wl_box (v := .agg #[.int .i64 b.1, .int .u32 b.2]) (cs := [.int .i64 b.1, .int .u32 b.2]) rfl rfl ?_
  intro B2 w2 hB2 hU2 hzz2 hb2
  have hzw2 := hU2.size
  replace HU := HU.trans0 hU2
  replace hb1 := hb1.upd0 hU2
  refine Wl_v (r_as (v := .bool false) rfl) ?_
  refine Wl_nil ?_
  refine W_seq ?_
  refine W_drawt rfl (l0 := #[false, false, false, false, false, false, false, false, false, false, false, false, false, false, false, false, false, false, false, false, false, false, false, false, false, false, false, false]) (by kernel_rfl) ?_
  refine Wt_take (i := 0) (listed' := #[true, false, false, false, false, false, false, false, false, false, false, false, false, false, false, false, false, false, false, false, false, false, false, false, false, false, false, false]) (by kernel_rfl) rfl (by kernel_rfl) (by kernel_rfl) (by kernel_rfl) (by kernel_rfl) (YI_v (v := .agg #[.int .i64 a.1, .int .u32 a.2]) rfl (fun w' hw' => r_loada (b := B1) (off := 0) (cs := [.int .i64 a.1, .int .u32 a.2]) Try.isAgg37 Try.sizeOf37 rfl rfl (fun j hj => by rw [(hb1.upd0 hw').cell]; match j, hj with | 0, _ => rfl | 1, _ => rfl))) ?_
  refine Wt_take (i := 1) (listed' := #[true, true, false, false, false, false, false, false, false, false, false, false, false, false, false, false, false, false, false, false, false, false, false, false, false, false, false, false]) (by kernel_rfl) rfl (by kernel_rfl) (by kernel_rfl) (by kernel_rfl) (by kernel_rfl) (YI_v (v := .agg #[.int .i64 b.1, .int .u32 b.2]) rfl (fun w' hw' => r_loada (b := B2) (off := 0) (cs := [.int .i64 b.1, .int .u32 b.2]) Try.isAgg37 Try.sizeOf37 rfl rfl (fun j hj => by rw [(hb2.upd0 hw').cell]; match j, hj with | 0, _ => rfl | 1, _ => rfl))) ?_
  refine Wt_take (i := 2) (listed' := #[true, true, true, false, false, false, false, false, false, false, false, false, false, false, false, false, false, false, false, false, false, false, false, false, false, false, false, false]) (by kernel_rfl) rfl (by kernel_rfl) (by kernel_rfl) (by kernel_rfl) (by kernel_rfl) (YI_c (v := .bool (decide (Pfx a b))) rfl (fun w' => r_call2 rfl Try.call28 rfl rfl) (fun w' hw' => isprefix_spec w' (by omega) (by omega))) ?_
  refine Wt_take (i := 3) (listed' := #[true, true, true, true, false, false, false, false, false, false, false, false, false, false, false, false, false, false, false, false, false, false, false, false, false, false, false, false]) (by kernel_rfl) rfl (by kernel_rfl) (by kernel_rfl) (by kernel_rfl) (by kernel_rfl) (YI_v (v := .agg #[.int .i64 a.1, .int .u32 a.2]) rfl (fun w' hw' => r_loada (b := B1) (off := 0) (cs := [.int .i64 a.1, .int .u32 a.2]) Try.isAgg37 Try.sizeOf37 rfl rfl (fun j hj => by rw [(hb1.upd0 hw').cell]; match j, hj with | 0, _ => rfl | 1, _ => rfl))) ?_
  refine Wt_take (i := 4) (listed' := #[true, true, true, true, true, false, false, false, false, false, false, false, false, false, false, false, false, false, false, false, false, false, false, false, false, false, false, false]) (by kernel_rfl) rfl (by kernel_rfl) (by kernel_rfl) (by kernel_rfl) (by kernel_rfl) (YI_v (v := .agg #[.int .i64 b.1, .int .u32 b.2]) rfl (fun w' hw' => r_loada (b := B2) (off := 0) (cs := [.int .i64 b.1, .int .u32 b.2]) Try.isAgg37 Try.sizeOf37 rfl rfl (fun j hj => by rw [(hb2.upd0 hw').cell]; match j, hj with | 0, _ => rfl | 1, _ => rfl))) ?_
  refine Wt_take (i := 5) (listed' := #[true, true, true, true, true, true, false, false, false, false, false, false, false, false, false, false, false, false, false, false, false, false, false, false, false, false, false, false]) (by kernel_rfl) rfl (by kernel_rfl) (by kernel_rfl) (by kernel_rfl) (by kernel_rfl) (YI_c (v := .bool (decide (Pfx a b))) rfl (fun w' => r_call2 rfl Try.call29 rfl rfl) (fun w' hw' => begins_spec w' (by omega) (by omega))) ?_
  refine Wt_take (i := 6) (listed' := #[true, true, true, true, true, true, true, false, false, false, false, false, false, false, false, false, false, false, false, false, false, false, false, false, false, false, false, false]) (by kernel_rfl) rfl (by kernel_rfl) (by kernel_rfl) (by kernel_rfl) (by kernel_rfl) (YI_v (v := .bool (decide ((Pfx a b) ↔ (Pfx a b)))) rfl (fun w' hw' => r_eqbp Try.underlying4 rfl rfl)) ?_
  refine Wt_take (i := 7) (listed' := #[true, true, true, true, true, true, true, true, false, false, false, false, false, false, false, false, false, false, false, false, false, false, false, false, false, false, false, false]) (by kernel_rfl) rfl (by kernel_rfl) (by kernel_rfl) (by kernel_rfl) (by kernel_rfl) (YI_v (v := .bool (decide ((Pfx a b) ↔ (Pfx a b)))) rfl (fun w' hw' => r_mv (v := .bool (decide ((Pfx a b) ↔ (Pfx a b)))) rfl)) ?_
  have q1 : (Pfx a b) ↔ (Pfx a b) := Iff.rfl
  rw [decide_eq_true q1]
  refine Wt_take (i := 8) (listed' := #[true, true, true, true, true, true, true, true, true, false, false, false, false, false, false, false, false, false, false, false, false, false, false, false, false, false, false, false]) (by kernel_rfl) rfl (by kernel_rfl) (by kernel_rfl) (by kernel_rfl) (by kernel_rfl) (YI_v (v := .agg #[.int .i64 b.1, .int .u32 b.2]) rfl (fun w' hw' => r_loada (b := B2) (off := 0) (cs := [.int .i64 b.1, .int .u32 b.2]) Try.isAgg37 Try.sizeOf37 rfl rfl (fun j hj => by rw [(hb2.upd0 hw').cell]; match j, hj with | 0, _ => rfl | 1, _ => rfl))) ?_
  refine Wt_take (i := 9) (listed' := #[true, true, true, true, true, true, true, true, true, true, false, false, false, false, false, false, false, false, false, false, false, false, false, false, false, false, false, false]) (by kernel_rfl) rfl (by kernel_rfl) (by kernel_rfl) (by kernel_rfl) (by kernel_rfl) (YI_v (v := .agg #[.int .i64 a.1, .int .u32 a.2]) rfl (fun w' hw' => r_loada (b := B1) (off := 0) (cs := [.int .i64 a.1, .int .u32 a.2]) Try.isAgg37 Try.sizeOf37 rfl rfl (fun j hj => by rw [(hb1.upd0 hw').cell]; match j, hj with | 0, _ => rfl | 1, _ => rfl))) ?_
  refine Wt_take (i := 10) (listed' := #[true, true, true, true, true, true, true, true, true, true, true, false, false, false, false, false, false, false, false, false, false, false, false, false, false, false, false, false]) (by kernel_rfl) rfl (by kernel_rfl) (by kernel_rfl) (by kernel_rfl) (by kernel_rfl) (YI_c (v := .bool (decide (Pfx b a))) rfl (fun w' => r_call2 rfl Try.call28 rfl rfl) (fun w' hw' => isprefix_spec w' (by omega) (by omega))) ?_
  refine Wt_take (i := 11) (listed' := #[true, true, true, true, true, true, true, true, true, true, true, true, false, false, false, false, false, false, false, false, false, false, false, false, false, false, false, false]) (by kernel_rfl) rfl (by kernel_rfl) (by kernel_rfl) (by kernel_rfl) (by kernel_rfl) (YI_v (v := .agg #[.int .i64 b.1, .int .u32 b.2]) rfl (fun w' hw' => r_loada (b := B2) (off := 0) (cs := [.int .i64 b.1, .int .u32 b.2]) Try.isAgg37 Try.sizeOf37 rfl rfl (fun j hj => by rw [(hb2.upd0 hw').cell]; match j, hj with | 0, _ => rfl | 1, _ => rfl))) ?_
  refine Wt_take (i := 12) (listed' := #[true, true, true, true, true, true, true, true, true, true, true, true, true, false, false, false, false, false, false, false, false, false, false, false, false, false, false, false]) (by kernel_rfl) rfl (by kernel_rfl) (by kernel_rfl) (by kernel_rfl) (by kernel_rfl) (YI_v (v := .agg #[.int .i64 a.1, .int .u32 a.2]) rfl (fun w' hw' => r_loada (b := B1) (off := 0) (cs := [.int .i64 a.1, .int .u32 a.2]) Try.isAgg37 Try.sizeOf37 rfl rfl (fun j hj => by rw [(hb1.upd0 hw').cell]; match j, hj with | 0, _ => rfl | 1, _ => rfl))) ?_
  refine Wt_take (i := 13) (listed' := #[true, true, true, true, true, true, true, true, true, true, true, true, true, true, false, false, false, false, false, false, false, false, false, false, false, false, false, false]) (by kernel_rfl) rfl (by kernel_rfl) (by kernel_rfl) (by kernel_rfl) (by kernel_rfl) (YI_c (v := .bool (decide (Pfx b a))) rfl (fun w' => r_call2 rfl Try.call29 rfl rfl) (fun w' hw' => begins_spec w' (by omega) (by omega))) ?_
  refine Wt_take (i := 14) (listed' := #[true, true, true, true, true, true, true, true, true, true, true, true, true, true, true, false, false, false, false, false, false, false, false, false, false, false, false, false]) (by kernel_rfl) rfl (by kernel_rfl) (by kernel_rfl) (by kernel_rfl) (by kernel_rfl) (YI_v (v := .bool (decide ((Pfx b a) ↔ (Pfx b a)))) rfl (fun w' hw' => r_eqbp Try.underlying4 rfl rfl)) ?_
  refine Wt_take (i := 15) (listed' := #[true, true, true, true, true, true, true, true, true, true, true, true, true, true, true, true, false, false, false, false, false, false, false, false, false, false, false, false]) (by kernel_rfl) rfl (by kernel_rfl) (by kernel_rfl) (by kernel_rfl) (by kernel_rfl) (YI_v rfl (fun w' hw' => r_pick_t (v := .bool (decide ((Pfx b a) ↔ (Pfx b a)))) rfl rfl)) ?_
  refine Wt_take (i := 16) (listed' := #[true, true, true, true, true, true, true, true, true, true, true, true, true, true, true, true, true, false, false, false, false, false, false, false, false, false, false, false]) (by kernel_rfl) rfl (by kernel_rfl) (by kernel_rfl) (by kernel_rfl) (by kernel_rfl) (YI_v (v := .bool (decide ((Pfx b a) ↔ (Pfx b a)))) rfl (fun w' hw' => r_mv (v := .bool (decide ((Pfx b a) ↔ (Pfx b a)))) rfl)) ?_
  have q2 : (Pfx b a) ↔ (Pfx b a) := Iff.rfl
  rw [decide_eq_true q2]
  refine Wt_take (i := 17) (listed' := #[true, true, true, true, true, true, true, true, true, true, true, true, true, true, true, true, true, true, false, false, false, false, false, false, false, false, false, false]) (by kernel_rfl) rfl (by kernel_rfl) (by kernel_rfl) (by kernel_rfl) (by kernel_rfl) (YI_v (v := .agg #[.int .i64 a.1, .int .u32 a.2]) rfl (fun w' hw' => r_loada (b := B1) (off := 0) (cs := [.int .i64 a.1, .int .u32 a.2]) Try.isAgg37 Try.sizeOf37 rfl rfl (fun j hj => by rw [(hb1.upd0 hw').cell]; match j, hj with | 0, _ => rfl | 1, _ => rfl))) ?_
  refine Wt_take (i := 18) (listed' := #[true, true, true, true, true, true, true, true, true, true, true, true, true, true, true, true, true, true, true, false, false, false, false, false, false, false, false, false]) (by kernel_rfl) rfl (by kernel_rfl) (by kernel_rfl) (by kernel_rfl) (by kernel_rfl) (YI_v (v := .agg #[.int .i64 a.1, .int .u32 a.2]) rfl (fun w' hw' => r_loada (b := B1) (off := 0) (cs := [.int .i64 a.1, .int .u32 a.2]) Try.isAgg37 Try.sizeOf37 rfl rfl (fun j hj => by rw [(hb1.upd0 hw').cell]; match j, hj with | 0, _ => rfl | 1, _ => rfl))) ?_
  refine Wt_take (i := 19) (listed' := #[true, true, true, true, true, true, true, true, true, true, true, true, true, true, true, true, true, true, true, true, false, false, false, false, false, false, false, false]) (by kernel_rfl) rfl (by kernel_rfl) (by kernel_rfl) (by kernel_rfl) (by kernel_rfl) (YI_c (v := .bool (decide (Pfx a a))) rfl (fun w' => r_call2 rfl Try.call28 rfl rfl) (fun w' hw' => isprefix_spec w' (by omega) (by omega))) ?_
  refine Wt_take (i := 20) (listed' := #[true, true, true, true, true, true, true, true, true, true, true, true, true, true, true, true, true, true, true, true, true, false, false, false, false, false, false, false]) (by kernel_rfl) rfl (by kernel_rfl) (by kernel_rfl) (by kernel_rfl) (by kernel_rfl) (YI_v (v := .agg #[.int .i64 a.1, .int .u32 a.2]) rfl (fun w' hw' => r_loada (b := B1) (off := 0) (cs := [.int .i64 a.1, .int .u32 a.2]) Try.isAgg37 Try.sizeOf37 rfl rfl (fun j hj => by rw [(hb1.upd0 hw').cell]; match j, hj with | 0, _ => rfl | 1, _ => rfl))) ?_
  refine Wt_take (i := 21) (listed' := #[true, true, true, true, true, true, true, true, true, true, true, true, true, true, true, true, true, true, true, true, true, true, false, false, false, false, false, false]) (by kernel_rfl) rfl (by kernel_rfl) (by kernel_rfl) (by kernel_rfl) (by kernel_rfl) (YI_c (v := .bool (decide (Vc a))) rfl (fun w' => r_call1 rfl Try.call30 rfl) (fun w' hw' => may_spec w' )) ?_
  refine Wt_take (i := 22) (listed' := #[true, true, true, true, true, true, true, true, true, true, true, true, true, true, true, true, true, true, true, true, true, true, true, false, false, false, false, false]) (by kernel_rfl) rfl (by kernel_rfl) (by kernel_rfl) (by kernel_rfl) (by kernel_rfl) (YI_v (v := .bool (decide ((Pfx a a) ↔ (Vc a)))) rfl (fun w' hw' => r_eqbp Try.underlying4 rfl rfl)) ?_
  refine Wt_take (i := 23) (listed' := #[true, true, true, true, true, true, true, true, true, true, true, true, true, true, true, true, true, true, true, true, true, true, true, true, false, false, false, false]) (by kernel_rfl) rfl (by kernel_rfl) (by kernel_rfl) (by kernel_rfl) (by kernel_rfl) (YI_v rfl (fun w' hw' => r_pick_t (v := .bool (decide ((Pfx a a) ↔ (Vc a)))) rfl rfl)) ?_
  refine Wt_take (i := 24) (listed' := #[true, true, true, true, true, true, true, true, true, true, true, true, true, true, true, true, true, true, true, true, true, true, true, true, true, false, false, false]) (by kernel_rfl) rfl (by kernel_rfl) (by kernel_rfl) (by kernel_rfl) (by kernel_rfl) (YI_v (v := .bool (decide ((Pfx a a) ↔ (Vc a)))) rfl (fun w' hw' => r_mv (v := .bool (decide ((Pfx a a) ↔ (Vc a)))) rfl)) ?_
  have q3 : (Pfx a a) ↔ (Vc a) := (pfx_self _ (by omega))
  rw [decide_eq_true q3]
  refine Wt_take (i := 25) (listed' := #[true, true, true, true, true, true, true, true, true, true, true, true, true, true, true, true, true, true, true, true, true, true, true, true, true, true, false, false]) (by kernel_rfl) rfl (by kernel_rfl) (by kernel_rfl) (by kernel_rfl) (by kernel_rfl) (YI_c (v := .bool true) rfl (fun w' => r_call0 rfl Try.call12 ) (fun w' hw' => works_spec w' )) ?_
  refine Wt_take (i := 26) (listed' := #[true, true, true, true, true, true, true, true, true, true, true, true, true, true, true, true, true, true, true, true, true, true, true, true, true, true, true, false]) (by kernel_rfl) rfl (by kernel_rfl) (by kernel_rfl) (by kernel_rfl) (by kernel_rfl) (YI_v rfl (fun w' hw' => r_pick_t (v := .bool true) rfl rfl)) ?_
  refine Wt_take (i := 27) (listed' := #[true, true, true, true, true, true, true, true, true, true, true, true, true, true, true, true, true, true, true, true, true, true, true, true, true, true, true, true]) (by kernel_rfl) rfl (by kernel_rfl) (by kernel_rfl) (by kernel_rfl) (by kernel_rfl) (YI_v (v := .bool true) rfl (fun w' hw' => r_as (v := .bool true) rfl)) ?_
  intro w3 hU3
  have hzw3 := hU3.size
  replace HU := HU.trans0 hU3
  replace hb1 := hb1.upd0 hU3
  replace hb2 := hb2.upd0 hU3
  refine Wa_done (by kernel_rfl) ?_
  refine W_ret ?_
  refine ret_end (v := .bool true) rfl (res1 Try.results9 rfl) ?_
  exact ⟨_, rfl, rfl, HU⟩

end Go.Proofs.Ytakbopikohghmaa
