/-
 Walks, printed by a small program of this project (gen.py).
-/
import Derived.Test.YtdppageondgjkaaGreatVe
set_option linter.unusedVariables false
set_option linter.unusedSimpArgs false
set_option maxRecDepth 100000
namespace Go.Proofs.YtdppageondgjkaaGreat
open Go.Fw _root_.Go.Proofs.Tryz
open Nu
theorem rparts_ok {n : Int} (w : World) (hni : -9223372036854775808 ≤ n ∧ n ≤ 9223372036854775807) (hp : paF n = 0) :
  Calls Tryz.prog 12 #[.int .i64 n] w (Ret fun v w' => ∃ (a' : Option Addr) (c' : Nat), v = .tuple #[.slice a' 4 c', .int .i64 0] ∧ Own w' (fun g => w.heap.size ≤ g) 3 1 (.slice a' 4 c') 4 (ints .i64 [(n + 3) / 4, (n + 3) / 4, (n + 3) / 4, n - 3 * ((n + 3) / 4)]) ∧ Upd No w w') := by
 have HU := Upd.rno w
 have hpi := paF_inv hp
 refine calls_of_W func12 rfl ntmps12 (by simp) ?_
 refine W_seq (W_region ?_)
 refine Was (.slice none 0 0) ?_
 refine Was (.int .i64 0) ?_
 refine Wl_nil (W_seq (W_seq (W_region ?_)))
 refine Wmv (.int .i64 n) ?_
 refine Wl_v (r_lt rfl rfl) ?_
 refine Wmv (.bool (decide (n < 0))) ?_
 have q1 : ¬ (n < 0) := (by omega)
 rw [decide_eq_false q1]
 refine Wl_guard_t rfl ?_
 refine Wmv (.int .i64 n) ?_
 refine Wl_guard_t rfl ?_
 refine Wl_v (r_gt rfl rfl) ?_
 refine Wl_v (r_pick_f (v := .bool (decide (131072 < n))) rfl rfl) ?_
 refine Wl_nil ?_
 have q2 : ¬ (131072 < n) := (by omega)
 rw [decide_eq_false q2]
 refine W_cond_f rfl ?_
 refine W_skip (W_seq (W_region ?_))
 refine Wmv (.int .i64 n) ?_
 refine Wl_v (r_quo rfl rfl (by omega) (tq (by omega) (wi64 (by omega) (by omega)))) ?_
 refine Was (.int .i64 (n / 4)) ?_
 refine Wl_nil (W_seq (W_seq (W_region ?_)))
 refine Wmv (.int .i64 n) ?_
 refine Wl_v (r_rem rfl rfl (by omega) (tr (by omega))) ?_
 refine Wl_v (r_gt rfl rfl) ?_
 refine Wl_nil ?_
 by_cases q3 : 0 < (n % 4)
 ·rw [decide_eq_true q3]
  refine W_cond_t rfl ?_
  refine W_region ?_
  refine Wmv (.int .i64 (n / 4)) ?_
  refine Wl_v (r_add rfl rfl (wi64 (by omega) (by omega))) ?_
  refine Was (.int .i64 ((n / 4) + 1)) ?_
  refine Wl_nil (W_seq (W_seq (W_region ?_)))
  refine Wmv (.int .i64 n) ?_
  refine Wmv (.int .i64 ((n / 4) + 1)) ?_
  refine Wl_v (r_mul rfl rfl (wi64 (by omega) (by omega))) ?_
  refine Wl_v (r_sub rfl rfl (wi64 (by omega) (by omega))) ?_
  refine Wl_v (r_lt rfl rfl) ?_
  refine Wl_nil ?_
  have q4 : ¬ ((n - (3 * ((n / 4) + 1))) < 1) := (by omega)
  rw [decide_eq_false q4]
  refine W_cond_f rfl ?_
  refine W_skip (W_seq (W_region ?_))
  refine Wmv (.int .i64 ((n / 4) + 1)) ?_
  refine Wmv (.int .i64 ((n / 4) + 1)) ?_
  refine Wmv (.int .i64 ((n / 4) + 1)) ?_
  refine Wmv (.int .i64 n) ?_
  refine Wmv (.int .i64 ((n / 4) + 1)) ?_
  refine Wl_v (r_mul rfl rfl (wi64 (by omega) (by omega))) ?_
  refine Wl_v (r_sub rfl rfl (wi64 (by omega) (by omega))) ?_
  refine Wl_lit (pv := [(0, .int .i64 ((n / 4) + 1)), (1, .int .i64 ((n / 4) + 1)), (2, .int .i64 ((n / 4) + 1)), (3, .int .i64 (n - (3 * ((n / 4) + 1))))]) (cs := [.int .i64 ((n / 4) + 1), .int .i64 ((n / 4) + 1), .int .i64 ((n / 4) + 1), .int .i64 (n - (3 * ((n / 4) + 1)))]) underlying22 sizeOf3 zeroValue3 (by decide) (by decide) (by simp only [List.map_toArray, List.map_cons, List.map_nil] <;> rfl) (by kernel_rfl) rfl (by decide) ?_
  intro B1 w1 hB1 hU1 hzz1 hs1
  have hzw1 := hU1.size
  replace HU := HU.trans0 hU1
  replace hs1 : Own w1 (Is B1) 3 1 (.slice (some ⟨B1, 0, none⟩) 4 4) 4 (ints .i64 [(n / 4) + 1, (n / 4) + 1, (n / 4) + 1, n - (3 * ((n / 4) + 1))]) := hs1
  replace hs1 : Own w1 (Is B1) 3 1 (.slice (some ⟨B1, 0, none⟩) 4 4) 4 (ints .i64 [(n / 4) + 1, (n / 4) + 1, (n / 4) + 1, n - (3 * ((n / 4) + 1))]) := hs1
  refine Was (.slice (some ⟨B1, 0, none⟩) 4 4) ?_
  refine Was (.int .i64 0) ?_
  refine Wl_nil ?_
  refine W_ret ?_
  refine ret_end (v := .tuple #[.slice (some ⟨B1, 0, none⟩) 4 4, .int .i64 0]) rfl (res2 results12 rfl rfl) ?_
  exact ⟨_, rfl, (some ⟨B1, 0, none⟩), 4, rfl, ((hs1.weak (by intro g hg; have h3 : g = B1 := hg; show w.heap.size ≤ g; omega)).icong (by simp only [List.cons.injEq, and_true]; omega)), HU⟩
 rw [decide_eq_false q3]
 refine W_cond_f rfl ?_
 refine W_skip (W_seq (W_seq (W_region ?_)))
 refine Wmv (.int .i64 n) ?_
 refine Wmv (.int .i64 (n / 4)) ?_
 refine Wl_v (r_mul rfl rfl (wi64 (by omega) (by omega))) ?_
 refine Wl_v (r_sub rfl rfl (wi64 (by omega) (by omega))) ?_
 refine Wl_v (r_lt rfl rfl) ?_
 refine Wl_nil ?_
 have q5 : ¬ ((n - (3 * (n / 4))) < 1) := (by omega)
 rw [decide_eq_false q5]
 refine W_cond_f rfl ?_
 refine W_skip (W_seq (W_region ?_))
 refine Wmv (.int .i64 (n / 4)) ?_
 refine Wmv (.int .i64 (n / 4)) ?_
 refine Wmv (.int .i64 (n / 4)) ?_
 refine Wmv (.int .i64 n) ?_
 refine Wmv (.int .i64 (n / 4)) ?_
 refine Wl_v (r_mul rfl rfl (wi64 (by omega) (by omega))) ?_
 refine Wl_v (r_sub rfl rfl (wi64 (by omega) (by omega))) ?_
 refine Wl_lit (pv := [(0, .int .i64 (n / 4)), (1, .int .i64 (n / 4)), (2, .int .i64 (n / 4)), (3, .int .i64 (n - (3 * (n / 4))))]) (cs := [.int .i64 (n / 4), .int .i64 (n / 4), .int .i64 (n / 4), .int .i64 (n - (3 * (n / 4)))]) underlying22 sizeOf3 zeroValue3 (by decide) (by decide) (by simp only [List.map_toArray, List.map_cons, List.map_nil] <;> rfl) (by kernel_rfl) rfl (by decide) ?_
 intro B2 w2 hB2 hU2 hzz2 hs2
 have hzw2 := hU2.size
 replace HU := HU.trans0 hU2
 replace hs2 : Own w2 (Is B2) 3 1 (.slice (some ⟨B2, 0, none⟩) 4 4) 4 (ints .i64 [n / 4, n / 4, n / 4, n - (3 * (n / 4))]) := hs2
 replace hs2 : Own w2 (Is B2) 3 1 (.slice (some ⟨B2, 0, none⟩) 4 4) 4 (ints .i64 [n / 4, n / 4, n / 4, n - (3 * (n / 4))]) := hs2
 refine Was (.slice (some ⟨B2, 0, none⟩) 4 4) ?_
 refine Was (.int .i64 0) ?_
 refine Wl_nil ?_
 refine W_ret ?_
 refine ret_end (v := .tuple #[.slice (some ⟨B2, 0, none⟩) 4 4, .int .i64 0]) rfl (res2 results12 rfl rfl) ?_
 exact ⟨_, rfl, (some ⟨B2, 0, none⟩), 4, rfl, ((hs2.weak (by intro g hg; have h3 : g = B2 := hg; show w.heap.size ≤ g; omega)).icong (by simp only [List.cons.injEq, and_true]; omega)), HU⟩
theorem rparts_11 {n : Int} (w : World) (hp : (0 ≤ n ∧ n ≤ 131072) ∧ ¬ 3 * ((n + 3) / 4) < n) :
  Calls Tryz.prog 12 #[.int .i64 n] w (Ret fun v w' => v = .tuple #[.slice none 0 0, .int .i64 11] ∧ Upd No w w') := by
 have HU := Upd.rno w
 refine calls_of_W func12 rfl ntmps12 (by simp) ?_
 refine W_seq (W_region ?_)
 refine Was (.slice none 0 0) ?_
 refine Was (.int .i64 0) ?_
 refine Wl_nil (W_seq (W_seq (W_region ?_)))
 refine Wmv (.int .i64 n) ?_
 refine Wl_v (r_lt rfl rfl) ?_
 refine Wmv (.bool (decide (n < 0))) ?_
 have q1 : ¬ (n < 0) := (by omega)
 rw [decide_eq_false q1]
 refine Wl_guard_t rfl ?_
 refine Wmv (.int .i64 n) ?_
 refine Wl_guard_t rfl ?_
 refine Wl_v (r_gt rfl rfl) ?_
 refine Wl_v (r_pick_f (v := .bool (decide (131072 < n))) rfl rfl) ?_
 refine Wl_nil ?_
 have q2 : ¬ (131072 < n) := (by omega)
 rw [decide_eq_false q2]
 refine W_cond_f rfl ?_
 refine W_skip (W_seq (W_region ?_))
 refine Wmv (.int .i64 n) ?_
 refine Wl_v (r_quo rfl rfl (by omega) (tq (by omega) (wi64 (by omega) (by omega)))) ?_
 refine Was (.int .i64 (n / 4)) ?_
 refine Wl_nil (W_seq (W_seq (W_region ?_)))
 refine Wmv (.int .i64 n) ?_
 refine Wl_v (r_rem rfl rfl (by omega) (tr (by omega))) ?_
 refine Wl_v (r_gt rfl rfl) ?_
 refine Wl_nil ?_
 by_cases q3 : 0 < (n % 4)
 ·rw [decide_eq_true q3]
  refine W_cond_t rfl ?_
  refine W_region ?_
  refine Wmv (.int .i64 (n / 4)) ?_
  refine Wl_v (r_add rfl rfl (wi64 (by omega) (by omega))) ?_
  refine Was (.int .i64 ((n / 4) + 1)) ?_
  refine Wl_nil (W_seq (W_seq (W_region ?_)))
  refine Wmv (.int .i64 n) ?_
  refine Wmv (.int .i64 ((n / 4) + 1)) ?_
  refine Wl_v (r_mul rfl rfl (wi64 (by omega) (by omega))) ?_
  refine Wl_v (r_sub rfl rfl (wi64 (by omega) (by omega))) ?_
  refine Wl_v (r_lt rfl rfl) ?_
  refine Wl_nil ?_
  have q4 : (n - (3 * ((n / 4) + 1))) < 1 := (by omega)
  rw [decide_eq_true q4]
  refine W_cond_t rfl ?_
  refine W_seq (W_region ?_)
  refine Was (.slice none 0 0) ?_
  refine Was (.int .i64 11) ?_
  refine Wl_nil ?_
  refine W_ret ?_
  refine ret_end (v := .tuple #[.slice none 0 0, .int .i64 11]) rfl (res2 results12 rfl rfl) ?_
  exact ⟨_, rfl, rfl, HU⟩
 rw [decide_eq_false q3]
 refine W_cond_f rfl ?_
 refine W_skip (W_seq (W_seq (W_region ?_)))
 refine Wmv (.int .i64 n) ?_
 refine Wmv (.int .i64 (n / 4)) ?_
 refine Wl_v (r_mul rfl rfl (wi64 (by omega) (by omega))) ?_
 refine Wl_v (r_sub rfl rfl (wi64 (by omega) (by omega))) ?_
 refine Wl_v (r_lt rfl rfl) ?_
 refine Wl_nil ?_
 have q5 : (n - (3 * (n / 4))) < 1 := (by omega)
 rw [decide_eq_true q5]
 refine W_cond_t rfl ?_
 refine W_seq (W_region ?_)
 refine Was (.slice none 0 0) ?_
 refine Was (.int .i64 11) ?_
 refine Wl_nil ?_
 refine W_ret ?_
 refine ret_end (v := .tuple #[.slice none 0 0, .int .i64 11]) rfl (res2 results12 rfl rfl) ?_
 exact ⟨_, rfl, rfl, HU⟩
theorem rparts_2 {n : Int} (w : World) (hp : ¬ (0 ≤ n ∧ n ≤ 131072)) :
  Calls Tryz.prog 12 #[.int .i64 n] w (Ret fun v w' => v = .tuple #[.slice none 0 0, .int .i64 2] ∧ Upd No w w') := by
 have HU := Upd.rno w
 refine calls_of_W func12 rfl ntmps12 (by simp) ?_
 refine W_seq (W_region ?_)
 refine Was (.slice none 0 0) ?_
 refine Was (.int .i64 0) ?_
 refine Wl_nil (W_seq (W_seq (W_region ?_)))
 refine Wmv (.int .i64 n) ?_
 refine Wl_v (r_lt rfl rfl) ?_
 refine Wmv (.bool (decide (n < 0))) ?_
 by_cases q1 : n < 0
 ·rw [decide_eq_true q1]
  refine Wl_guard_f rfl (Wl_guard_f rfl ?_)
  refine Wl_v (r_pick_t (v := .bool true) rfl rfl) ?_
  refine Wl_nil ?_
  refine W_cond_t rfl ?_
  refine W_seq (W_region ?_)
  refine Was (.slice none 0 0) ?_
  refine Was (.int .i64 2) ?_
  refine Wl_nil ?_
  refine W_ret ?_
  refine ret_end (v := .tuple #[.slice none 0 0, .int .i64 2]) rfl (res2 results12 rfl rfl) ?_
  exact ⟨_, rfl, rfl, HU⟩
 rw [decide_eq_false q1]
 refine Wl_guard_t rfl ?_
 refine Wmv (.int .i64 n) ?_
 refine Wl_guard_t rfl ?_
 refine Wl_v (r_gt rfl rfl) ?_
 refine Wl_v (r_pick_f (v := .bool (decide (131072 < n))) rfl rfl) ?_
 refine Wl_nil ?_
 have q2 : 131072 < n := (by omega)
 rw [decide_eq_true q2]
 refine W_cond_t rfl ?_
 refine W_seq (W_region ?_)
 refine Was (.slice none 0 0) ?_
 refine Was (.int .i64 2) ?_
 refine Wl_nil ?_
 refine W_ret ?_
 refine ret_end (v := .tuple #[.slice none 0 0, .int .i64 2]) rfl (res2 results12 rfl rfl) ?_
 exact ⟨_, rfl, rfl, HU⟩
theorem rparts_no {n : Int} (w : World) (hp : paF n ≠ 0) :
  Calls Tryz.prog 12 #[.int .i64 n] w (Ret fun v w' => v = .tuple #[.slice none 0 0, .int .i64 (paF n)] ∧ Upd No w w') := by
 rcases paF_cases n with ⟨h, _⟩ | ⟨h, h2⟩ | ⟨h, h2⟩
 ·exact absurd h hp
 ·rw [h]; exact rparts_11 w ⟨⟨h2.1, h2.2.1⟩, h2.2.2⟩
 rw [h]; exact rparts_2 w h2
theorem d4F_byt (l b : List Int) (n : Int) : Byt (d4F l b n).1 := by
 by_cases h : (d4F l b n).2 = 0
 ·obtain ⟨h0, h1, h2, h3, h4⟩ := d4F_inv h
  rw [d4F_ok h0 h1 h2 h3 h4]
  exact (dcF_byt _ _ _).append ((dcF_byt _ _ _).append ((dcF_byt _ _ _).append (dcF_byt _ _ _)))
 rw [d4F_err h]; exact byt_nil
end Go.Proofs.YtdppageondgjkaaGreat
