/-
 Walks, printed by a small program of this project (gen.py).
-/
import Derived.Test.YtdppageondgjkaaGreatVe
set_option linter.unusedVariables false
set_option linter.unusedSimpArgs false
namespace Go.Proofs.YtdppageondgjkaaGreat
open Go.Fw
open Nu
set_option maxRecDepth 100000 in
theorem rparts_ok {n : Int} (w : World) (hni : -9223372036854775808 ≤ n ∧ n ≤ 9223372036854775807) (hp : paF n = 0) :
  Calls Tryz.prog 12 #[.int .i64 n] w (Ret fun v w' => ∃ (a' : Option Addr) (c' : Nat), v = .tuple #[.slice a' 4 c', .int .i64 0] ∧ Own w' (fun g => w.heap.size ≤ g) 3 1 (.slice a' 4 c') 4 (ints .i64 [(n + 3) / 4, (n + 3) / 4, (n + 3) / 4, n - 3 * ((n + 3) / 4)]) ∧ Upd No w w') := by
 have HU : Upd (fun b => False) w w := Upd.refl _ _
 have hpi := paF_inv hp
 refine calls_of_W Tryz.func12 rfl Tryz.ntmps12 (by simp) ?_
 refine W_seq (W_region ?_)
 refine Was (.slice none 0 0) ?_
 refine Was (.int .i64 0) ?_
 refine Wl_nil (W_seq (W_seq (W_region ?_)))
 refine Wmv (.int .i64 n) ?_
 refine Wl_v (r_lt rfl rfl) ?_
 refine Wmv (.bool (decide (n < 0))) ?_
 have q1 : ¬ (n < 0) := (by omega)
 rw [decide_eq_false q1]
 refine Wl_guard_t rfl ?_
 refine Wmv (.int .i64 n) ?_
 refine Wl_guard_t rfl ?_
 refine Wl_v (r_gt rfl rfl) ?_
 refine Wl_v (r_pick_f (v := .bool (decide (131072 < n))) rfl rfl) ?_
 refine Wl_nil ?_
 have q2 : ¬ (131072 < n) := (by omega)
 rw [decide_eq_false q2]
 refine W_cond_f rfl ?_
 refine W_skip (W_seq (W_region ?_))
 refine Wmv (.int .i64 n) ?_
 refine Wl_v (r_quo rfl rfl (by omega) (tq (by omega) (wi64 (by omega) (by omega)))) ?_
 refine Was (.int .i64 (n / 4)) ?_
 refine Wl_nil (W_seq (W_seq (W_region ?_)))
 refine Wmv (.int .i64 n) ?_
 refine Wl_v (r_rem rfl rfl (by omega) (tr (by omega))) ?_
 refine Wl_v (r_gt rfl rfl) ?_
 refine Wl_nil ?_
 by_cases q3 : 0 < (n % 4)
 ·rw [decide_eq_true q3]
  refine W_cond_t rfl ?_
  refine W_region ?_
  refine Wmv (.int .i64 (n / 4)) ?_
  refine Wl_v (r_add rfl rfl (wi64 (by omega) (by omega))) ?_
  refine Was (.int .i64 ((n / 4) + 1)) ?_
  refine Wl_nil (W_seq (W_seq (W_region ?_)))
  refine Wmv (.int .i64 n) ?_
  refine Wmv (.int .i64 ((n / 4) + 1)) ?_
  refine Wl_v (r_mul rfl rfl (wi64 (by omega) (by omega))) ?_
  refine Wl_v (r_sub rfl rfl (wi64 (by omega) (by omega))) ?_
  refine Wl_v (r_lt rfl rfl) ?_
  refine Wl_nil ?_
  have q4 : ¬ ((n - (3 * ((n / 4) + 1))) < 1) := (by omega)
  rw [decide_eq_false q4]
  refine W_cond_f rfl ?_
  refine W_skip (W_seq (W_region ?_))
  refine Wmv (.int .i64 ((n / 4) + 1)) ?_
  refine Wmv (.int .i64 ((n / 4) + 1)) ?_
  refine Wmv (.int .i64 ((n / 4) + 1)) ?_
  refine Wmv (.int .i64 n) ?_
  refine Wmv (.int .i64 ((n / 4) + 1)) ?_
  refine Wl_v (r_mul rfl rfl (wi64 (by omega) (by omega))) ?_
  refine Wl_v (r_sub rfl rfl (wi64 (by omega) (by omega))) ?_
  refine Wl_lit (pv := [(0, .int .i64 ((n / 4) + 1)), (1, .int .i64 ((n / 4) + 1)), (2, .int .i64 ((n / 4) + 1)), (3, .int .i64 (n - (3 * ((n / 4) + 1))))]) (cs := [.int .i64 ((n / 4) + 1), .int .i64 ((n / 4) + 1), .int .i64 ((n / 4) + 1), .int .i64 (n - (3 * ((n / 4) + 1)))]) Tryz.underlying22 Tryz.sizeOf3 Tryz.zeroValue3 (by decide) (by decide) (by simp only [List.map_toArray, List.map_cons, List.map_nil] <;> rfl) (by kernel_rfl) rfl (by decide) ?_
  intro B1 w1 hB1 hU1 hzz1 hs1
  have hzw1 := hU1.size
  replace HU := HU.trans0 hU1
  replace hs1 : Own w1 (Is B1) 3 1 (.slice (some ⟨B1, 0, none⟩) 4 4) 4 (ints .i64 [(n / 4) + 1, (n / 4) + 1, (n / 4) + 1, n - (3 * ((n / 4) + 1))]) := hs1
  replace hs1 : Own w1 (Is B1) 3 1 (.slice (some ⟨B1, 0, none⟩) 4 4) 4 (ints .i64 [(n / 4) + 1, (n / 4) + 1, (n / 4) + 1, n - (3 * ((n / 4) + 1))]) := hs1
  refine Was (.slice (some ⟨B1, 0, none⟩) 4 4) ?_
  refine Was (.int .i64 0) ?_
  refine Wl_nil ?_
  refine W_ret ?_
  refine ret_end (v := .tuple #[.slice (some ⟨B1, 0, none⟩) 4 4, .int .i64 0]) rfl (res2 Tryz.results12 rfl rfl) ?_
  exact ⟨_, rfl, (some ⟨B1, 0, none⟩), 4, rfl, ((hs1.weak (by intro g hg; have h3 : g = B1 := hg; show w.heap.size ≤ g; omega)).icong (by simp only [List.cons.injEq, and_true]; omega)), HU⟩
 ·rw [decide_eq_false q3]
  refine W_cond_f rfl ?_
  refine W_skip (W_seq (W_seq (W_region ?_)))
  refine Wmv (.int .i64 n) ?_
  refine Wmv (.int .i64 (n / 4)) ?_
  refine Wl_v (r_mul rfl rfl (wi64 (by omega) (by omega))) ?_
  refine Wl_v (r_sub rfl rfl (wi64 (by omega) (by omega))) ?_
  refine Wl_v (r_lt rfl rfl) ?_
  refine Wl_nil ?_
  have q5 : ¬ ((n - (3 * (n / 4))) < 1) := (by omega)
  rw [decide_eq_false q5]
  refine W_cond_f rfl ?_
  refine W_skip (W_seq (W_region ?_))
  refine Wmv (.int .i64 (n / 4)) ?_
  refine Wmv (.int .i64 (n / 4)) ?_
  refine Wmv (.int .i64 (n / 4)) ?_
  refine Wmv (.int .i64 n) ?_
  refine Wmv (.int .i64 (n / 4)) ?_
  refine Wl_v (r_mul rfl rfl (wi64 (by omega) (by omega))) ?_
  refine Wl_v (r_sub rfl rfl (wi64 (by omega) (by omega))) ?_
  refine Wl_lit (pv := [(0, .int .i64 (n / 4)), (1, .int .i64 (n / 4)), (2, .int .i64 (n / 4)), (3, .int .i64 (n - (3 * (n / 4))))]) (cs := [.int .i64 (n / 4), .int .i64 (n / 4), .int .i64 (n / 4), .int .i64 (n - (3 * (n / 4)))]) Tryz.underlying22 Tryz.sizeOf3 Tryz.zeroValue3 (by decide) (by decide) (by simp only [List.map_toArray, List.map_cons, List.map_nil] <;> rfl) (by kernel_rfl) rfl (by decide) ?_
  intro B2 w2 hB2 hU2 hzz2 hs2
  have hzw2 := hU2.size
  replace HU := HU.trans0 hU2
  replace hs2 : Own w2 (Is B2) 3 1 (.slice (some ⟨B2, 0, none⟩) 4 4) 4 (ints .i64 [n / 4, n / 4, n / 4, n - (3 * (n / 4))]) := hs2
  replace hs2 : Own w2 (Is B2) 3 1 (.slice (some ⟨B2, 0, none⟩) 4 4) 4 (ints .i64 [n / 4, n / 4, n / 4, n - (3 * (n / 4))]) := hs2
  refine Was (.slice (some ⟨B2, 0, none⟩) 4 4) ?_
  refine Was (.int .i64 0) ?_
  refine Wl_nil ?_
  refine W_ret ?_
  refine ret_end (v := .tuple #[.slice (some ⟨B2, 0, none⟩) 4 4, .int .i64 0]) rfl (res2 Tryz.results12 rfl rfl) ?_
  exact ⟨_, rfl, (some ⟨B2, 0, none⟩), 4, rfl, ((hs2.weak (by intro g hg; have h3 : g = B2 := hg; show w.heap.size ≤ g; omega)).icong (by simp only [List.cons.injEq, and_true]; omega)), HU⟩
set_option maxRecDepth 100000 in
theorem rparts_11 {n : Int} (w : World) (hp : (0 ≤ n ∧ n ≤ 131072) ∧ ¬ 3 * ((n + 3) / 4) < n) :
  Calls Tryz.prog 12 #[.int .i64 n] w (Ret fun v w' => v = .tuple #[.slice none 0 0, .int .i64 11] ∧ Upd No w w') := by
 have HU : Upd (fun b => False) w w := Upd.refl _ _
 refine calls_of_W Tryz.func12 rfl Tryz.ntmps12 (by simp) ?_
 refine W_seq (W_region ?_)
 refine Was (.slice none 0 0) ?_
 refine Was (.int .i64 0) ?_
 refine Wl_nil (W_seq (W_seq (W_region ?_)))
 refine Wmv (.int .i64 n) ?_
 refine Wl_v (r_lt rfl rfl) ?_
 refine Wmv (.bool (decide (n < 0))) ?_
 have q1 : ¬ (n < 0) := (by omega)
 rw [decide_eq_false q1]
 refine Wl_guard_t rfl ?_
 refine Wmv (.int .i64 n) ?_
 refine Wl_guard_t rfl ?_
 refine Wl_v (r_gt rfl rfl) ?_
 refine Wl_v (r_pick_f (v := .bool (decide (131072 < n))) rfl rfl) ?_
 refine Wl_nil ?_
 have q2 : ¬ (131072 < n) := (by omega)
 rw [decide_eq_false q2]
 refine W_cond_f rfl ?_
 refine W_skip (W_seq (W_region ?_))
 refine Wmv (.int .i64 n) ?_
 refine Wl_v (r_quo rfl rfl (by omega) (tq (by omega) (wi64 (by omega) (by omega)))) ?_
 refine Was (.int .i64 (n / 4)) ?_
 refine Wl_nil (W_seq (W_seq (W_region ?_)))
 refine Wmv (.int .i64 n) ?_
 refine Wl_v (r_rem rfl rfl (by omega) (tr (by omega))) ?_
 refine Wl_v (r_gt rfl rfl) ?_
 refine Wl_nil ?_
 by_cases q3 : 0 < (n % 4)
 ·rw [decide_eq_true q3]
  refine W_cond_t rfl ?_
  refine W_region ?_
  refine Wmv (.int .i64 (n / 4)) ?_
  refine Wl_v (r_add rfl rfl (wi64 (by omega) (by omega))) ?_
  refine Was (.int .i64 ((n / 4) + 1)) ?_
  refine Wl_nil (W_seq (W_seq (W_region ?_)))
  refine Wmv (.int .i64 n) ?_
  refine Wmv (.int .i64 ((n / 4) + 1)) ?_
  refine Wl_v (r_mul rfl rfl (wi64 (by omega) (by omega))) ?_
  refine Wl_v (r_sub rfl rfl (wi64 (by omega) (by omega))) ?_
  refine Wl_v (r_lt rfl rfl) ?_
  refine Wl_nil ?_
  have q4 : (n - (3 * ((n / 4) + 1))) < 1 := (by omega)
  rw [decide_eq_true q4]
  refine W_cond_t rfl ?_
  refine W_seq (W_region ?_)
  refine Was (.slice none 0 0) ?_
  refine Was (.int .i64 11) ?_
  refine Wl_nil ?_
  refine W_ret ?_
  refine ret_end (v := .tuple #[.slice none 0 0, .int .i64 11]) rfl (res2 Tryz.results12 rfl rfl) ?_
  exact ⟨_, rfl, rfl, HU⟩
 ·rw [decide_eq_false q3]
  refine W_cond_f rfl ?_
  refine W_skip (W_seq (W_seq (W_region ?_)))
  refine Wmv (.int .i64 n) ?_
  refine Wmv (.int .i64 (n / 4)) ?_
  refine Wl_v (r_mul rfl rfl (wi64 (by omega) (by omega))) ?_
  refine Wl_v (r_sub rfl rfl (wi64 (by omega) (by omega))) ?_
  refine Wl_v (r_lt rfl rfl) ?_
  refine Wl_nil ?_
  have q5 : (n - (3 * (n / 4))) < 1 := (by omega)
  rw [decide_eq_true q5]
  refine W_cond_t rfl ?_
  refine W_seq (W_region ?_)
  refine Was (.slice none 0 0) ?_
  refine Was (.int .i64 11) ?_
  refine Wl_nil ?_
  refine W_ret ?_
  refine ret_end (v := .tuple #[.slice none 0 0, .int .i64 11]) rfl (res2 Tryz.results12 rfl rfl) ?_
  exact ⟨_, rfl, rfl, HU⟩
set_option maxRecDepth 100000 in
theorem rparts_2 {n : Int} (w : World) (hp : ¬ (0 ≤ n ∧ n ≤ 131072)) :
  Calls Tryz.prog 12 #[.int .i64 n] w (Ret fun v w' => v = .tuple #[.slice none 0 0, .int .i64 2] ∧ Upd No w w') := by
 have HU : Upd (fun b => False) w w := Upd.refl _ _
 refine calls_of_W Tryz.func12 rfl Tryz.ntmps12 (by simp) ?_
 refine W_seq (W_region ?_)
 refine Was (.slice none 0 0) ?_
 refine Was (.int .i64 0) ?_
 refine Wl_nil (W_seq (W_seq (W_region ?_)))
 refine Wmv (.int .i64 n) ?_
 refine Wl_v (r_lt rfl rfl) ?_
 refine Wmv (.bool (decide (n < 0))) ?_
 by_cases q1 : n < 0
 ·rw [decide_eq_true q1]
  refine Wl_guard_f rfl (Wl_guard_f rfl ?_)
  refine Wl_v (r_pick_t (v := .bool true) rfl rfl) ?_
  refine Wl_nil ?_
  refine W_cond_t rfl ?_
  refine W_seq (W_region ?_)
  refine Was (.slice none 0 0) ?_
  refine Was (.int .i64 2) ?_
  refine Wl_nil ?_
  refine W_ret ?_
  refine ret_end (v := .tuple #[.slice none 0 0, .int .i64 2]) rfl (res2 Tryz.results12 rfl rfl) ?_
  exact ⟨_, rfl, rfl, HU⟩
 ·rw [decide_eq_false q1]
  refine Wl_guard_t rfl ?_
  refine Wmv (.int .i64 n) ?_
  refine Wl_guard_t rfl ?_
  refine Wl_v (r_gt rfl rfl) ?_
  refine Wl_v (r_pick_f (v := .bool (decide (131072 < n))) rfl rfl) ?_
  refine Wl_nil ?_
  have q2 : 131072 < n := (by omega)
  rw [decide_eq_true q2]
  refine W_cond_t rfl ?_
  refine W_seq (W_region ?_)
  refine Was (.slice none 0 0) ?_
  refine Was (.int .i64 2) ?_
  refine Wl_nil ?_
  refine W_ret ?_
  refine ret_end (v := .tuple #[.slice none 0 0, .int .i64 2]) rfl (res2 Tryz.results12 rfl rfl) ?_
  exact ⟨_, rfl, rfl, HU⟩
theorem rparts_no {n : Int} (w : World) (hp : paF n ≠ 0) :
  Calls Tryz.prog 12 #[.int .i64 n] w (Ret fun v w' => v = .tuple #[.slice none 0 0, .int .i64 (paF n)] ∧ Upd No w w') := by
 rcases paF_cases n with ⟨h, _⟩ | ⟨h, h2⟩ | ⟨h, h2⟩
 ·exact absurd h hp
 ·rw [h]; exact rparts_11 w ⟨⟨h2.1, h2.2.1⟩, h2.2.2⟩
 ·rw [h]; exact rparts_2 w h2
set_option maxRecDepth 100000 in
theorem splt_t {n : Int} (w : World) (hp : paF n = 0) :
  Calls Tryz.prog 13 #[.int .i64 n] w (Ret fun v w' => v = .bool true ∧ Upd No w w') := by
 have HU : Upd (fun b => False) w w := Upd.refl _ _
 refine calls_of_W Tryz.func13 rfl Tryz.ntmps13 (by simp) ?_
 refine W_seq (W_region ?_)
 refine Was (.bool false) ?_
 refine Wl_nil (W_seq (W_region ?_))
 refine Wmv (.int .i64 n) ?_
 have q1 : paF n = 0 := hp
 refine Wl_call (r_call1 rfl Tryz.call11 rfl) (psz_ok (n := n) _ q1) ?_
 rintro v w1 ⟨a1, c1, rfl, hO1, hU1⟩
 have hzw1 := hU1.size
 replace HU := HU.trans0 hU1
 have hl_hO1 := ilen hO1
 have hc_hO1 := hO1.cap.1
 refine Wmv (.tuple #[.slice a1 4 c1, .int .i64 0]) ?_
 refine Wl_v (r_ext (v := .slice a1 4 c1) rfl rfl) ?_
 refine Wl_v (r_ext (v := .int .i64 0) rfl rfl) ?_
 refine Was (.slice a1 4 c1) ?_
 refine Was (.int .i64 0) ?_
 refine Wl_nil (W_seq (W_region ?_))
 refine Wmv (.int .i64 0) ?_
 refine Wl_v (v := .bool true) (r_eq (a := 0) (b := 0) rfl rfl) ?_
 refine Was (.bool true) ?_
 refine Wl_nil ?_
 refine W_ret ?_
 refine ret_end (v := .bool true) rfl (res1 Tryz.results13 rfl) ?_
 exact ⟨_, rfl, rfl, HU⟩
set_option maxRecDepth 100000 in
theorem splt_f {n : Int} (w : World) (hp : paF n ≠ 0) :
  Calls Tryz.prog 13 #[.int .i64 n] w (Ret fun v w' => v = .bool false ∧ Upd No w w') := by
 have HU : Upd (fun b => False) w w := Upd.refl _ _
 refine calls_of_W Tryz.func13 rfl Tryz.ntmps13 (by simp) ?_
 refine W_seq (W_region ?_)
 refine Was (.bool false) ?_
 refine Wl_nil (W_seq (W_region ?_))
 refine Wmv (.int .i64 n) ?_
 have q1 : ¬ (paF n = 0) := hp
 refine Wl_call (r_call1 rfl Tryz.call11 rfl) (psz_no (n := n) _ q1) ?_
 rintro v w1 ⟨rfl, hU1⟩
 have hzw1 := hU1.size
 replace HU := HU.trans0 hU1
 refine Wmv (.tuple #[.slice none 0 0, .int .i64 (paF n)]) ?_
 refine Wl_v (r_ext (v := .slice none 0 0) rfl rfl) ?_
 refine Wl_v (r_ext (v := .int .i64 (paF n)) rfl rfl) ?_
 refine Was (.slice none 0 0) ?_
 refine Was (.int .i64 (paF n)) ?_
 refine Wl_nil (W_seq (W_region ?_))
 refine Wmv (.int .i64 (paF n)) ?_
 refine Wl_v (r_eq rfl rfl) ?_
 refine Was (.bool (decide ((paF n) = 0))) ?_
 refine Wl_nil ?_
 refine W_ret ?_
 refine ret_end (v := .bool (decide ((paF n) = 0))) rfl (res1 Tryz.results13 rfl) ?_
 exact ⟨_, rfl, (by rw [decide_eq_false hp]), HU⟩
theorem d4F_byt (l b : List Int) (n : Int) : Byt (d4F l b n).1 := by
 by_cases h : (d4F l b n).2 = 0
 ·obtain ⟨h0, h1, h2, h3, h4⟩ := d4F_inv h
  rw [d4F_ok h0 h1 h2 h3 h4]
  exact (dcF_byt _ _ _).append ((dcF_byt _ _ _).append ((dcF_byt _ _ _).append (dcF_byt _ _ _)))
 ·rw [d4F_err h]; exact byt_nil
theorem d4F_len {l b : List Int} (hb : Byt b) (n : Int) : (d4F l b n).1.length ≤ 32 * b.length := by
 by_cases h : (d4F l b n).2 = 0
 ·obtain ⟨h0, h1, h2, h3, h4⟩ := d4F_inv h
  rw [d4F_ok h0 h1 h2 h3 h4]
  have g1 : (y1 b).1.length ≤ b.length := gbl_le _ _
  have g2 : (y2 b).1.length ≤ b.length := gbl_le _ _
  have g3 : (y3 b).1.length ≤ b.length := gbl_le _ _
  have g4 : (y4 b).length ≤ b.length := by
   show (b.drop (y3 b).2.1).length ≤ _
   rw [List.length_drop]; omega
  have q1 : (dz1 l b n).1.length ≤ 8 * (y1 b).1.length := dcF_len (gby_byt hb _ _) _
  have q2 : (dz2 l b n).1.length ≤ 8 * (y2 b).1.length := dcF_len (gby_byt hb _ _) _
  have q3 : (dz3 l b n).1.length ≤ 8 * (y3 b).1.length := dcF_len (gby_byt hb _ _) _
  have q4 : (dz4 l b n).1.length ≤ 8 * (y4 b).length := dcF_len (hb.drop _) _
  simp only [List.length_append]
  omega
 ·rw [d4F_err h]; simp
set_option maxHeartbeats 2000000 in
set_option maxRecDepth 100000 in
theorem fourmay {n : Int} (w : World) (hni : -9223372036854775808 ≤ n ∧ n ≤ 9223372036854775807) :
  Calls Tryz.prog 3 #[.int .i64 n] w (Ret fun v w' => v = .bool true ∧ Upd No w w') := by
 have HU : Upd (fun b => False) w w := Upd.refl _ _
 refine calls_of_W Tryz.func3 rfl Tryz.ntmps3 (by simp) ?_
 refine W_seq (W_region ?_)
 refine Was (.bool false) ?_
 refine Wl_nil (W_seq (W_region ?_))
 refine Wmv (.int .i64 n) ?_
 by_cases q1 : paF n = 0
 ·refine Wl_call (r_call1 rfl Tryz.call11 rfl) (psz_ok (n := n) _ q1) ?_
  rintro v w1 ⟨a1, c1, rfl, hO1, hU1⟩
  have hzw1 := hU1.size
  replace HU := HU.trans0 hU1
  have hl_hO1 := ilen hO1
  have hc_hO1 := hO1.cap.1
  refine Wmv (.tuple #[.slice a1 4 c1, .int .i64 0]) ?_
  refine Wl_v (r_ext (v := .slice a1 4 c1) rfl rfl) ?_
  refine Wl_v (r_ext (v := .int .i64 0) rfl rfl) ?_
  refine Was (.slice a1 4 c1) ?_
  refine Was (.int .i64 0) ?_
  refine Wl_nil (W_seq (W_region ?_))
  refine Wmv (.int .i64 n) ?_
  have q2 : paF n = 0 := q1
  refine Wl_call (r_call1 rfl Tryz.call12 rfl) (rparts_ok (n := n) _ (by omega) q2) ?_
  rintro v w2 ⟨a2, c2, rfl, hO2, hU2⟩
  have hzw2 := hU2.size
  replace HU := HU.trans0 hU2
  replace hO1 := hO1.upd0 hU2
  replace hO2 := hO2.tight
  have hl_hO2 := ilen hO2.sl
  have hc_hO2 := hO2.sl.cap.1
  refine Wmv (.tuple #[.slice a2 4 c2, .int .i64 0]) ?_
  refine Wl_v (r_ext (v := .slice a2 4 c2) rfl rfl) ?_
  refine Wl_v (r_ext (v := .int .i64 0) rfl rfl) ?_
  refine Was (.slice a2 4 c2) ?_
  refine Was (.int .i64 0) ?_
  refine Wl_nil (W_seq (W_region ?_))
  refine Wmv (.int .i64 n) ?_
  have q3 : paF n = 0 := q2
  refine Wl_call (r_call1 rfl Tryz.call13 rfl) (splt_t (n := n) _ q3) ?_
  rintro v w3 ⟨rfl, hU3⟩
  have hzw3 := hU3.size
  replace HU := HU.trans0 hU3
  replace hO1 := hO1.upd0 hU3
  replace hO2 := hO2.upd0 hU3
  refine Wmv (.int .i64 0) ?_
  refine Wl_v (v := .bool true) (r_eq (a := 0) (b := 0) rfl rfl) ?_
  refine Wl_v (v := .bool true) (r_eqb (a := true) (b := true) Tryz.underlying4 rfl rfl) ?_
  refine Wmv (.bool true) ?_
  refine Wl_guard_t rfl ?_
  refine Wmv (.slice a1 4 c1) ?_
  refine Wl_guard_t rfl ?_
  refine Wmv (.slice a2 4 c2) ?_
  refine Wl_guard_t rfl ?_
  refine Wl_call (r_call2 rfl Tryz.call14 rfl rfl) (same_eq _ hO1.any hO2.sl.any (by omega)) ?_
  rintro v w4 ⟨rfl, hU4⟩
  have hzw4 := hU4.size
  replace HU := HU.trans0 hU4
  refine Wl_v (r_pick_t (v := .bool true) rfl rfl) ?_
  refine Wmv (.bool true) ?_
  refine Wl_guard_t rfl ?_
  refine Wmv (.int .i64 0) ?_
  refine Wl_guard_t rfl ?_
  refine Wl_call (r_call1 rfl Tryz.call15 rfl) (num18 _ ) ?_
  rintro v w5 ⟨rfl, hU5⟩
  have hzw5 := hU5.size
  replace HU := HU.trans0 hU5
  refine Wl_guard_t rfl ?_
  refine Wmv (.int .i64 0) ?_
  refine Wl_guard_t rfl ?_
  refine Wl_v (v := .bool true) (r_eq (a := 0) (b := 0) rfl rfl) ?_
  refine Wl_v (r_pick_t (v := .bool true) rfl rfl) ?_
  refine Wmv (.bool true) ?_
  refine Wl_guard_t rfl ?_
  refine Wl_call (r_call0 rfl Tryz.call16 ) (works18 _ ) ?_
  rintro v w6 ⟨rfl, hU6⟩
  have hzw6 := hU6.size
  replace HU := HU.trans0 hU6
  refine Wl_v (r_pick_t (v := .bool true) rfl rfl) ?_
  refine Was (.bool true) ?_
  refine Wl_nil ?_
  refine W_ret ?_
  refine ret_end (v := .bool true) rfl (res1 Tryz.results3 rfl) ?_
  exact ⟨_, rfl, rfl, HU⟩
 ·refine Wl_call (r_call1 rfl Tryz.call11 rfl) (psz_no (n := n) _ q1) ?_
  rintro v w7 ⟨rfl, hU7⟩
  have hzw7 := hU7.size
  replace HU := HU.trans0 hU7
  refine Wmv (.tuple #[.slice none 0 0, .int .i64 (paF n)]) ?_
  refine Wl_v (r_ext (v := .slice none 0 0) rfl rfl) ?_
  refine Wl_v (r_ext (v := .int .i64 (paF n)) rfl rfl) ?_
  refine Was (.slice none 0 0) ?_
  refine Was (.int .i64 (paF n)) ?_
  refine Wl_nil (W_seq (W_region ?_))
  refine Wmv (.int .i64 n) ?_
  have q4 : ¬ (paF n = 0) := q1
  refine Wl_call (r_call1 rfl Tryz.call12 rfl) (rparts_no (n := n) _ q4) ?_
  rintro v w8 ⟨rfl, hU8⟩
  have hzw8 := hU8.size
  replace HU := HU.trans0 hU8
  refine Wmv (.tuple #[.slice none 0 0, .int .i64 (paF n)]) ?_
  refine Wl_v (r_ext (v := .slice none 0 0) rfl rfl) ?_
  refine Wl_v (r_ext (v := .int .i64 (paF n)) rfl rfl) ?_
  refine Was (.slice none 0 0) ?_
  refine Was (.int .i64 (paF n)) ?_
  refine Wl_nil (W_seq (W_region ?_))
  refine Wmv (.int .i64 n) ?_
  have q5 : ¬ (paF n = 0) := q4
  refine Wl_call (r_call1 rfl Tryz.call13 rfl) (splt_f (n := n) _ q5) ?_
  rintro v w9 ⟨rfl, hU9⟩
  have hzw9 := hU9.size
  replace HU := HU.trans0 hU9
  refine Wmv (.int .i64 (paF n)) ?_
  refine Wl_v (r_eq rfl rfl) ?_
  have q6 : ¬ ((paF n) = 0) := q5
  rw [decide_eq_false q6]
  refine Wl_v (v := .bool true) (r_eqb (a := false) (b := false) Tryz.underlying4 rfl rfl) ?_
  refine Wmv (.bool true) ?_
  refine Wl_guard_t rfl ?_
  refine Wmv (.slice none 0 0) ?_
  refine Wl_guard_t rfl ?_
  refine Wmv (.slice none 0 0) ?_
  refine Wl_guard_t rfl ?_
  refine Wl_call (r_call2 rfl Tryz.call14 rfl rfl) (same_nn _ ) ?_
  rintro v w10 ⟨rfl, hU10⟩
  have hzw10 := hU10.size
  replace HU := HU.trans0 hU10
  refine Wl_v (r_pick_t (v := .bool true) rfl rfl) ?_
  refine Wmv (.bool true) ?_
  refine Wl_guard_t rfl ?_
  refine Wmv (.int .i64 (paF n)) ?_
  refine Wl_guard_t rfl ?_
  refine Wl_call (r_call1 rfl Tryz.call15 rfl) (num18 _ ) ?_
  rintro v w11 ⟨rfl, hU11⟩
  have hzw11 := hU11.size
  replace HU := HU.trans0 hU11
  refine Wl_guard_t rfl ?_
  refine Wmv (.int .i64 (paF n)) ?_
  refine Wl_guard_t rfl ?_
  refine Wl_v (r_eq rfl rfl) ?_
  refine Wl_v (r_pick_t (v := .bool (decide ((paF n) = (paF n)))) rfl rfl) ?_
  refine Wmv (.bool (decide ((paF n) = (paF n)))) ?_
  have q7 : (paF n) = (paF n) := rfl
  rw [decide_eq_true q7]
  refine Wl_guard_t rfl ?_
  refine Wl_call (r_call0 rfl Tryz.call16 ) (works18 _ ) ?_
  rintro v w12 ⟨rfl, hU12⟩
  have hzw12 := hU12.size
  replace HU := HU.trans0 hU12
  refine Wl_v (r_pick_t (v := .bool true) rfl rfl) ?_
  refine Was (.bool true) ?_
  refine Wl_nil ?_
  refine W_ret ?_
  refine ret_end (v := .bool true) rfl (res1 Tryz.results3 rfl) ?_
  exact ⟨_, rfl, rfl, HU⟩
end Go.Proofs.YtdppageondgjkaaGreat
