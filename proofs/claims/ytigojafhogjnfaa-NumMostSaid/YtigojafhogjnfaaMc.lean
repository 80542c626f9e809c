/-
  Walks, printed by a small program of this project (gen.py).
-/
import Derived.Test.YtigojafhogjnfaaWi
import Derived.Test.YtigojafhogjnfaaPg
import Derived.Test.YtigojafhogjnfaaLw
set_option linter.unusedVariables false
namespace Go.Proofs.Ytigojafhogjnfaa
open Go.Fw

set_option maxRecDepth 100000 in
theorem nummost  (w : World)  :
    Calls Try.prog 5 #[] w (Ret fun v w' => v = .bool true ∧ Upd No w w') := by
  have HU : Upd (fun b => False) w w := Upd.refl _ _
  have hvl := vi_len 4611686018427387903
  refine calls_of_W Try.func5 rfl Try.ntmps5 (by simp) ?_
  refine W_seq ?_
  refine W_region ?_
  refine Wl_v (r_as (v := .bool false) rfl) ?_
  refine Wl_nil ?_
  refine W_seq ?_
  refine W_region ?_
  have q1 : ¬ (4611686018427387903 < 4611686018427387903) := (by decide)
  refine Wl_call (r_call2 rfl Try.call17 rfl rfl) (putvarint_spec (bs := []) _ (Sl.nil _ _ _) (by omega) (by omega) (by omega)) ?_
  rintro v w1 ⟨a1, c1, rfl, hO1, hU1⟩
  have hzw1 := hU1.size
  replace HU := HU.trans0 hU1
  replace hO1 := hO1.tight
  have hl_hO1 := ilen hO1.sl
  have hc_hO1 := hO1.sl.cap.1
  refine Wl_v (r_mv (v := .tuple #[.slice a1 (0 + (vi 4611686018427387903).length) c1, .int .i64 0]) rfl) ?_
  refine Wl_v (r_ext (v := .slice a1 (0 + (vi 4611686018427387903).length) c1) rfl rfl) ?_
  refine Wl_v (r_ext (v := .int .i64 0) rfl rfl) ?_
  refine Wl_v (r_as (v := .slice a1 (0 + (vi 4611686018427387903).length) c1) rfl) ?_
  refine Wl_v (r_as (v := .int .i64 0) rfl) ?_
  refine Wl_nil ?_
  refine W_seq ?_
  refine W_region ?_
  refine Wl_v (r_mv (v := .slice a1 (0 + (vi 4611686018427387903).length) c1) rfl) ?_
  refine Wl_call (r_call1 rfl Try.call21 rfl) (new_spec _ hO1.sl.any (by omega)) ?_
  rintro v w2 ⟨pb2, a2, c2, rfl, hp2, hO2, hpg_2, hU2⟩
  have hzw2 := hU2.size
  replace HU := HU.trans0 hU2
  replace hO1 := hO1.upd0 hU2
  have hbl_hp2 := hp2.lt
  replace hO2 := hO2.tight
  have hl_hO2 := ilen hO2.sl
  have hc_hO2 := hO2.sl.cap.1
  refine Wl_call (r_call1 rfl Try.call22 rfl) (cvarint_spec (p := 0) _ hp2 (hO2.sl.cur (by intro h1; have h3 : ((w1.heap.size ≤ pb2 ∧ pb2 ≠ pb2) ∧ pb2 < w2.heap.size) := h1; first | omega | simp at h3)) (byt_app byt_nil (vi_byt (by omega))) (by omega) (by omega)) ?_
  rintro v w3 ⟨rfl, hp3, hU3⟩
  have hzw3 := hU3.size
  replace HU := HU.trans1 hU3 (by show (False) ∨ w.heap.size ≤ pb2; omega)
  replace hO1 := hO1.upd1 hU3 (by intro h1; have h3 : ((w.heap.size ≤ pb2) ∧ pb2 < w1.heap.size) := h1; omega)
  replace hO2 := hO2.upd1 hU3 (by intro h1; have h3 : ((w1.heap.size ≤ pb2 ∧ pb2 ≠ pb2) ∧ pb2 < w2.heap.size) := h1; omega)
  have hbl_hp3 := hp3.lt
  refine Wl_v (r_mv (v := .tuple #[.int .u64 ((gvar ([] ++ vi 4611686018427387903) 0).1), .int .i64 ((gvar ([] ++ vi 4611686018427387903) 0).2.2)]) rfl) ?_
  refine Wl_v (r_ext (v := .int .u64 ((gvar ([] ++ vi 4611686018427387903) 0).1)) rfl rfl) ?_
  refine Wl_v (r_ext (v := .int .i64 ((gvar ([] ++ vi 4611686018427387903) 0).2.2)) rfl rfl) ?_
  refine Wl_v (r_as (v := .int .u64 ((gvar ([] ++ vi 4611686018427387903) 0).1)) rfl) ?_
  refine Wl_v (r_as (v := .int .i64 ((gvar ([] ++ vi 4611686018427387903) 0).2.2)) rfl) ?_
  refine Wl_nil ?_
  refine W_seq ?_
  refine W_region ?_
  have q2 : 4611686018427387903 < 4611686018427387904 := (by decide)
  refine Wl_call (r_call2 rfl Try.call17 rfl rfl) (putvarint_no _ (by omega)) ?_
  rintro v w4 ⟨rfl, hU4⟩
  have hzw4 := hU4.size
  replace HU := HU.trans0 hU4
  replace hO1 := hO1.upd0 hU4
  replace hO2 := hO2.upd0 hU4
  replace hp3 := hp3.upd0 hU4
  refine Wl_v (r_mv (v := .tuple #[.slice none 0 0, .int .i64 2]) rfl) ?_
  refine Wl_v (r_ext (v := .slice none 0 0) rfl rfl) ?_
  refine Wl_v (r_ext (v := .int .i64 2) rfl rfl) ?_
  refine Wl_v (r_as (v := .slice none 0 0) rfl) ?_
  refine Wl_v (r_as (v := .int .i64 2) rfl) ?_
  refine Wl_nil ?_
  refine W_seq ?_
  refine W_region ?_
  refine Wl_lit (pv := [(0, .int .u8 255), (1, .int .u8 255), (2, .int .u8 255), (3, .int .u8 255), (4, .int .u8 255), (5, .int .u8 255), (6, .int .u8 255), (7, .int .u8 255), (8, .int .u8 127)]) (cs := [.int .u8 255, .int .u8 255, .int .u8 255, .int .u8 255, .int .u8 255, .int .u8 255, .int .u8 255, .int .u8 255, .int .u8 127]) Try.underlying22 Try.sizeOf5 Try.zeroValue5 (by decide) (by decide) (by simp only [List.map_toArray, List.map_cons, List.map_nil]; rfl) (by kernel_rfl) rfl (by decide) ?_
  intro B5 w5 hB5 hU5 hzz5 hs5
  have hzw5 := hU5.size
  replace HU := HU.trans0 hU5
  replace hO1 := hO1.upd0 hU5
  replace hO2 := hO2.upd0 hU5
  replace hp3 := hp3.upd0 hU5
  replace hs5 : Own w5 (Is B5) 5 1 (.slice (some ⟨B5, 0, none⟩) 9 9) 9 (ints .u8 [255, 255, 255, 255, 255, 255, 255, 255, 127]) := hs5
  refine Wl_call (r_call1 rfl Try.call23 rfl) (reads_spec _ hs5.sl (by intro x hx; simp at hx; omega) (by omega)) ?_
  rintro v w6 ⟨rfl, hU6⟩
  have hzw6 := hU6.size
  replace HU := HU.trans0 hU6
  replace hO1 := hO1.upd0 hU6
  replace hO2 := hO2.upd0 hU6
  replace hp3 := hp3.upd0 hU6
  replace hs5 := hs5.upd0 hU6
  refine Wl_v (r_as (v := .int .i64 ((gvar [255, 255, 255, 255, 255, 255, 255, 255, 127] 0).2.2)) rfl) ?_
  refine Wl_nil ?_
  refine W_seq ?_
  refine W_region ?_
  refine Wl_lit (pv := [(0, .int .u8 128), (1, .int .u8 128), (2, .int .u8 128), (3, .int .u8 128), (4, .int .u8 128), (5, .int .u8 128), (6, .int .u8 128), (7, .int .u8 128), (8, .int .u8 64)]) (cs := [.int .u8 128, .int .u8 128, .int .u8 128, .int .u8 128, .int .u8 128, .int .u8 128, .int .u8 128, .int .u8 128, .int .u8 64]) Try.underlying22 Try.sizeOf5 Try.zeroValue5 (by decide) (by decide) (by simp only [List.map_toArray, List.map_cons, List.map_nil]; rfl) (by kernel_rfl) rfl (by decide) ?_
  intro B7 w7 hB7 hU7 hzz7 hs7
  have hzw7 := hU7.size
  replace HU := HU.trans0 hU7
  replace hO1 := hO1.upd0 hU7
  replace hO2 := hO2.upd0 hU7
  replace hp3 := hp3.upd0 hU7
  replace hs5 := hs5.upd0 hU7
  replace hs7 : Own w7 (Is B7) 5 1 (.slice (some ⟨B7, 0, none⟩) 9 9) 9 (ints .u8 [128, 128, 128, 128, 128, 128, 128, 128, 64]) := hs7
  refine Wl_call (r_call1 rfl Try.call23 rfl) (reads_spec _ hs7.sl (by intro x hx; simp at hx; omega) (by omega)) ?_
  rintro v w8 ⟨rfl, hU8⟩
  have hzw8 := hU8.size
  replace HU := HU.trans0 hU8
  replace hO1 := hO1.upd0 hU8
  replace hO2 := hO2.upd0 hU8
  replace hp3 := hp3.upd0 hU8
  replace hs5 := hs5.upd0 hU8
  replace hs7 := hs7.upd0 hU8
  refine Wl_v (r_as (v := .int .i64 ((gvar [128, 128, 128, 128, 128, 128, 128, 128, 64] 0).2.2)) rfl) ?_
  refine Wl_nil ?_
  refine W_seq ?_
  refine W_region ?_
  refine Wl_lit (pv := [(0, .int .u8 255), (1, .int .u8 255), (2, .int .u8 255), (3, .int .u8 255), (4, .int .u8 255), (5, .int .u8 255), (6, .int .u8 255), (7, .int .u8 255), (8, .int .u8 63)]) (cs := [.int .u8 255, .int .u8 255, .int .u8 255, .int .u8 255, .int .u8 255, .int .u8 255, .int .u8 255, .int .u8 255, .int .u8 63]) Try.underlying22 Try.sizeOf5 Try.zeroValue5 (by decide) (by decide) (by simp only [List.map_toArray, List.map_cons, List.map_nil]; rfl) (by kernel_rfl) rfl (by decide) ?_
  intro B9 w9 hB9 hU9 hzz9 hs9
  have hzw9 := hU9.size
  replace HU := HU.trans0 hU9
  replace hO1 := hO1.upd0 hU9
  replace hO2 := hO2.upd0 hU9
  replace hp3 := hp3.upd0 hU9
  replace hs5 := hs5.upd0 hU9
  replace hs7 := hs7.upd0 hU9
  replace hs9 : Own w9 (Is B9) 5 1 (.slice (some ⟨B9, 0, none⟩) 9 9) 9 (ints .u8 [255, 255, 255, 255, 255, 255, 255, 255, 63]) := hs9
  refine Wl_call (r_call1 rfl Try.call23 rfl) (reads_spec _ hs9.sl (by intro x hx; simp at hx; omega) (by omega)) ?_
  rintro v w10 ⟨rfl, hU10⟩
  have hzw10 := hU10.size
  replace HU := HU.trans0 hU10
  replace hO1 := hO1.upd0 hU10
  replace hO2 := hO2.upd0 hU10
  replace hp3 := hp3.upd0 hU10
  replace hs5 := hs5.upd0 hU10
  replace hs7 := hs7.upd0 hU10
  replace hs9 := hs9.upd0 hU10
  refine Wl_v (r_as (v := .int .i64 ((gvar [255, 255, 255, 255, 255, 255, 255, 255, 63] 0).2.2)) rfl) ?_
  refine Wl_nil ?_
  refine W_seq ?_
  refine W_region ?_
  refine Wl_v (r_mv (v := .int .i64 0) rfl) ?_
  refine Wl_v (v := .bool true) (r_eq (a := 0) (b := 0) rfl rfl) ?_
  refine Wl_v (r_mv (v := .bool true) rfl) ?_
  refine Wl_guard_t rfl ?_
  refine Wl_v (r_mv (v := .slice a1 (0 + (vi 4611686018427387903).length) c1) rfl) ?_
  refine Wl_guard_t rfl ?_
  refine Wl_v (r_len Try.underlying22 rfl) ?_
  refine Wl_guard_t rfl ?_
  refine Wl_v (r_eq rfl rfl) ?_
  refine Wl_v (r_pick_t (v := .bool (decide (((0 + (vi 4611686018427387903).length : Nat) : Int) = 9))) rfl rfl) ?_
  refine Wl_v (r_mv (v := .bool (decide (((0 + (vi 4611686018427387903).length : Nat) : Int) = 9))) rfl) ?_
  have q3 : ((0 + (vi 4611686018427387903).length : Nat) : Int) = 9 := (by decide +kernel)
  rw [decide_eq_true q3]
  refine Wl_guard_t rfl ?_
  refine Wl_v (r_mv (v := .int .i64 ((gvar ([] ++ vi 4611686018427387903) 0).2.2)) rfl) ?_
  refine Wl_guard_t rfl ?_
  refine Wl_v (r_eq rfl rfl) ?_
  refine Wl_v (r_pick_t (v := .bool (decide (((gvar ([] ++ vi 4611686018427387903) 0).2.2) = 0))) rfl rfl) ?_
  refine Wl_v (r_mv (v := .bool (decide (((gvar ([] ++ vi 4611686018427387903) 0).2.2) = 0))) rfl) ?_
  have q4 : ((gvar ([] ++ vi 4611686018427387903) 0).2.2) = 0 := (by decide +kernel)
  rw [decide_eq_true q4]
  refine Wl_guard_t rfl ?_
  refine Wl_v (r_mv (v := .int .u64 ((gvar ([] ++ vi 4611686018427387903) 0).1)) rfl) ?_
  refine Wl_guard_t rfl ?_
  refine Wl_v (r_eq rfl rfl) ?_
  refine Wl_v (r_pick_t (v := .bool (decide (((gvar ([] ++ vi 4611686018427387903) 0).1) = 4611686018427387903))) rfl rfl) ?_
  refine Wl_v (r_mv (v := .bool (decide (((gvar ([] ++ vi 4611686018427387903) 0).1) = 4611686018427387903))) rfl) ?_
  have q5 : ((gvar ([] ++ vi 4611686018427387903) 0).1) = 4611686018427387903 := (by decide +kernel)
  rw [decide_eq_true q5]
  refine Wl_guard_t rfl ?_
  refine Wl_v (r_mv (v := .int .i64 2) rfl) ?_
  refine Wl_guard_t rfl ?_
  refine Wl_v (v := .bool true) (r_eq (a := 2) (b := 2) rfl rfl) ?_
  refine Wl_v (r_pick_t (v := .bool true) rfl rfl) ?_
  refine Wl_v (r_mv (v := .bool true) rfl) ?_
  refine Wl_guard_t rfl ?_
  refine Wl_v (r_mv (v := .int .i64 ((gvar [255, 255, 255, 255, 255, 255, 255, 255, 127] 0).2.2)) rfl) ?_
  refine Wl_guard_t rfl ?_
  refine Wl_v (r_eq rfl rfl) ?_
  refine Wl_v (r_pick_t (v := .bool (decide (((gvar [255, 255, 255, 255, 255, 255, 255, 255, 127] 0).2.2) = 18))) rfl rfl) ?_
  refine Wl_v (r_mv (v := .bool (decide (((gvar [255, 255, 255, 255, 255, 255, 255, 255, 127] 0).2.2) = 18))) rfl) ?_
  have q6 : ((gvar [255, 255, 255, 255, 255, 255, 255, 255, 127] 0).2.2) = 18 := (by decide +kernel)
  rw [decide_eq_true q6]
  refine Wl_guard_t rfl ?_
  refine Wl_v (r_mv (v := .int .i64 ((gvar [128, 128, 128, 128, 128, 128, 128, 128, 64] 0).2.2)) rfl) ?_
  refine Wl_guard_t rfl ?_
  refine Wl_v (r_eq rfl rfl) ?_
  refine Wl_v (r_pick_t (v := .bool (decide (((gvar [128, 128, 128, 128, 128, 128, 128, 128, 64] 0).2.2) = 18))) rfl rfl) ?_
  refine Wl_v (r_mv (v := .bool (decide (((gvar [128, 128, 128, 128, 128, 128, 128, 128, 64] 0).2.2) = 18))) rfl) ?_
  have q7 : ((gvar [128, 128, 128, 128, 128, 128, 128, 128, 64] 0).2.2) = 18 := (by decide +kernel)
  rw [decide_eq_true q7]
  refine Wl_guard_t rfl ?_
  refine Wl_v (r_mv (v := .int .i64 ((gvar [255, 255, 255, 255, 255, 255, 255, 255, 63] 0).2.2)) rfl) ?_
  refine Wl_guard_t rfl ?_
  refine Wl_v (r_eq rfl rfl) ?_
  refine Wl_v (r_pick_t (v := .bool (decide (((gvar [255, 255, 255, 255, 255, 255, 255, 255, 63] 0).2.2) = 0))) rfl rfl) ?_
  refine Wl_v (r_mv (v := .bool (decide (((gvar [255, 255, 255, 255, 255, 255, 255, 255, 63] 0).2.2) = 0))) rfl) ?_
  have q8 : ((gvar [255, 255, 255, 255, 255, 255, 255, 255, 63] 0).2.2) = 0 := (by decide +kernel)
  rw [decide_eq_true q8]
  refine Wl_guard_t rfl ?_
  refine Wl_call (r_call0 rfl Try.call19 ) (known_spec _ ) ?_
  rintro v w11 ⟨rfl, hU11⟩
  have hzw11 := hU11.size
  replace HU := HU.trans0 hU11
  replace hO1 := hO1.upd0 hU11
  replace hO2 := hO2.upd0 hU11
  replace hp3 := hp3.upd0 hU11
  replace hs5 := hs5.upd0 hU11
  replace hs7 := hs7.upd0 hU11
  replace hs9 := hs9.upd0 hU11
  refine Wl_v (r_pick_t (v := .bool true) rfl rfl) ?_
  refine Wl_v (r_as (v := .bool true) rfl) ?_
  refine Wl_nil ?_
  refine W_ret ?_
  refine ret_end (v := .bool true) rfl (res1 Try.results5 rfl) ?_
  exact ⟨_, rfl, rfl, HU⟩

end Go.Proofs.Ytigojafhogjnfaa
