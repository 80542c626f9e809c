/-
  Walks, printed by a small program of this project (gen.py).
-/
import Derived.Test.YtakbopikohghmaaXj
set_option linter.unusedVariables false
set_option linter.unusedSimpArgs false
namespace Go.Proofs.Ytakbopikohghmaa
open Go.Fw

def wO : List Int := [1, 0, 3]
def wF : List (Int × Int) := [(2, 2), (1, 0), (0, 0), (2, 3)]
theorem wO_bd {i : Nat} (h : i = 0 ∨ i = 1 ∨ i = 2) : 0 ≤ wO.getD i 0 ∧ wO.getD i 0 < 4 := by rcases h with rfl | rfl | rfl <;> decide

set_option maxHeartbeats 2000000 in
set_option maxRecDepth 100000 in
theorem works_spec  (w : World)  :
    Calls Try.prog 12 #[] w (Ret fun v w' => v = .bool true ∧ Upd No w w') := by
  have HU : Upd (fun b => False) w w := Upd.refl _ _
  refine calls_of_W Try.func12 rfl Try.ntmps12 (by simp) ?_
  refine W_seq ?_
  refine W_region ?_
  refine Wl_alloc (cs := [.bool false]) Try.zeroValue4 rfl ?_
  intro B1 w1 hB1 hU1 hzz1 hb1
  have hzw1 := hU1.size
  replace HU := HU.trans0 hU1
  refine Wl_nil ?_
  refine W_seq ?_
  refine W_region ?_
  refine Wl_lit (pv := [(0, .int .i64 2), (1, .int .i64 1), (2, .int .i64 0), (3, .int .i64 2)]) (cs := [.int .i64 2, .int .i64 1, .int .i64 0, .int .i64 2]) Try.underlying22 Try.sizeOf3 Try.zeroValue3 (by decide) (by decide) (by simp only [List.map_toArray, List.map_cons, List.map_nil] <;> rfl) (by kernel_rfl) rfl (by decide) ?_
  intro B2 w2 hB2 hU2 hzz2 hs2
  have hzw2 := hU2.size
  replace HU := HU.trans0 hU2
  replace hb1 := hb1.upd0 hU2
  replace hs2 : Own w2 (Is B2) 3 1 (.slice (some ⟨B2, 0, none⟩) 4 4) 4 (ints .i64 [2, 1, 0, 2]) := hs2
  refine Wl_v (r_as (v := .slice (some ⟨B2, 0, none⟩) 4 4) rfl) ?_
  refine Wl_nil ?_
  refine W_seq ?_
  refine W_region ?_
  refine Wl_v (r_build (pl := #[(0, 1), (1, 1)]) (pv := [(0, .int .i64 2), (1, .int .u32 2)]) (cs := #[.int .i64 2, .int .u32 2]) Try.zeroValue37 Try.underlying37 (fun w => by kernel_rfl) (by simp only [List.map_toArray, List.map_cons, List.map_nil] <;> rfl) (by kernel_rfl)) ?_
  refine Wl_v (r_build (pl := #[(0, 1), (1, 1)]) (pv := [(0, .int .i64 1)]) (cs := #[.int .i64 1, .int .u32 0]) Try.zeroValue37 Try.underlying37 (fun w => by kernel_rfl) (by simp only [List.map_toArray, List.map_cons, List.map_nil] <;> rfl) (by kernel_rfl)) ?_
  refine Wl_v (r_build (pl := #[(0, 1), (1, 1)]) (pv := []) (cs := #[.int .i64 0, .int .u32 0]) Try.zeroValue37 Try.underlying37 (fun w => by kernel_rfl) (by simp only [List.map_toArray, List.map_cons, List.map_nil] <;> rfl) (by kernel_rfl)) ?_
  refine Wl_v (r_build (pl := #[(0, 1), (1, 1)]) (pv := [(0, .int .i64 2), (1, .int .u32 3)]) (cs := #[.int .i64 2, .int .u32 3]) Try.zeroValue37 Try.underlying37 (fun w => by kernel_rfl) (by simp only [List.map_toArray, List.map_cons, List.map_nil] <;> rfl) (by kernel_rfl)) ?_
  refine Wl_lit (pv := [(0, .agg #[.int .i64 2, .int .u32 2]), (1, .agg #[.int .i64 1, .int .u32 0]), (2, .agg #[.int .i64 0, .int .u32 0]), (3, .agg #[.int .i64 2, .int .u32 3])]) (cs := [.int .i64 2, .int .u32 2, .int .i64 1, .int .u32 0, .int .i64 0, .int .u32 0, .int .i64 2, .int .u32 3]) Try.underlying28 Try.sizeOf37 Try.zeroValue37 (by decide) (by decide) (by simp only [List.map_toArray, List.map_cons, List.map_nil] <;> rfl) (by kernel_rfl) rfl (by decide) ?_
  intro B3 w3 hB3 hU3 hzz3 hs3
  have hzw3 := hU3.size
  replace HU := HU.trans0 hU3
  replace hb1 := hb1.upd0 hU3
  replace hs2 := hs2.upd0 hU3
  replace hs3 : Own w3 (Is B3) 37 2 (.slice (some ⟨B3, 0, none⟩) 4 4) 4 (rows encC [(2, 2), (1, 0), (0, 0), (2, 3)]) := hs3
  refine Wl_alloc (cs := [.slice none 0 0]) Try.zeroValue28 rfl ?_
  intro B4 w4 hB4 hU4 hzz4 hb4
  have hzw4 := hU4.size
  replace HU := HU.trans0 hU4
  replace hb1 := hb1.upd0 hU4
  replace hs2 := hs2.upd0 hU4
  replace hs3 := hs3.upd0 hU4
  refine Wl_store (v := .slice (some ⟨B3, 0, none⟩) 4 4) (cs' := [.slice (some ⟨B3, 0, none⟩) 4 4]) Try.sizeOf28 rfl rfl rfl rfl hb4 rfl rfl ?_
  intro w5 hU5 hzz5 hb4n
  replace hb4 := hb4n; clear hb4n
  have hzw5 := hU5.size
  replace HU := HU.trans1 hU5 (by show (False) ∨ w.heap.size ≤ B4; omega)
  replace hb1 := hb1.upd1 hU5 (by omega)
  replace hs2 := hs2.upd1 hU5 (by intro h1; have h3 : B4 = B2 := h1; omega)
  replace hs3 := hs3.upd1 hU5 (by intro h1; have h3 : B4 = B3 := h1; omega)
  refine Wl_nil ?_
  refine W_seq ?_
  refine W_region ?_
  refine Wl_v (r_mv (v := .slice (some ⟨B2, 0, none⟩) 4 4) rfl) ?_
  have q1 : Rt [2, 1, 0, 2] := (by decide +kernel)
  refine Wl_call (r_call1 rfl Try.call16 rfl) (codes_ok _ hs2.sl (by omega) q1) ?_
  rintro v w6 ⟨a6, c6, rfl, hO6, hU6⟩
  have hzw6 := hU6.size
  replace HU := HU.trans0 hU6
  replace hb1 := hb1.upd0 hU6
  replace hs2 := hs2.upd0 hU6
  replace hs3 := hs3.upd0 hU6
  replace hb4 := hb4.upd0 hU6
  replace hO6 := hO6.tight
  have hl_hO6 := rlen encC_len (by decide) hO6.sl
  have hc_hO6 := hO6.sl.cap.1
  refine Wl_v (r_mv (v := .tuple #[.slice a6 4 c6, .int .i64 0]) rfl) ?_
  refine Wl_v (r_ext (v := .slice a6 4 c6) rfl rfl) ?_
  refine Wl_v (r_ext (v := .int .i64 0) rfl rfl) ?_
  refine Wl_v (r_as (v := .slice a6 4 c6) rfl) ?_
  refine Wl_v (r_as (v := .int .i64 0) rfl) ?_
  refine Wl_nil ?_
  refine W_seq ?_
  refine W_region ?_
  refine Wl_v (r_mv (v := .slice (some ⟨B2, 0, none⟩) 4 4) rfl) ?_
  have q2 : Rt [2, 1, 0, 2] := (by decide +kernel)
  refine Wl_call (r_call1 rfl Try.call26 rfl) (mlen_ok _ hs2.sl (by omega) q2) ?_
  rintro v w7 ⟨rfl, hU7⟩
  have hzw7 := hU7.size
  replace HU := HU.trans0 hU7
  replace hb1 := hb1.upd0 hU7
  replace hs2 := hs2.upd0 hU7
  replace hs3 := hs3.upd0 hU7
  replace hb4 := hb4.upd0 hU7
  replace hO6 := hO6.upd0 hU7
  refine Wl_v (r_mv (v := .tuple #[.int .i64 (mx [2, 1, 0, 2]), .int .i64 0]) rfl) ?_
  refine Wl_v (r_ext (v := .int .i64 (mx [2, 1, 0, 2])) rfl rfl) ?_
  refine Wl_v (r_ext (v := .int .i64 0) rfl rfl) ?_
  refine Wl_v (r_as (v := .int .i64 (mx [2, 1, 0, 2])) rfl) ?_
  refine Wl_v (r_as (v := .int .i64 0) rfl) ?_
  refine Wl_nil ?_
  refine W_seq ?_
  refine W_seq ?_
  refine W_region ?_
  refine Wl_v (r_mv (v := .slice a6 4 c6) rfl) ?_
  refine Wl_load (v := .slice (some ⟨B3, 0, none⟩) 4 4) Try.isAgg28 rfl hb4 rfl ?_
  refine Wl_call (r_call2 rfl Try.call18 rfl rfl) (lcodes_spec _ hO6.sl hs3.sl (by omega)) ?_
  rintro v w8 ⟨rfl, hU8⟩
  have hzw8 := hU8.size
  replace HU := HU.trans0 hU8
  replace hb1 := hb1.upd0 hU8
  replace hs2 := hs2.upd0 hU8
  replace hs3 := hs3.upd0 hU8
  replace hb4 := hb4.upd0 hU8
  replace hO6 := hO6.upd0 hU8
  refine Wl_v (r_not rfl) ?_
  refine Wl_v (r_mv (v := .bool (!decide ((cds [2, 1, 0, 2]) = [(2, 2), (1, 0), (0, 0), (2, 3)]))) rfl) ?_
  have q3 : (cds [2, 1, 0, 2]) = [(2, 2), (1, 0), (0, 0), (2, 3)] := (by decide +kernel)
  rw [decide_eq_true q3]
  simp only [Bool.not_true, Bool.not_false]
  refine Wl_guard_t rfl ?_
  refine Wl_v (r_mv (v := .int .i64 0) rfl) ?_
  refine Wl_guard_t rfl ?_
  refine Wl_call (r_call1 rfl Try.call14 rfl) (num_spec _ ) ?_
  rintro v w9 ⟨rfl, hU9⟩
  have hzw9 := hU9.size
  replace HU := HU.trans0 hU9
  replace hb1 := hb1.upd0 hU9
  replace hs2 := hs2.upd0 hU9
  replace hs3 := hs3.upd0 hU9
  replace hb4 := hb4.upd0 hU9
  replace hO6 := hO6.upd0 hU9
  refine Wl_guard_t rfl ?_
  refine Wl_v (r_mv (v := .int .i64 0) rfl) ?_
  refine Wl_guard_t rfl ?_
  refine Wl_call (r_call1 rfl Try.call14 rfl) (num_spec _ ) ?_
  rintro v w10 ⟨rfl, hU10⟩
  have hzw10 := hU10.size
  replace HU := HU.trans0 hU10
  replace hb1 := hb1.upd0 hU10
  replace hs2 := hs2.upd0 hU10
  replace hs3 := hs3.upd0 hU10
  replace hb4 := hb4.upd0 hU10
  replace hO6 := hO6.upd0 hU10
  refine Wl_guard_t rfl ?_
  refine Wl_v (r_add rfl rfl (show IntKind.i64.wrap (0 + 0) = 0 by decide)) ?_
  refine Wl_guard_t rfl ?_
  refine Wl_v (v := .bool false) (r_ne (a := 0) (b := 0) rfl rfl) ?_
  refine Wl_v (r_pick_f (v := .bool false) rfl rfl) ?_
  refine Wl_v (r_mv (v := .bool false) rfl) ?_
  refine Wl_guard_t rfl ?_
  refine Wl_v (r_mv (v := .int .i64 (mx [2, 1, 0, 2])) rfl) ?_
  refine Wl_guard_t rfl ?_
  refine Wl_v (r_ne rfl rfl) ?_
  refine Wl_v (r_pick_f (v := .bool (decide ((mx [2, 1, 0, 2]) ≠ 2))) rfl rfl) ?_
  refine Wl_v (r_mv (v := .bool (decide ((mx [2, 1, 0, 2]) ≠ 2))) rfl) ?_
  have q4 : ¬ ((mx [2, 1, 0, 2]) ≠ 2) := (by decide +kernel)
  rw [decide_eq_false q4]
  refine Wl_guard_t rfl ?_
  refine Wl_lit (pv := [(0, .int .i64 1)]) (cs := [.int .i64 1]) Try.underlying22 Try.sizeOf3 Try.zeroValue3 (by decide) (by decide) (by simp only [List.map_toArray, List.map_cons, List.map_nil] <;> rfl) (by kernel_rfl) rfl (by decide) ?_
  intro B11 w11 hB11 hU11 hzz11 hs11
  have hzw11 := hU11.size
  replace HU := HU.trans0 hU11
  replace hb1 := hb1.upd0 hU11
  replace hs2 := hs2.upd0 hU11
  replace hs3 := hs3.upd0 hU11
  replace hb4 := hb4.upd0 hU11
  replace hO6 := hO6.upd0 hU11
  replace hs11 : Own w11 (Is B11) 3 1 (.slice (some ⟨B11, 0, none⟩) 1 1) 1 (ints .i64 [1]) := hs11
  refine Wl_guard_t rfl ?_
  have q5 : ¬ (Rt [1]) := (by decide +kernel)
  refine Wl_call (r_call1 rfl Try.call15 rfl) (check_no _ hs11.sl (by omega) q5) ?_
  rintro v w12 ⟨rfl, hU12⟩
  have hzw12 := hU12.size
  replace HU := HU.trans0 hU12
  replace hb1 := hb1.upd0 hU12
  replace hs2 := hs2.upd0 hU12
  replace hs3 := hs3.upd0 hU12
  replace hb4 := hb4.upd0 hU12
  replace hO6 := hO6.upd0 hU12
  replace hs11 := hs11.upd0 hU12
  refine Wl_guard_t rfl ?_
  refine Wl_call (r_call1 rfl Try.call14 rfl) (num_spec _ ) ?_
  rintro v w13 ⟨rfl, hU13⟩
  have hzw13 := hU13.size
  replace HU := HU.trans0 hU13
  replace hb1 := hb1.upd0 hU13
  replace hs2 := hs2.upd0 hU13
  replace hs3 := hs3.upd0 hU13
  replace hb4 := hb4.upd0 hU13
  replace hO6 := hO6.upd0 hU13
  replace hs11 := hs11.upd0 hU13
  refine Wl_guard_t rfl ?_
  refine Wl_v (v := .bool false) (r_ne (a := 12) (b := 12) rfl rfl) ?_
  refine Wl_v (r_pick_f (v := .bool false) rfl rfl) ?_
  refine Wl_v (r_mv (v := .bool false) rfl) ?_
  refine Wl_guard_t rfl ?_
  refine Wl_lit (pv := [(0, .int .i64 1), (1, .int .i64 2)]) (cs := [.int .i64 1, .int .i64 2]) Try.underlying22 Try.sizeOf3 Try.zeroValue3 (by decide) (by decide) (by simp only [List.map_toArray, List.map_cons, List.map_nil] <;> rfl) (by kernel_rfl) rfl (by decide) ?_
  intro B14 w14 hB14 hU14 hzz14 hs14
  have hzw14 := hU14.size
  replace HU := HU.trans0 hU14
  replace hb1 := hb1.upd0 hU14
  replace hs2 := hs2.upd0 hU14
  replace hs3 := hs3.upd0 hU14
  replace hb4 := hb4.upd0 hU14
  replace hO6 := hO6.upd0 hU14
  replace hs11 := hs11.upd0 hU14
  replace hs14 : Own w14 (Is B14) 3 1 (.slice (some ⟨B14, 0, none⟩) 2 2) 2 (ints .i64 [1, 2]) := hs14
  refine Wl_guard_t rfl ?_
  have q6 : ¬ (Rt [1, 2]) := (by decide +kernel)
  refine Wl_call (r_call1 rfl Try.call15 rfl) (check_no _ hs14.sl (by omega) q6) ?_
  rintro v w15 ⟨rfl, hU15⟩
  have hzw15 := hU15.size
  replace HU := HU.trans0 hU15
  replace hb1 := hb1.upd0 hU15
  replace hs2 := hs2.upd0 hU15
  replace hs3 := hs3.upd0 hU15
  replace hb4 := hb4.upd0 hU15
  replace hO6 := hO6.upd0 hU15
  replace hs11 := hs11.upd0 hU15
  replace hs14 := hs14.upd0 hU15
  refine Wl_guard_t rfl ?_
  refine Wl_call (r_call1 rfl Try.call14 rfl) (num_spec _ ) ?_
  rintro v w16 ⟨rfl, hU16⟩
  have hzw16 := hU16.size
  replace HU := HU.trans0 hU16
  replace hb1 := hb1.upd0 hU16
  replace hs2 := hs2.upd0 hU16
  replace hs3 := hs3.upd0 hU16
  replace hb4 := hb4.upd0 hU16
  replace hO6 := hO6.upd0 hU16
  replace hs11 := hs11.upd0 hU16
  replace hs14 := hs14.upd0 hU16
  refine Wl_guard_t rfl ?_
  refine Wl_v (v := .bool false) (r_ne (a := 12) (b := 12) rfl rfl) ?_
  refine Wl_v (r_pick_f (v := .bool false) rfl rfl) ?_
  refine Wl_v (r_mv (v := .bool false) rfl) ?_
  refine Wl_guard_t rfl ?_
  refine Wl_lit (pv := [(0, .int .i64 1), (1, .int .i64 1), (2, .int .i64 1)]) (cs := [.int .i64 1, .int .i64 1, .int .i64 1]) Try.underlying22 Try.sizeOf3 Try.zeroValue3 (by decide) (by decide) (by simp only [List.map_toArray, List.map_cons, List.map_nil] <;> rfl) (by kernel_rfl) rfl (by decide) ?_
  intro B17 w17 hB17 hU17 hzz17 hs17
  have hzw17 := hU17.size
  replace HU := HU.trans0 hU17
  replace hb1 := hb1.upd0 hU17
  replace hs2 := hs2.upd0 hU17
  replace hs3 := hs3.upd0 hU17
  replace hb4 := hb4.upd0 hU17
  replace hO6 := hO6.upd0 hU17
  replace hs11 := hs11.upd0 hU17
  replace hs14 := hs14.upd0 hU17
  replace hs17 : Own w17 (Is B17) 3 1 (.slice (some ⟨B17, 0, none⟩) 3 3) 3 (ints .i64 [1, 1, 1]) := hs17
  refine Wl_guard_t rfl ?_
  have q7 : ¬ (Rt [1, 1, 1]) := (by decide +kernel)
  refine Wl_call (r_call1 rfl Try.call15 rfl) (check_no _ hs17.sl (by omega) q7) ?_
  rintro v w18 ⟨rfl, hU18⟩
  have hzw18 := hU18.size
  replace HU := HU.trans0 hU18
  replace hb1 := hb1.upd0 hU18
  replace hs2 := hs2.upd0 hU18
  replace hs3 := hs3.upd0 hU18
  replace hb4 := hb4.upd0 hU18
  replace hO6 := hO6.upd0 hU18
  replace hs11 := hs11.upd0 hU18
  replace hs14 := hs14.upd0 hU18
  replace hs17 := hs17.upd0 hU18
  refine Wl_guard_t rfl ?_
  refine Wl_call (r_call1 rfl Try.call14 rfl) (num_spec _ ) ?_
  rintro v w19 ⟨rfl, hU19⟩
  have hzw19 := hU19.size
  replace HU := HU.trans0 hU19
  replace hb1 := hb1.upd0 hU19
  replace hs2 := hs2.upd0 hU19
  replace hs3 := hs3.upd0 hU19
  replace hb4 := hb4.upd0 hU19
  replace hO6 := hO6.upd0 hU19
  replace hs11 := hs11.upd0 hU19
  replace hs14 := hs14.upd0 hU19
  replace hs17 := hs17.upd0 hU19
  refine Wl_guard_t rfl ?_
  refine Wl_v (v := .bool false) (r_ne (a := 12) (b := 12) rfl rfl) ?_
  refine Wl_v (r_pick_f (v := .bool false) rfl rfl) ?_
  refine Wl_v (r_mv (v := .bool false) rfl) ?_
  refine Wl_guard_t rfl ?_
  refine Wl_lit (pv := [(0, .int .i64 1), (1, .int .i64 1)]) (cs := [.int .i64 1, .int .i64 1]) Try.underlying22 Try.sizeOf3 Try.zeroValue3 (by decide) (by decide) (by simp only [List.map_toArray, List.map_cons, List.map_nil] <;> rfl) (by kernel_rfl) rfl (by decide) ?_
  intro B20 w20 hB20 hU20 hzz20 hs20
  have hzw20 := hU20.size
  replace HU := HU.trans0 hU20
  replace hb1 := hb1.upd0 hU20
  replace hs2 := hs2.upd0 hU20
  replace hs3 := hs3.upd0 hU20
  replace hb4 := hb4.upd0 hU20
  replace hO6 := hO6.upd0 hU20
  replace hs11 := hs11.upd0 hU20
  replace hs14 := hs14.upd0 hU20
  replace hs17 := hs17.upd0 hU20
  replace hs20 : Own w20 (Is B20) 3 1 (.slice (some ⟨B20, 0, none⟩) 2 2) 2 (ints .i64 [1, 1]) := hs20
  refine Wl_guard_t rfl ?_
  have q8 : Rt [1, 1] := (by decide +kernel)
  refine Wl_call (r_call1 rfl Try.call15 rfl) (check_ok _ hs20.sl (by omega) q8) ?_
  rintro v w21 ⟨rfl, hU21⟩
  have hzw21 := hU21.size
  replace HU := HU.trans0 hU21
  replace hb1 := hb1.upd0 hU21
  replace hs2 := hs2.upd0 hU21
  replace hs3 := hs3.upd0 hU21
  replace hb4 := hb4.upd0 hU21
  replace hO6 := hO6.upd0 hU21
  replace hs11 := hs11.upd0 hU21
  replace hs14 := hs14.upd0 hU21
  replace hs17 := hs17.upd0 hU21
  replace hs20 := hs20.upd0 hU21
  refine Wl_guard_t rfl ?_
  refine Wl_call (r_call1 rfl Try.call14 rfl) (num_spec _ ) ?_
  rintro v w22 ⟨rfl, hU22⟩
  have hzw22 := hU22.size
  replace HU := HU.trans0 hU22
  replace hb1 := hb1.upd0 hU22
  replace hs2 := hs2.upd0 hU22
  replace hs3 := hs3.upd0 hU22
  replace hb4 := hb4.upd0 hU22
  replace hO6 := hO6.upd0 hU22
  replace hs11 := hs11.upd0 hU22
  replace hs14 := hs14.upd0 hU22
  replace hs17 := hs17.upd0 hU22
  replace hs20 := hs20.upd0 hU22
  refine Wl_guard_t rfl ?_
  refine Wl_v (v := .bool false) (r_ne (a := 0) (b := 0) rfl rfl) ?_
  refine Wl_v (r_pick_f (v := .bool false) rfl rfl) ?_
  refine Wl_nil ?_
  refine W_cond_f rfl ?_
  refine W_skip ?_
  refine W_seq ?_
  refine W_region ?_
  refine Wl_v (r_mv (v := .slice (some ⟨B2, 0, none⟩) 4 4) rfl) ?_
  refine Wl_v (r_build (pl := #[(0, 1), (1, 1)]) (pv := [(0, .int .i64 2), (1, .int .u32 2)]) (cs := #[.int .i64 2, .int .u32 2]) Try.zeroValue37 Try.underlying37 (fun w => by kernel_rfl) (by simp only [List.map_toArray, List.map_cons, List.map_nil] <;> rfl) (by kernel_rfl)) ?_
  refine Wl_call (r_call2 rfl Try.call20 rfl rfl) (symbol_spec (c := (2, 2)) _ hs2.sl (by omega)) ?_
  rintro v w23 ⟨rfl, hU23⟩
  have hzw23 := hU23.size
  replace HU := HU.trans0 hU23
  replace hb1 := hb1.upd0 hU23
  replace hs2 := hs2.upd0 hU23
  replace hs3 := hs3.upd0 hU23
  replace hb4 := hb4.upd0 hU23
  replace hO6 := hO6.upd0 hU23
  replace hs11 := hs11.upd0 hU23
  replace hs14 := hs14.upd0 hU23
  replace hs17 := hs17.upd0 hU23
  replace hs20 := hs20.upd0 hU23
  refine Wl_v (r_mv (v := .tuple #[.int .i64 (if 0 ≤ sy [2, 1, 0, 2] (2, 2) then sy [2, 1, 0, 2] (2, 2) else 0), .bool (decide (0 ≤ sy [2, 1, 0, 2] (2, 2)))]) rfl) ?_
  refine Wl_v (r_ext (v := .int .i64 (if 0 ≤ sy [2, 1, 0, 2] (2, 2) then sy [2, 1, 0, 2] (2, 2) else 0)) rfl rfl) ?_
  refine Wl_v (r_ext (v := .bool (decide (0 ≤ sy [2, 1, 0, 2] (2, 2)))) rfl rfl) ?_
  refine Wl_v (r_as (v := .int .i64 (if 0 ≤ sy [2, 1, 0, 2] (2, 2) then sy [2, 1, 0, 2] (2, 2) else 0)) rfl) ?_
  refine Wl_v (r_as (v := .bool (decide (0 ≤ sy [2, 1, 0, 2] (2, 2)))) rfl) ?_
  refine Wl_nil ?_
  refine W_seq ?_
  refine W_region ?_
  refine Wl_v (r_mv (v := .slice (some ⟨B2, 0, none⟩) 4 4) rfl) ?_
  refine Wl_call (r_call3 rfl Try.call22 rfl rfl rfl) (decode_spec _ hs2.sl (by omega) (by omega) (by omega)) ?_
  rintro v w24 ⟨rfl, hU24⟩
  have hzw24 := hU24.size
  replace HU := HU.trans0 hU24
  replace hb1 := hb1.upd0 hU24
  replace hs2 := hs2.upd0 hU24
  replace hs3 := hs3.upd0 hU24
  replace hb4 := hb4.upd0 hU24
  replace hO6 := hO6.upd0 hU24
  replace hs11 := hs11.upd0 hU24
  replace hs14 := hs14.upd0 hU24
  replace hs17 := hs17.upd0 hU24
  replace hs20 := hs20.upd0 hU24
  refine Wl_v (r_mv (v := .tuple #[.int .i64 ((dec [2, 1, 0, 2] 13 4).1), .int .i64 ((dec [2, 1, 0, 2] 13 4).2.1), .int .i64 ((dec [2, 1, 0, 2] 13 4).2.2)]) rfl) ?_
  refine Wl_v (r_ext (v := .int .i64 ((dec [2, 1, 0, 2] 13 4).1)) rfl rfl) ?_
  refine Wl_v (r_ext (v := .int .i64 ((dec [2, 1, 0, 2] 13 4).2.1)) rfl rfl) ?_
  refine Wl_v (r_ext (v := .int .i64 ((dec [2, 1, 0, 2] 13 4).2.2)) rfl rfl) ?_
  refine Wl_v (r_as (v := .int .i64 ((dec [2, 1, 0, 2] 13 4).1)) rfl) ?_
  refine Wl_v (r_as (v := .int .i64 ((dec [2, 1, 0, 2] 13 4).2.1)) rfl) ?_
  refine Wl_v (r_as (v := .int .i64 ((dec [2, 1, 0, 2] 13 4).2.2)) rfl) ?_
  refine Wl_nil ?_
  refine W_seq ?_
  refine W_region ?_
  refine Wl_v (r_mv (v := .slice (some ⟨B2, 0, none⟩) 4 4) rfl) ?_
  refine Wl_call (r_call3 rfl Try.call22 rfl rfl rfl) (decode_spec _ hs2.sl (by omega) (by omega) (by omega)) ?_
  rintro v w25 ⟨rfl, hU25⟩
  have hzw25 := hU25.size
  replace HU := HU.trans0 hU25
  replace hb1 := hb1.upd0 hU25
  replace hs2 := hs2.upd0 hU25
  replace hs3 := hs3.upd0 hU25
  replace hb4 := hb4.upd0 hU25
  replace hO6 := hO6.upd0 hU25
  replace hs11 := hs11.upd0 hU25
  replace hs14 := hs14.upd0 hU25
  replace hs17 := hs17.upd0 hU25
  replace hs20 := hs20.upd0 hU25
  refine Wl_v (r_mv (v := .tuple #[.int .i64 ((dec [2, 1, 0, 2] 1 1).1), .int .i64 ((dec [2, 1, 0, 2] 1 1).2.1), .int .i64 ((dec [2, 1, 0, 2] 1 1).2.2)]) rfl) ?_
  refine Wl_v (r_ext (v := .int .i64 ((dec [2, 1, 0, 2] 1 1).1)) rfl rfl) ?_
  refine Wl_v (r_ext (v := .int .i64 ((dec [2, 1, 0, 2] 1 1).2.1)) rfl rfl) ?_
  refine Wl_v (r_ext (v := .int .i64 ((dec [2, 1, 0, 2] 1 1).2.2)) rfl rfl) ?_
  refine Wl_v (r_as (v := .int .i64 ((dec [2, 1, 0, 2] 1 1).1)) rfl) ?_
  refine Wl_v (r_as (v := .int .i64 ((dec [2, 1, 0, 2] 1 1).2.1)) rfl) ?_
  refine Wl_v (r_as (v := .int .i64 ((dec [2, 1, 0, 2] 1 1).2.2)) rfl) ?_
  refine Wl_nil ?_
  refine W_seq ?_
  refine W_region ?_
  refine Wl_lit (pv := [(0, .int .i64 1), (1, .int .i64 1)]) (cs := [.int .i64 1, .int .i64 1]) Try.underlying22 Try.sizeOf3 Try.zeroValue3 (by decide) (by decide) (by simp only [List.map_toArray, List.map_cons, List.map_nil] <;> rfl) (by kernel_rfl) rfl (by decide) ?_
  intro B26 w26 hB26 hU26 hzz26 hs26
  have hzw26 := hU26.size
  replace HU := HU.trans0 hU26
  replace hb1 := hb1.upd0 hU26
  replace hs2 := hs2.upd0 hU26
  replace hs3 := hs3.upd0 hU26
  replace hb4 := hb4.upd0 hU26
  replace hO6 := hO6.upd0 hU26
  replace hs11 := hs11.upd0 hU26
  replace hs14 := hs14.upd0 hU26
  replace hs17 := hs17.upd0 hU26
  replace hs20 := hs20.upd0 hU26
  replace hs26 : Own w26 (Is B26) 3 1 (.slice (some ⟨B26, 0, none⟩) 2 2) 2 (ints .i64 [1, 1]) := hs26
  refine Wl_call (r_call3 rfl Try.call22 rfl rfl rfl) (decode_spec _ hs26.sl (by omega) (by omega) (by omega)) ?_
  rintro v w27 ⟨rfl, hU27⟩
  have hzw27 := hU27.size
  replace HU := HU.trans0 hU27
  replace hb1 := hb1.upd0 hU27
  replace hs2 := hs2.upd0 hU27
  replace hs3 := hs3.upd0 hU27
  replace hb4 := hb4.upd0 hU27
  replace hO6 := hO6.upd0 hU27
  replace hs11 := hs11.upd0 hU27
  replace hs14 := hs14.upd0 hU27
  replace hs17 := hs17.upd0 hU27
  replace hs20 := hs20.upd0 hU27
  replace hs26 := hs26.upd0 hU27
  refine Wl_v (r_mv (v := .tuple #[.int .i64 ((dec [1, 1] 2 1).1), .int .i64 ((dec [1, 1] 2 1).2.1), .int .i64 ((dec [1, 1] 2 1).2.2)]) rfl) ?_
  refine Wl_v (r_ext (v := .int .i64 ((dec [1, 1] 2 1).1)) rfl rfl) ?_
  refine Wl_v (r_ext (v := .int .i64 ((dec [1, 1] 2 1).2.1)) rfl rfl) ?_
  refine Wl_v (r_ext (v := .int .i64 ((dec [1, 1] 2 1).2.2)) rfl rfl) ?_
  refine Wl_v (r_as (v := .int .i64 ((dec [1, 1] 2 1).1)) rfl) ?_
  refine Wl_v (r_as (v := .int .i64 ((dec [1, 1] 2 1).2.1)) rfl) ?_
  refine Wl_v (r_as (v := .int .i64 ((dec [1, 1] 2 1).2.2)) rfl) ?_
  refine Wl_nil ?_
  refine W_seq ?_
  refine W_region ?_
  refine Wl_load (v := .slice (some ⟨B3, 0, none⟩) 4 4) Try.isAgg28 rfl hb4 rfl ?_
  refine Wl_call (r_call1 rfl Try.call24 rfl) (fromcodes_spec _ hs3.sl (by omega)) ?_
  rintro v w28 ⟨a28, n28, c28, rfl, hO28, hU28⟩
  have hzw28 := hU28.size
  replace HU := HU.trans0 hU28
  replace hb1 := hb1.upd0 hU28
  replace hs2 := hs2.upd0 hU28
  replace hs3 := hs3.upd0 hU28
  replace hb4 := hb4.upd0 hU28
  replace hO6 := hO6.upd0 hU28
  replace hs11 := hs11.upd0 hU28
  replace hs14 := hs14.upd0 hU28
  replace hs17 := hs17.upd0 hU28
  replace hs20 := hs20.upd0 hU28
  replace hs26 := hs26.upd0 hU28
  replace hO28 := hO28.tight
  have hl_hO28 := ilen hO28.sl
  have hc_hO28 := hO28.sl.cap.1
  have hlq9 := (ilen hO28.sl).symm.trans (show (ofc [(2, 2), (1, 0), (0, 0), (2, 3)]).1.length = 4 by decide +kernel)
  refine Wl_v (r_mv (v := .tuple #[.slice a28 n28 c28, .int .i64 ((ofc [(2, 2), (1, 0), (0, 0), (2, 3)]).2)]) rfl) ?_
  refine Wl_v (r_ext (v := .slice a28 n28 c28) rfl rfl) ?_
  refine Wl_v (r_ext (v := .int .i64 ((ofc [(2, 2), (1, 0), (0, 0), (2, 3)]).2)) rfl rfl) ?_
  refine Wl_v (r_as (v := .slice a28 n28 c28) rfl) ?_
  refine Wl_v (r_as (v := .int .i64 ((ofc [(2, 2), (1, 0), (0, 0), (2, 3)]).2)) rfl) ?_
  refine Wl_nil ?_
  refine W_seq ?_
  refine W_region ?_
  refine Wl_v (r_build (pl := #[(0, 1), (1, 1)]) (pv := [(0, .int .i64 1), (1, .int .u32 1)]) (cs := #[.int .i64 1, .int .u32 1]) Try.zeroValue37 Try.underlying37 (fun w => by kernel_rfl) (by simp only [List.map_toArray, List.map_cons, List.map_nil] <;> rfl) (by kernel_rfl)) ?_
  refine Wl_v (r_build (pl := #[(0, 1), (1, 1)]) (pv := [(0, .int .i64 1)]) (cs := #[.int .i64 1, .int .u32 0]) Try.zeroValue37 Try.underlying37 (fun w => by kernel_rfl) (by simp only [List.map_toArray, List.map_cons, List.map_nil] <;> rfl) (by kernel_rfl)) ?_
  refine Wl_lit (pv := [(0, .agg #[.int .i64 1, .int .u32 1]), (1, .agg #[.int .i64 1, .int .u32 0])]) (cs := [.int .i64 1, .int .u32 1, .int .i64 1, .int .u32 0]) Try.underlying28 Try.sizeOf37 Try.zeroValue37 (by decide) (by decide) (by simp only [List.map_toArray, List.map_cons, List.map_nil] <;> rfl) (by kernel_rfl) rfl (by decide) ?_
  intro B29 w29 hB29 hU29 hzz29 hs29
  have hzw29 := hU29.size
  replace HU := HU.trans0 hU29
  replace hb1 := hb1.upd0 hU29
  replace hs2 := hs2.upd0 hU29
  replace hs3 := hs3.upd0 hU29
  replace hb4 := hb4.upd0 hU29
  replace hO6 := hO6.upd0 hU29
  replace hs11 := hs11.upd0 hU29
  replace hs14 := hs14.upd0 hU29
  replace hs17 := hs17.upd0 hU29
  replace hs20 := hs20.upd0 hU29
  replace hs26 := hs26.upd0 hU29
  replace hO28 := hO28.upd0 hU29
  replace hs29 : Own w29 (Is B29) 37 2 (.slice (some ⟨B29, 0, none⟩) 2 2) 2 (rows encC [(1, 1), (1, 0)]) := hs29
  refine Wl_call (r_call1 rfl Try.call24 rfl) (fromcodes_spec _ hs29.sl (by omega)) ?_
  rintro v w30 ⟨a30, n30, c30, rfl, hO30, hU30⟩
  have hzw30 := hU30.size
  replace HU := HU.trans0 hU30
  replace hb1 := hb1.upd0 hU30
  replace hs2 := hs2.upd0 hU30
  replace hs3 := hs3.upd0 hU30
  replace hb4 := hb4.upd0 hU30
  replace hO6 := hO6.upd0 hU30
  replace hs11 := hs11.upd0 hU30
  replace hs14 := hs14.upd0 hU30
  replace hs17 := hs17.upd0 hU30
  replace hs20 := hs20.upd0 hU30
  replace hs26 := hs26.upd0 hU30
  replace hO28 := hO28.upd0 hU30
  replace hs29 := hs29.upd0 hU30
  replace hO30 := hO30.tight
  have hl_hO30 := ilen hO30.sl
  have hc_hO30 := hO30.sl.cap.1
  have hlq10 := (ilen hO30.sl).symm.trans (show (ofc [(1, 1), (1, 0)]).1.length = 0 by decide +kernel)
  refine Wl_v (r_mv (v := .tuple #[.slice a30 n30 c30, .int .i64 ((ofc [(1, 1), (1, 0)]).2)]) rfl) ?_
  refine Wl_v (r_ext (v := .slice a30 n30 c30) rfl rfl) ?_
  refine Wl_v (r_ext (v := .int .i64 ((ofc [(1, 1), (1, 0)]).2)) rfl rfl) ?_
  refine Wl_v (r_as (v := .slice a30 n30 c30) rfl) ?_
  refine Wl_v (r_as (v := .int .i64 ((ofc [(1, 1), (1, 0)]).2)) rfl) ?_
  refine Wl_nil ?_
  refine W_seq ?_
  refine W_seq ?_
  refine W_region ?_
  refine Wl_v (r_mv (v := .int .i64 (if 0 ≤ sy [2, 1, 0, 2] (2, 2) then sy [2, 1, 0, 2] (2, 2) else 0)) rfl) ?_
  refine Wl_v (r_ne rfl rfl) ?_
  refine Wl_v (r_mv (v := .bool (decide ((if 0 ≤ sy [2, 1, 0, 2] (2, 2) then sy [2, 1, 0, 2] (2, 2) else 0) ≠ 0))) rfl) ?_
  have q11 : ¬ ((if 0 ≤ sy [2, 1, 0, 2] (2, 2) then sy [2, 1, 0, 2] (2, 2) else 0) ≠ 0) := (by decide +kernel)
  rw [decide_eq_false q11]
  refine Wl_guard_t rfl ?_
  refine Wl_v (r_mv (v := .bool (decide (0 ≤ sy [2, 1, 0, 2] (2, 2)))) rfl) ?_
  refine Wl_guard_t rfl ?_
  refine Wl_v (r_not rfl) ?_
  refine Wl_v (r_pick_f (v := .bool (!decide (0 ≤ sy [2, 1, 0, 2] (2, 2)))) rfl rfl) ?_
  refine Wl_v (r_mv (v := .bool (!decide (0 ≤ sy [2, 1, 0, 2] (2, 2)))) rfl) ?_
  have q12 : 0 ≤ sy [2, 1, 0, 2] (2, 2) := (by decide +kernel)
  rw [decide_eq_true q12]
  simp only [Bool.not_true, Bool.not_false]
  refine Wl_guard_t rfl ?_
  refine Wl_v (r_mv (v := .int .i64 ((dec [2, 1, 0, 2] 13 4).1)) rfl) ?_
  refine Wl_guard_t rfl ?_
  refine Wl_v (r_ne rfl rfl) ?_
  refine Wl_v (r_pick_f (v := .bool (decide (((dec [2, 1, 0, 2] 13 4).1) ≠ 3))) rfl rfl) ?_
  refine Wl_v (r_mv (v := .bool (decide (((dec [2, 1, 0, 2] 13 4).1) ≠ 3))) rfl) ?_
  have q13 : ¬ (((dec [2, 1, 0, 2] 13 4).1) ≠ 3) := (by decide +kernel)
  rw [decide_eq_false q13]
  refine Wl_guard_t rfl ?_
  refine Wl_v (r_mv (v := .int .i64 ((dec [2, 1, 0, 2] 13 4).2.1)) rfl) ?_
  refine Wl_guard_t rfl ?_
  refine Wl_v (r_ne rfl rfl) ?_
  refine Wl_v (r_pick_f (v := .bool (decide (((dec [2, 1, 0, 2] 13 4).2.1) ≠ 2))) rfl rfl) ?_
  refine Wl_v (r_mv (v := .bool (decide (((dec [2, 1, 0, 2] 13 4).2.1) ≠ 2))) rfl) ?_
  have q14 : ¬ (((dec [2, 1, 0, 2] 13 4).2.1) ≠ 2) := (by decide +kernel)
  rw [decide_eq_false q14]
  refine Wl_guard_t rfl ?_
  refine Wl_v (r_mv (v := .int .i64 ((dec [2, 1, 0, 2] 13 4).2.2)) rfl) ?_
  refine Wl_guard_t rfl ?_
  refine Wl_call (r_call1 rfl Try.call14 rfl) (num_spec _ ) ?_
  rintro v w31 ⟨rfl, hU31⟩
  have hzw31 := hU31.size
  replace HU := HU.trans0 hU31
  replace hb1 := hb1.upd0 hU31
  replace hs2 := hs2.upd0 hU31
  replace hs3 := hs3.upd0 hU31
  replace hb4 := hb4.upd0 hU31
  replace hO6 := hO6.upd0 hU31
  replace hs11 := hs11.upd0 hU31
  replace hs14 := hs14.upd0 hU31
  replace hs17 := hs17.upd0 hU31
  replace hs20 := hs20.upd0 hU31
  replace hs26 := hs26.upd0 hU31
  replace hO28 := hO28.upd0 hU31
  replace hs29 := hs29.upd0 hU31
  replace hO30 := hO30.upd0 hU31
  refine Wl_guard_t rfl ?_
  refine Wl_v (r_ne rfl rfl) ?_
  refine Wl_v (r_pick_f (v := .bool (decide (((dec [2, 1, 0, 2] 13 4).2.2) ≠ 0))) rfl rfl) ?_
  refine Wl_v (r_mv (v := .bool (decide (((dec [2, 1, 0, 2] 13 4).2.2) ≠ 0))) rfl) ?_
  have q15 : ¬ (((dec [2, 1, 0, 2] 13 4).2.2) ≠ 0) := (by decide +kernel)
  rw [decide_eq_false q15]
  refine Wl_guard_t rfl ?_
  refine Wl_v (r_mv (v := .int .i64 ((dec [2, 1, 0, 2] 1 1).2.2)) rfl) ?_
  refine Wl_guard_t rfl ?_
  refine Wl_call (r_call1 rfl Try.call14 rfl) (num_spec _ ) ?_
  rintro v w32 ⟨rfl, hU32⟩
  have hzw32 := hU32.size
  replace HU := HU.trans0 hU32
  replace hb1 := hb1.upd0 hU32
  replace hs2 := hs2.upd0 hU32
  replace hs3 := hs3.upd0 hU32
  replace hb4 := hb4.upd0 hU32
  replace hO6 := hO6.upd0 hU32
  replace hs11 := hs11.upd0 hU32
  replace hs14 := hs14.upd0 hU32
  replace hs17 := hs17.upd0 hU32
  replace hs20 := hs20.upd0 hU32
  replace hs26 := hs26.upd0 hU32
  replace hO28 := hO28.upd0 hU32
  replace hs29 := hs29.upd0 hU32
  replace hO30 := hO30.upd0 hU32
  refine Wl_guard_t rfl ?_
  refine Wl_v (r_ne rfl rfl) ?_
  refine Wl_v (r_pick_f (v := .bool (decide (((dec [2, 1, 0, 2] 1 1).2.2) ≠ 3))) rfl rfl) ?_
  refine Wl_v (r_mv (v := .bool (decide (((dec [2, 1, 0, 2] 1 1).2.2) ≠ 3))) rfl) ?_
  have q16 : ¬ (((dec [2, 1, 0, 2] 1 1).2.2) ≠ 3) := (by decide +kernel)
  rw [decide_eq_false q16]
  refine Wl_guard_t rfl ?_
  refine Wl_v (r_mv (v := .int .i64 ((dec [1, 1] 2 1).2.2)) rfl) ?_
  refine Wl_guard_t rfl ?_
  refine Wl_call (r_call1 rfl Try.call14 rfl) (num_spec _ ) ?_
  rintro v w33 ⟨rfl, hU33⟩
  have hzw33 := hU33.size
  replace HU := HU.trans0 hU33
  replace hb1 := hb1.upd0 hU33
  replace hs2 := hs2.upd0 hU33
  replace hs3 := hs3.upd0 hU33
  replace hb4 := hb4.upd0 hU33
  replace hO6 := hO6.upd0 hU33
  replace hs11 := hs11.upd0 hU33
  replace hs14 := hs14.upd0 hU33
  replace hs17 := hs17.upd0 hU33
  replace hs20 := hs20.upd0 hU33
  replace hs26 := hs26.upd0 hU33
  replace hO28 := hO28.upd0 hU33
  replace hs29 := hs29.upd0 hU33
  replace hO30 := hO30.upd0 hU33
  refine Wl_guard_t rfl ?_
  refine Wl_v (r_ne rfl rfl) ?_
  refine Wl_v (r_pick_f (v := .bool (decide (((dec [1, 1] 2 1).2.2) ≠ 2))) rfl rfl) ?_
  refine Wl_v (r_mv (v := .bool (decide (((dec [1, 1] 2 1).2.2) ≠ 2))) rfl) ?_
  have q17 : ¬ (((dec [1, 1] 2 1).2.2) ≠ 2) := (by decide +kernel)
  rw [decide_eq_false q17]
  refine Wl_guard_t rfl ?_
  refine Wl_v (r_mv (v := .slice a28 n28 c28) rfl) ?_
  refine Wl_guard_t rfl ?_
  refine Wl_v (r_mv (v := .slice (some ⟨B2, 0, none⟩) 4 4) rfl) ?_
  refine Wl_guard_t rfl ?_
  refine Wl_call (r_call2 rfl Try.call19 rfl rfl) (lints_spec _ hO28.sl hs2.sl (by omega)) ?_
  rintro v w34 ⟨rfl, hU34⟩
  have hzw34 := hU34.size
  replace HU := HU.trans0 hU34
  replace hb1 := hb1.upd0 hU34
  replace hs2 := hs2.upd0 hU34
  replace hs3 := hs3.upd0 hU34
  replace hb4 := hb4.upd0 hU34
  replace hO6 := hO6.upd0 hU34
  replace hs11 := hs11.upd0 hU34
  replace hs14 := hs14.upd0 hU34
  replace hs17 := hs17.upd0 hU34
  replace hs20 := hs20.upd0 hU34
  replace hs26 := hs26.upd0 hU34
  replace hO28 := hO28.upd0 hU34
  replace hs29 := hs29.upd0 hU34
  replace hO30 := hO30.upd0 hU34
  refine Wl_guard_t rfl ?_
  refine Wl_v (r_not rfl) ?_
  refine Wl_v (r_pick_f (v := .bool (!decide (((ofc [(2, 2), (1, 0), (0, 0), (2, 3)]).1) = [2, 1, 0, 2]))) rfl rfl) ?_
  refine Wl_v (r_mv (v := .bool (!decide (((ofc [(2, 2), (1, 0), (0, 0), (2, 3)]).1) = [2, 1, 0, 2]))) rfl) ?_
  have q18 : ((ofc [(2, 2), (1, 0), (0, 0), (2, 3)]).1) = [2, 1, 0, 2] := (by decide +kernel)
  rw [decide_eq_true q18]
  simp only [Bool.not_true, Bool.not_false]
  refine Wl_guard_t rfl ?_
  refine Wl_v (r_mv (v := .int .i64 ((ofc [(2, 2), (1, 0), (0, 0), (2, 3)]).2)) rfl) ?_
  refine Wl_guard_t rfl ?_
  refine Wl_call (r_call1 rfl Try.call14 rfl) (num_spec _ ) ?_
  rintro v w35 ⟨rfl, hU35⟩
  have hzw35 := hU35.size
  replace HU := HU.trans0 hU35
  replace hb1 := hb1.upd0 hU35
  replace hs2 := hs2.upd0 hU35
  replace hs3 := hs3.upd0 hU35
  replace hb4 := hb4.upd0 hU35
  replace hO6 := hO6.upd0 hU35
  replace hs11 := hs11.upd0 hU35
  replace hs14 := hs14.upd0 hU35
  replace hs17 := hs17.upd0 hU35
  replace hs20 := hs20.upd0 hU35
  replace hs26 := hs26.upd0 hU35
  replace hO28 := hO28.upd0 hU35
  replace hs29 := hs29.upd0 hU35
  replace hO30 := hO30.upd0 hU35
  refine Wl_guard_t rfl ?_
  refine Wl_v (r_ne rfl rfl) ?_
  refine Wl_v (r_pick_f (v := .bool (decide (((ofc [(2, 2), (1, 0), (0, 0), (2, 3)]).2) ≠ 0))) rfl rfl) ?_
  refine Wl_v (r_mv (v := .bool (decide (((ofc [(2, 2), (1, 0), (0, 0), (2, 3)]).2) ≠ 0))) rfl) ?_
  have q19 : ¬ (((ofc [(2, 2), (1, 0), (0, 0), (2, 3)]).2) ≠ 0) := (by decide +kernel)
  rw [decide_eq_false q19]
  refine Wl_guard_t rfl ?_
  refine Wl_v (r_mv (v := .int .i64 ((ofc [(1, 1), (1, 0)]).2)) rfl) ?_
  refine Wl_guard_t rfl ?_
  refine Wl_call (r_call1 rfl Try.call14 rfl) (num_spec _ ) ?_
  rintro v w36 ⟨rfl, hU36⟩
  have hzw36 := hU36.size
  replace HU := HU.trans0 hU36
  replace hb1 := hb1.upd0 hU36
  replace hs2 := hs2.upd0 hU36
  replace hs3 := hs3.upd0 hU36
  replace hb4 := hb4.upd0 hU36
  replace hO6 := hO6.upd0 hU36
  replace hs11 := hs11.upd0 hU36
  replace hs14 := hs14.upd0 hU36
  replace hs17 := hs17.upd0 hU36
  replace hs20 := hs20.upd0 hU36
  replace hs26 := hs26.upd0 hU36
  replace hO28 := hO28.upd0 hU36
  replace hs29 := hs29.upd0 hU36
  replace hO30 := hO30.upd0 hU36
  refine Wl_guard_t rfl ?_
  refine Wl_v (r_ne rfl rfl) ?_
  refine Wl_v (r_pick_f (v := .bool (decide (((ofc [(1, 1), (1, 0)]).2) ≠ 12))) rfl rfl) ?_
  refine Wl_v (r_mv (v := .bool (decide (((ofc [(1, 1), (1, 0)]).2) ≠ 12))) rfl) ?_
  have q20 : ¬ (((ofc [(1, 1), (1, 0)]).2) ≠ 12) := (by decide +kernel)
  rw [decide_eq_false q20]
  refine Wl_guard_t rfl ?_
  refine Wl_v (r_build (pl := #[(0, 1), (1, 1)]) (pv := [(0, .int .i64 1), (1, .int .u32 1)]) (cs := #[.int .i64 1, .int .u32 1]) Try.zeroValue37 Try.underlying37 (fun w => by kernel_rfl) (by simp only [List.map_toArray, List.map_cons, List.map_nil] <;> rfl) (by kernel_rfl)) ?_
  refine Wl_guard_t rfl ?_
  refine Wl_v (r_build (pl := #[(0, 1), (1, 1)]) (pv := [(0, .int .i64 2), (1, .int .u32 2)]) (cs := #[.int .i64 2, .int .u32 2]) Try.zeroValue37 Try.underlying37 (fun w => by kernel_rfl) (by simp only [List.map_toArray, List.map_cons, List.map_nil] <;> rfl) (by kernel_rfl)) ?_
  refine Wl_guard_t rfl ?_
  refine Wl_call (r_call2 rfl Try.call28 rfl rfl) (isprefix_spec (a := (1, 1)) (b := (2, 2)) _ (by omega) (by omega)) ?_
  rintro v w37 ⟨rfl, hU37⟩
  have hzw37 := hU37.size
  replace HU := HU.trans0 hU37
  replace hb1 := hb1.upd0 hU37
  replace hs2 := hs2.upd0 hU37
  replace hs3 := hs3.upd0 hU37
  replace hb4 := hb4.upd0 hU37
  replace hO6 := hO6.upd0 hU37
  replace hs11 := hs11.upd0 hU37
  replace hs14 := hs14.upd0 hU37
  replace hs17 := hs17.upd0 hU37
  replace hs20 := hs20.upd0 hU37
  replace hs26 := hs26.upd0 hU37
  replace hO28 := hO28.upd0 hU37
  replace hs29 := hs29.upd0 hU37
  replace hO30 := hO30.upd0 hU37
  refine Wl_guard_t rfl ?_
  refine Wl_v (r_not rfl) ?_
  refine Wl_v (r_pick_f (v := .bool (!decide (Pfx (1, 1) (2, 2)))) rfl rfl) ?_
  refine Wl_nil ?_
  have q21 : Pfx (1, 1) (2, 2) := (by decide +kernel)
  rw [decide_eq_true q21]
  simp only [Bool.not_true, Bool.not_false]
  refine W_cond_f rfl ?_
  refine W_skip ?_
  refine W_seq ?_
  refine W_region ?_
  refine Wl_v (r_mv (v := .slice (some ⟨B2, 0, none⟩) 4 4) rfl) ?_
  refine Wl_call (r_call1 rfl Try.call32 rfl) (all_spec _ hs2.sl (by omega)) ?_
  rintro v w38 ⟨Bo38, Bc38, a38, m38, c38, b38, n38, d38, rfl, hBo38, hBc38, hO38, hC38, hb1_38, hb2_38, hU38⟩
  have hzw38 := hU38.size
  replace HU := HU.trans0 hU38
  replace hb1 := hb1.upd0 hU38
  replace hs2 := hs2.upd0 hU38
  replace hs3 := hs3.upd0 hU38
  replace hb4 := hb4.upd0 hU38
  replace hO6 := hO6.upd0 hU38
  replace hs11 := hs11.upd0 hU38
  replace hs14 := hs14.upd0 hU38
  replace hs17 := hs17.upd0 hU38
  replace hs20 := hs20.upd0 hU38
  replace hs26 := hs26.upd0 hU38
  replace hO28 := hO28.upd0 hU38
  replace hs29 := hs29.upd0 hU38
  replace hO30 := hO30.upd0 hU38
  have hbl_hBo38 := hBo38.lt
  have hbl_hBc38 := hBc38.lt
  replace hO38 := hO38.tight
  have hl_hO38 := ilen hO38.sl
  have hc_hO38 := hO38.sl.cap.1
  replace hC38 := hC38.tight
  have hl_hC38 := rlen encC_len (by decide) hC38.sl
  have hc_hC38 := hC38.sl.cap.1
  replace hO38 := hO38.icong (show ordR [2, 1, 0, 2] = wO by decide +kernel)
  replace hC38 := hC38.rcong (show cdsR [2, 1, 0, 2] = wF by decide +kernel)
  have hlo := ilen hO38.sl
  have hlc := rlen encC_len (by decide) hC38.sl
  simp only [wO, wF, List.length_cons, List.length_nil] at hlo hlc
  refine Wl_v (r_as (v := .func (.func 49) #[] #[.pointer (some ⟨Bo38, 0, none⟩), .pointer (some ⟨Bc38, 0, none⟩)]) rfl) ?_
  refine Wl_nil ?_
  refine W_seq ?_
  refine W_seq ?_
  refine W_region ?_
  refine Wl_v (r_mv (v := .func (.func 49) #[] #[.pointer (some ⟨Bo38, 0, none⟩), .pointer (some ⟨Bc38, 0, none⟩)]) rfl) ?_
  refine Wl_v (r_eqfn_s Try.underlying60 rfl rfl) ?_
  refine Wl_nil ?_
  refine W_cond_f rfl ?_
  refine W_skip ?_
  refine W_seq ?_
  refine W_region ?_
  refine Wl_lit (pv := [(0, .int .i64 1), (1, .int .i64 0), (2, .int .i64 3)]) (cs := [.int .i64 1, .int .i64 0, .int .i64 3]) Try.underlying22 Try.sizeOf3 Try.zeroValue3 (by decide) (by decide) (by simp only [List.map_toArray, List.map_cons, List.map_nil] <;> rfl) (by kernel_rfl) rfl (by decide) ?_
  intro B39 w39 hB39 hU39 hzz39 hs39
  have hzw39 := hU39.size
  replace HU := HU.trans0 hU39
  replace hb1 := hb1.upd0 hU39
  replace hs2 := hs2.upd0 hU39
  replace hs3 := hs3.upd0 hU39
  replace hb4 := hb4.upd0 hU39
  replace hO6 := hO6.upd0 hU39
  replace hs11 := hs11.upd0 hU39
  replace hs14 := hs14.upd0 hU39
  replace hs17 := hs17.upd0 hU39
  replace hs20 := hs20.upd0 hU39
  replace hs26 := hs26.upd0 hU39
  replace hO28 := hO28.upd0 hU39
  replace hs29 := hs29.upd0 hU39
  replace hO30 := hO30.upd0 hU39
  replace hBo38 := hBo38.upd0 hU39
  replace hBc38 := hBc38.upd0 hU39
  replace hO38 := hO38.upd0 hU39
  replace hC38 := hC38.upd0 hU39
  replace hs39 : Own w39 (Is B39) 3 1 (.slice (some ⟨B39, 0, none⟩) 3 3) 3 (ints .i64 [1, 0, 3]) := hs39
  refine Wl_alloc (cs := [.slice none 0 0]) Try.zeroValue22 rfl ?_
  intro B40 w40 hB40 hU40 hzz40 hb40
  have hzw40 := hU40.size
  replace HU := HU.trans0 hU40
  replace hb1 := hb1.upd0 hU40
  replace hs2 := hs2.upd0 hU40
  replace hs3 := hs3.upd0 hU40
  replace hb4 := hb4.upd0 hU40
  replace hO6 := hO6.upd0 hU40
  replace hs11 := hs11.upd0 hU40
  replace hs14 := hs14.upd0 hU40
  replace hs17 := hs17.upd0 hU40
  replace hs20 := hs20.upd0 hU40
  replace hs26 := hs26.upd0 hU40
  replace hO28 := hO28.upd0 hU40
  replace hs29 := hs29.upd0 hU40
  replace hO30 := hO30.upd0 hU40
  replace hBo38 := hBo38.upd0 hU40
  replace hBc38 := hBc38.upd0 hU40
  replace hO38 := hO38.upd0 hU40
  replace hC38 := hC38.upd0 hU40
  replace hs39 := hs39.upd0 hU40
  refine Wl_alloc (cs := [.int .i64 0]) Try.zeroValue3 rfl ?_
  intro B41 w41 hB41 hU41 hzz41 hb41
  have hzw41 := hU41.size
  replace HU := HU.trans0 hU41
  replace hb1 := hb1.upd0 hU41
  replace hs2 := hs2.upd0 hU41
  replace hs3 := hs3.upd0 hU41
  replace hb4 := hb4.upd0 hU41
  replace hO6 := hO6.upd0 hU41
  replace hs11 := hs11.upd0 hU41
  replace hs14 := hs14.upd0 hU41
  replace hs17 := hs17.upd0 hU41
  replace hs20 := hs20.upd0 hU41
  replace hs26 := hs26.upd0 hU41
  replace hO28 := hO28.upd0 hU41
  replace hs29 := hs29.upd0 hU41
  replace hO30 := hO30.upd0 hU41
  replace hBo38 := hBo38.upd0 hU41
  replace hBc38 := hBc38.upd0 hU41
  replace hO38 := hO38.upd0 hU41
  replace hC38 := hC38.upd0 hU41
  replace hs39 := hs39.upd0 hU41
  replace hb40 := hb40.upd0 hU41
  refine Wl_store (v := .slice (some ⟨B39, 0, none⟩) 3 3) (cs' := [.slice (some ⟨B39, 0, none⟩) 3 3]) Try.sizeOf22 rfl rfl rfl rfl hb40 rfl rfl ?_
  intro w42 hU42 hzz42 hb40n
  replace hb40 := hb40n; clear hb40n
  have hzw42 := hU42.size
  replace HU := HU.trans1 hU42 (by show (False) ∨ w.heap.size ≤ B40; omega)
  replace hb1 := hb1.upd1 hU42 (by omega)
  replace hs2 := hs2.upd1 hU42 (by intro h1; have h3 : B40 = B2 := h1; omega)
  replace hs3 := hs3.upd1 hU42 (by intro h1; have h3 : B40 = B3 := h1; omega)
  replace hb4 := hb4.upd1 hU42 (by omega)
  replace hO6 := hO6.upd1 hU42 (by intro h1; have h3 : ((w5.heap.size ≤ B40) ∧ B40 < w6.heap.size) := h1; omega)
  replace hs11 := hs11.upd1 hU42 (by intro h1; have h3 : B40 = B11 := h1; omega)
  replace hs14 := hs14.upd1 hU42 (by intro h1; have h3 : B40 = B14 := h1; omega)
  replace hs17 := hs17.upd1 hU42 (by intro h1; have h3 : B40 = B17 := h1; omega)
  replace hs20 := hs20.upd1 hU42 (by intro h1; have h3 : B40 = B20 := h1; omega)
  replace hs26 := hs26.upd1 hU42 (by intro h1; have h3 : B40 = B26 := h1; omega)
  replace hO28 := hO28.upd1 hU42 (by intro h1; have h3 : ((w27.heap.size ≤ B40) ∧ B40 < w28.heap.size) := h1; omega)
  replace hs29 := hs29.upd1 hU42 (by intro h1; have h3 : B40 = B29 := h1; omega)
  replace hO30 := hO30.upd1 hU42 (by intro h1; have h3 : ((w29.heap.size ≤ B40) ∧ B40 < w30.heap.size) := h1; omega)
  replace hBo38 := hBo38.upd1 hU42 (by omega)
  replace hBc38 := hBc38.upd1 hU42 (by omega)
  replace hO38 := hO38.upd1 hU42 (by intro h1; have h3 : ((w37.heap.size ≤ B40) ∧ B40 < w38.heap.size) := h1; omega)
  replace hC38 := hC38.upd1 hU42 (by intro h1; have h3 : ((w37.heap.size ≤ B40) ∧ B40 < w38.heap.size) := h1; omega)
  replace hs39 := hs39.upd1 hU42 (by intro h1; have h3 : B40 = B39 := h1; omega)
  replace hb41 := hb41.upd1 hU42 (by omega)
  refine Wl_store (v := .int .i64 0) (cs' := [.int .i64 0]) Try.sizeOf3 rfl rfl rfl rfl hb41 rfl rfl ?_
  intro w43 hU43 hzz43 hb41n
  replace hb41 := hb41n; clear hb41n
  have hzw43 := hU43.size
  replace HU := HU.trans1 hU43 (by show (False) ∨ w.heap.size ≤ B41; omega)
  replace hb1 := hb1.upd1 hU43 (by omega)
  replace hs2 := hs2.upd1 hU43 (by intro h1; have h3 : B41 = B2 := h1; omega)
  replace hs3 := hs3.upd1 hU43 (by intro h1; have h3 : B41 = B3 := h1; omega)
  replace hb4 := hb4.upd1 hU43 (by omega)
  replace hO6 := hO6.upd1 hU43 (by intro h1; have h3 : ((w5.heap.size ≤ B41) ∧ B41 < w6.heap.size) := h1; omega)
  replace hs11 := hs11.upd1 hU43 (by intro h1; have h3 : B41 = B11 := h1; omega)
  replace hs14 := hs14.upd1 hU43 (by intro h1; have h3 : B41 = B14 := h1; omega)
  replace hs17 := hs17.upd1 hU43 (by intro h1; have h3 : B41 = B17 := h1; omega)
  replace hs20 := hs20.upd1 hU43 (by intro h1; have h3 : B41 = B20 := h1; omega)
  replace hs26 := hs26.upd1 hU43 (by intro h1; have h3 : B41 = B26 := h1; omega)
  replace hO28 := hO28.upd1 hU43 (by intro h1; have h3 : ((w27.heap.size ≤ B41) ∧ B41 < w28.heap.size) := h1; omega)
  replace hs29 := hs29.upd1 hU43 (by intro h1; have h3 : B41 = B29 := h1; omega)
  replace hO30 := hO30.upd1 hU43 (by intro h1; have h3 : ((w29.heap.size ≤ B41) ∧ B41 < w30.heap.size) := h1; omega)
  replace hBo38 := hBo38.upd1 hU43 (by omega)
  replace hBc38 := hBc38.upd1 hU43 (by omega)
  replace hO38 := hO38.upd1 hU43 (by intro h1; have h3 : ((w37.heap.size ≤ B41) ∧ B41 < w38.heap.size) := h1; omega)
  replace hC38 := hC38.upd1 hU43 (by intro h1; have h3 : ((w37.heap.size ≤ B41) ∧ B41 < w38.heap.size) := h1; omega)
  replace hs39 := hs39.upd1 hU43 (by intro h1; have h3 : B41 = B39 := h1; omega)
  replace hb40 := hb40.upd1 hU43 (by omega)
  refine Wl_nil ?_
  refine W_seq ?_
  refine W_seq ?_
  refine W_region ?_
  refine Wl_v (r_mv (v := .func (.func 49) #[] #[.pointer (some ⟨Bo38, 0, none⟩), .pointer (some ⟨Bc38, 0, none⟩)]) rfl) ?_
  refine Wl_nil ?_
  refine W_block ?_
  refine W_range (gf := 49) (ar := fun y => #[y, .pointer (some ⟨Bo38, 0, none⟩), .pointer (some ⟨Bc38, 0, none⟩)]) rfl Try.call49 (fun y => by simp) ?_
  intro D44 fn44 w44 hD44 hU44 hzz44 hdf44 hrc440
  have hzw44 := hU44.size
  replace HU := HU.trans0 hU44
  replace hb1 := hb1.upd0 hU44
  replace hs2 := hs2.upd0 hU44
  replace hs3 := hs3.upd0 hU44
  replace hb4 := hb4.upd0 hU44
  replace hO6 := hO6.upd0 hU44
  replace hs11 := hs11.upd0 hU44
  replace hs14 := hs14.upd0 hU44
  replace hs17 := hs17.upd0 hU44
  replace hs20 := hs20.upd0 hU44
  replace hs26 := hs26.upd0 hU44
  replace hO28 := hO28.upd0 hU44
  replace hs29 := hs29.upd0 hU44
  replace hO30 := hO30.upd0 hU44
  replace hBo38 := hBo38.upd0 hU44
  replace hBc38 := hBc38.upd0 hU44
  replace hO38 := hO38.upd0 hU44
  replace hC38 := hC38.upd0 hU44
  replace hs39 := hs39.upd0 hU44
  replace hb40 := hb40.upd0 hU44
  replace hb41 := hb41.upd0 hU44
  obtain ⟨r44, hr44, hrc44⟩ : ∃ r, r = _ ∧ Rec w44 (D44 + 1) r := ⟨_, rfl, hrc440⟩
  clear hrc440
  replace hs39 := hs39.icong (show _ = wO from rfl)
  replace hs3 := hs3.rcong (show _ = wF from rfl)
  obtain ⟨J44, hJ44⟩ : ∃ J : Nat → World → Prop, ∀ i w', J i w' ↔ (Rec w' (D44 + 1) r44 ∧ Dfr w' D44 ∧ Blk w' B41 [.int .i64 ((i : Nat) : Int)] ∧ Blk w' B1 [.bool false] ∧ Blk w' B4 [.slice (some ⟨B3, 0, none⟩) 4 4] ∧ Blk w' B40 [.slice (some ⟨B39, 0, none⟩) 3 3] ∧ Own w' (fun g => g = B3) 37 2 (.slice (some ⟨B3, 0, none⟩) 4 4) 4 (rows encC wF) ∧ Own w' (fun g => g = B39) 3 1 (.slice (some ⟨B39, 0, none⟩) 3 3) 3 (ints .i64 wO) ∧ Upd No w w') := ⟨_, fun _ _ => Iff.rfl⟩
  obtain ⟨Jx44, hJx44⟩ : ∃ Jx : World → Prop, ∀ w', Jx w' ↔ (False) := ⟨_, fun _ => Iff.rfl⟩
  refine (all1_spec (ly := (D44 + 1)) (J := J44) (Jx := Jx44) (Sb := (fun g => g = B41 ∨ g = D44 + 1)) (R := fun g => ((w37.heap.size ≤ g) ∧ g < w38.heap.size)) (T := fun g => ((w37.heap.size ≤ g) ∧ g < w38.heap.size)) w44 hBo38 hO38.sl hBc38 hC38.sl (by omega) (by omega) (fun i hi => by have hb3 := wO_bd (i := i) (by omega); omega) (by intro g h1 h2; have h3 : ((w37.heap.size ≤ g) ∧ g < w38.heap.size) := h1; have h4 : g = B41 ∨ g = D44 + 1 := h2; omega) (by show ¬ (_ ∨ _); omega) (by intro g h1 h2; have h3 : ((w37.heap.size ≤ g) ∧ g < w38.heap.size) := h1; have h4 : g = B41 ∨ g = D44 + 1 := h2; omega) ?_ ?_).mono ?_
  · exact (hJ44 _ _).2 ⟨hrc44, hdf44, hb41, hb1, hb4, hb40, hs3, hs39, HU⟩
  · intro i45 w45 hi45 hh
    obtain ⟨hrc44, hdf44, hb41, hb1, hb4, hb40, hs3, hs39, HU⟩ := (hJ44 _ _).1 hh
    have hrl44 := hrc44.lt
    have hb3 := wO_bd (i := i45) (by omega)
    have HB44 : Upd (fun g => g = B41 ∨ g = D44 + 1) w45 w45 := Upd.refl _ _
    refine yieldC_of_W (R := fun b c w' => (b = true ∧ Upd (fun g => g = B41 ∨ g = D44 + 1) w45 w' ∧ J44 (i45 + 1) w') ∨ (b = false ∧ Jx44 w')) hrc44 (by rw [hr44]; rfl) (by rw [hr44]; exact zip2 _ _ _ _ _ _) ?_ ?_
    · rw [hr44]
      refine W_seq ?_
      refine W_region ?_
      refine Wl_v (r_as (v := .int .i64 (wO.getD i45 0)) rfl) ?_
      refine Wl_nil ?_
      refine W_region ?_
      refine Wl_alloc (cs := [.int .i64 0, .int .u32 0]) Try.zeroValue37 rfl ?_
      intro B46 w46 hB46 hU46 hzz46 hb46
      have hzw46 := hU46.size
      replace hrc44 := hrc44.upd0 hU46
      replace hdf44 := hdf44.upd0 hU46
      replace hb41 := hb41.upd0 hU46
      replace hb1 := hb1.upd0 hU46
      replace hb4 := hb4.upd0 hU46
      replace hb40 := hb40.upd0 hU46
      replace hs3 := hs3.upd0 hU46
      replace hs39 := hs39.upd0 hU46
      replace HU := HU.trans0 hU46
      replace HB44 := HB44.trans0 hU46
      refine Wl_storea (off := 0) (vs := [.int .i64 ((wF.getD (wO.getD i45 0).toNat (0, 0)).1), .int .u32 ((wF.getD (wO.getD i45 0).toNat (0, 0)).2)]) (cs' := [.int .i64 ((wF.getD (wO.getD i45 0).toNat (0, 0)).1), .int .u32 ((wF.getD (wO.getD i45 0).toNat (0, 0)).2)]) Try.sizeOf37 rfl rfl rfl (by simp only [List.mem_cons, List.not_mem_nil, or_false, forall_eq_or_imp, forall_eq]; exact ⟨rfl, rfl⟩) hb46 (by simp) rfl ?_
      intro w47 hU47 hzz47 hb46n
      replace hb46 := hb46n; clear hb46n
      have hzw47 := hU47.size
      replace hrc44 := hrc44.upd1 hU47 (by omega)
      replace hdf44 := hdf44.upd1 hU47 (by omega)
      replace hb41 := hb41.upd1 hU47 (by omega)
      replace hb1 := hb1.upd1 hU47 (by omega)
      replace hb4 := hb4.upd1 hU47 (by omega)
      replace hb40 := hb40.upd1 hU47 (by omega)
      replace hs3 := hs3.upd1 hU47 (by intro h1; have h3 : B46 = B3 := h1; omega)
      replace hs39 := hs39.upd1 hU47 (by intro h1; have h3 : B46 = B39 := h1; omega)
      replace HU := HU.trans1 hU47 (by show (False) ∨ w.heap.size ≤ B46; omega)
      replace HB44 := HB44.trans1 hU47 (by show (B46 = B41 ∨ B46 = D44 + 1) ∨ w45.heap.size ≤ B46; omega)
      refine Wl_nil ?_
      refine ⟨rfl, _, hrc44, (by rw [hr44]), ?_⟩
      intro w48 hU48 hzz48 hrc44b
      have hzw48 := hU48.size
      replace hdf44 := hdf44.upd1 hU48 (by omega)
      replace hb41 := hb41.upd1 hU48 (by omega)
      replace hb1 := hb1.upd1 hU48 (by omega)
      replace hb4 := hb4.upd1 hU48 (by omega)
      replace hb40 := hb40.upd1 hU48 (by omega)
      replace hs3 := hs3.upd1 hU48 (by intro h1; have h3 : (D44 + 1) = B3 := h1; omega)
      replace hs39 := hs39.upd1 hU48 (by intro h1; have h3 : (D44 + 1) = B39 := h1; omega)
      replace HU := HU.trans1 hU48 (by show (False) ∨ w.heap.size ≤ (D44 + 1); omega)
      replace HB44 := HB44.trans1 hU48 (by show ((D44 + 1) = B41 ∨ (D44 + 1) = D44 + 1) ∨ w45.heap.size ≤ (D44 + 1); omega)
      replace hb46 := hb46.upd1 hU48 (by omega)
      clear hrc44
      have hrc44 := hrc44b
      clear hrc44b
      refine W_block ?_
      refine W_seq ?_
      refine W_seq ?_
      refine W_drawt rfl (l0 := #[false, false, false, false, false, false, false, false, false, false, false, false, false, false, false, false, false, false]) (by kernel_rfl) ?_
      refine Wt_take (i := 0) (listed' := #[true, false, false, false, false, false, false, false, false, false, false, false, false, false, false, false, false, false]) (by kernel_rfl) rfl (by kernel_rfl) (by kernel_rfl) (by kernel_rfl) (by kernel_rfl) (YI_v (v := .int .i64 ((i45 : Nat) : Int)) rfl (fun w' hw' => r_load Try.isAgg3 rfl (by rw [(hb41.upd0 hw').cell]; rfl))) ?_
      refine Wt_take (i := 1) (listed' := #[true, true, false, false, false, false, false, false, false, false, false, false, false, false, false, false, false, false]) (by kernel_rfl) rfl (by kernel_rfl) (by kernel_rfl) (by kernel_rfl) (by kernel_rfl) (YI_v (v := .bool (decide (3 ≤ ((i45 : Nat) : Int)))) rfl (fun w' hw' => r_ge rfl rfl)) ?_
      refine Wt_take (i := 2) (listed' := #[true, true, true, false, false, false, false, false, false, false, false, false, false, false, false, false, false, false]) (by kernel_rfl) rfl (by kernel_rfl) (by kernel_rfl) (by kernel_rfl) (by kernel_rfl) (YI_v (v := .bool (decide (3 ≤ ((i45 : Nat) : Int)))) rfl (fun w' hw' => r_mv (v := .bool (decide (3 ≤ ((i45 : Nat) : Int)))) rfl)) ?_
      have q22 : ¬ (3 ≤ ((i45 : Nat) : Int)) := (by omega)
      rw [decide_eq_false q22]
      refine Wt_take (i := 3) (listed' := #[true, true, true, true, false, false, false, false, false, false, false, false, false, false, false, false, false, false]) (by kernel_rfl) rfl (by kernel_rfl) (by kernel_rfl) (by kernel_rfl) (by kernel_rfl) (YI_v (v := .int .i64 (wO.getD i45 0)) rfl (fun w' hw' => r_mv (v := .int .i64 (wO.getD i45 0)) rfl)) ?_
      refine Wt_take (i := 4) (listed' := #[true, true, true, true, true, false, false, false, false, false, false, false, false, false, false, false, false, false]) (by kernel_rfl) rfl (by kernel_rfl) (by kernel_rfl) (by kernel_rfl) (by kernel_rfl) (YI_v (v := .slice (some ⟨B39, 0, none⟩) 3 3) rfl (fun w' hw' => r_load Try.isAgg22 rfl (by rw [(hb40.upd0 hw').cell]; rfl))) ?_
      refine Wt_take (i := 5) (listed' := #[true, true, true, true, true, true, false, false, false, false, false, false, false, false, false, false, false, false]) (by kernel_rfl) rfl (by kernel_rfl) (by kernel_rfl) (by kernel_rfl) (by kernel_rfl) (YI_v (v := .int .i64 ((i45 : Nat) : Int)) rfl (fun w' hw' => r_load Try.isAgg3 rfl (by rw [(hb41.upd0 hw').cell]; rfl))) ?_
      obtain ⟨ib49, io49, ha49, hib49, hc49⟩ := (hs39.sl).iat (i := i45) (by omega)
      replace hib49 : ib49 = B39 := hib49
      refine Wt_take (i := 6) (listed' := #[true, true, true, true, true, true, true, false, false, false, false, false, false, false, false, false, false, false]) (by kernel_rfl) rfl (by kernel_rfl) (by kernel_rfl) (by kernel_rfl) (by kernel_rfl) (YI_v (v := .pointer (some ⟨ib49, io49 + i45, none⟩)) rfl (fun w' hw' => r_idx (b := ib49) (off := io49) (m := 3) (c := 3) (o' := io49 + i45) Try.underlying22 Try.sizeOf3 (by rw [← ha49]; rfl) rfl (by omega) (by omega) (by omega))) ?_
      refine Wt_take (i := 7) (listed' := #[true, true, true, true, true, true, true, true, false, false, false, false, false, false, false, false, false, false]) (by kernel_rfl) rfl (by kernel_rfl) (by kernel_rfl) (by kernel_rfl) (by kernel_rfl) (YI_v (v := .int .i64 (wO.getD i45 0)) rfl (fun w' hw' => r_load Try.isAgg3 rfl (hw'.cellk hc49))) ?_
      refine Wt_take (i := 8) (listed' := #[true, true, true, true, true, true, true, true, true, false, false, false, false, false, false, false, false, false]) (by kernel_rfl) rfl (by kernel_rfl) (by kernel_rfl) (by kernel_rfl) (by kernel_rfl) (YI_v (v := .bool (decide ((wO.getD i45 0) ≠ (wO.getD i45 0)))) rfl (fun w' hw' => r_ne rfl rfl)) ?_
      refine Wt_take (i := 9) (listed' := #[true, true, true, true, true, true, true, true, true, true, false, false, false, false, false, false, false, false]) (by kernel_rfl) rfl (by kernel_rfl) (by kernel_rfl) (by kernel_rfl) (by kernel_rfl) (YI_v rfl (fun w' hw' => r_pick_f (v := .bool (decide ((wO.getD i45 0) ≠ (wO.getD i45 0)))) rfl rfl)) ?_
      refine Wt_take (i := 10) (listed' := #[true, true, true, true, true, true, true, true, true, true, true, false, false, false, false, false, false, false]) (by kernel_rfl) rfl (by kernel_rfl) (by kernel_rfl) (by kernel_rfl) (by kernel_rfl) (YI_v (v := .bool (decide ((wO.getD i45 0) ≠ (wO.getD i45 0)))) rfl (fun w' hw' => r_mv (v := .bool (decide ((wO.getD i45 0) ≠ (wO.getD i45 0)))) rfl)) ?_
      have q23 : ¬ ((wO.getD i45 0) ≠ (wO.getD i45 0)) := (fun h => h rfl)
      rw [decide_eq_false q23]
      refine Wt_take (i := 11) (listed' := #[true, true, true, true, true, true, true, true, true, true, true, true, false, false, false, false, false, false]) (by kernel_rfl) rfl (by kernel_rfl) (by kernel_rfl) (by kernel_rfl) (by kernel_rfl) (YI_v (v := .agg #[.int .i64 ((wF.getD (wO.getD i45 0).toNat (0, 0)).1), .int .u32 ((wF.getD (wO.getD i45 0).toNat (0, 0)).2)]) rfl (fun w' hw' => r_loada (b := B46) (off := 0) (cs := [.int .i64 ((wF.getD (wO.getD i45 0).toNat (0, 0)).1), .int .u32 ((wF.getD (wO.getD i45 0).toNat (0, 0)).2)]) Try.isAgg37 Try.sizeOf37 rfl rfl (fun j hj => by rw [(hb46.upd0 hw').cell]; match j, hj with | 0, _ => rfl | 1, _ => rfl))) ?_
      refine Wt_take (i := 12) (listed' := #[true, true, true, true, true, true, true, true, true, true, true, true, true, false, false, false, false, false]) (by kernel_rfl) rfl (by kernel_rfl) (by kernel_rfl) (by kernel_rfl) (by kernel_rfl) (YI_v (v := .slice (some ⟨B3, 0, none⟩) 4 4) rfl (fun w' hw' => r_load Try.isAgg28 rfl (by rw [(hb4.upd0 hw').cell]; rfl))) ?_
      refine Wt_take (i := 13) (listed' := #[true, true, true, true, true, true, true, true, true, true, true, true, true, true, false, false, false, false]) (by kernel_rfl) rfl (by kernel_rfl) (by kernel_rfl) (by kernel_rfl) (by kernel_rfl) (YI_v (v := .int .i64 (wO.getD i45 0)) rfl (fun w' hw' => r_mv (v := .int .i64 (wO.getD i45 0)) rfl)) ?_
      obtain ⟨ib50, io50, ha50, hib50, hc50⟩ := Sl.rat (0, 0) encC_len (by decide) (hs3.sl) (i := (wO.getD i45 0).toNat) (by omega)
      refine Wt_take (i := 14) (listed' := #[true, true, true, true, true, true, true, true, true, true, true, true, true, true, true, false, false, false]) (by kernel_rfl) rfl (by kernel_rfl) (by kernel_rfl) (by kernel_rfl) (by kernel_rfl) (YI_v (v := .pointer (some ⟨ib50, io50 + ((wO.getD i45 0).toNat) * 2, none⟩)) rfl (fun w' hw' => r_idx (b := ib50) (off := io50) (m := 4) (c := 4) (o' := io50 + ((wO.getD i45 0).toNat) * 2) Try.underlying28 Try.sizeOf37 (by rw [← ha50]; rfl) rfl (by omega) (by omega) (by omega))) ?_
      refine Wt_take (i := 15) (listed' := #[true, true, true, true, true, true, true, true, true, true, true, true, true, true, true, true, false, false]) (by kernel_rfl) rfl (by kernel_rfl) (by kernel_rfl) (by kernel_rfl) (by kernel_rfl) (YI_v (v := .agg #[.int .i64 ((wF.getD (wO.getD i45 0).toNat (0, 0)).1), .int .u32 ((wF.getD (wO.getD i45 0).toNat (0, 0)).2)]) rfl (fun w' hw' => r_loada (cs := [.int .i64 ((wF.getD (wO.getD i45 0).toNat (0, 0)).1), .int .u32 ((wF.getD (wO.getD i45 0).toNat (0, 0)).2)]) Try.isAgg37 Try.sizeOf37 rfl rfl (hw'.cellsk rfl hc50))) ?_
      refine Wt_take (i := 16) (listed' := #[true, true, true, true, true, true, true, true, true, true, true, true, true, true, true, true, true, false]) (by kernel_rfl) rfl (by kernel_rfl) (by kernel_rfl) (by kernel_rfl) (by kernel_rfl) (YI_v (v := .bool (!decide (((wF.getD (wO.getD i45 0).toNat (0, 0)).1) = ((wF.getD (wO.getD i45 0).toNat (0, 0)).1) ∧ ((wF.getD (wO.getD i45 0).toNat (0, 0)).2) = ((wF.getD (wO.getD i45 0).toNat (0, 0)).2)))) rfl (fun w' hw' => r_neag (pp := ((wF.getD (wO.getD i45 0).toNat (0, 0)).1) = ((wF.getD (wO.getD i45 0).toNat (0, 0)).1) ∧ ((wF.getD (wO.getD i45 0).toNat (0, 0)).2) = ((wF.getD (wO.getD i45 0).toNat (0, 0)).2)) Try.underlying37 (by kernel_rfl) (by kernel_rfl) rfl rfl (fun w => eqf_int (by decide) Try.underlying3 Try.isAgg3 rfl rfl (fun w => eqf_int (by decide) Try.underlying35 Try.isAgg35 rfl rfl (fun w => eqf_nil))) (by simp [Bool.decide_and]))) ?_
      refine Wt_take (i := 17) (listed' := #[true, true, true, true, true, true, true, true, true, true, true, true, true, true, true, true, true, true]) (by kernel_rfl) rfl (by kernel_rfl) (by kernel_rfl) (by kernel_rfl) (by kernel_rfl) (YI_v rfl (fun w' hw' => r_pick_f (v := .bool (!decide (((wF.getD (wO.getD i45 0).toNat (0, 0)).1) = ((wF.getD (wO.getD i45 0).toNat (0, 0)).1) ∧ ((wF.getD (wO.getD i45 0).toNat (0, 0)).2) = ((wF.getD (wO.getD i45 0).toNat (0, 0)).2)))) rfl rfl)) ?_
      intro w51 hU51
      have hzw51 := hU51.size
      replace hrc44 := hrc44.upd0 hU51
      replace hdf44 := hdf44.upd0 hU51
      replace hb41 := hb41.upd0 hU51
      replace hb1 := hb1.upd0 hU51
      replace hb4 := hb4.upd0 hU51
      replace hb40 := hb40.upd0 hU51
      replace hs3 := hs3.upd0 hU51
      replace hs39 := hs39.upd0 hU51
      replace HU := HU.trans0 hU51
      replace HB44 := HB44.trans0 hU51
      replace hb46 := hb46.upd0 hU51
      replace hc49 := cell_upd0 hU51 hc49
      refine Wa_done (by kernel_rfl) ?_
      have q24 : ((wF.getD (wO.getD i45 0).toNat (0, 0)).1) = ((wF.getD (wO.getD i45 0).toNat (0, 0)).1) ∧ ((wF.getD (wO.getD i45 0).toNat (0, 0)).2) = ((wF.getD (wO.getD i45 0).toNat (0, 0)).2) := ⟨rfl, rfl⟩
      rw [decide_eq_true q24]
      simp only [Bool.not_true, Bool.not_false]
      refine W_cond_f rfl ?_
      refine W_skip ?_
      refine W_region ?_
      refine Wl_load (v := .int .i64 ((i45 : Nat) : Int)) Try.isAgg3 rfl hb41 rfl ?_
      refine Wl_v (r_add rfl rfl (wi64 (by omega) (by omega))) ?_
      refine Wl_store (v := .int .i64 (((i45 : Nat) : Int) + 1)) (cs' := [.int .i64 (((i45 : Nat) : Int) + 1)]) Try.sizeOf3 rfl rfl rfl rfl hb41 rfl rfl ?_
      intro w52 hU52 hzz52 hb41n
      replace hb41 := hb41n; clear hb41n
      have hzw52 := hU52.size
      replace hrc44 := hrc44.upd1 hU52 (by omega)
      replace hdf44 := hdf44.upd1 hU52 (by omega)
      replace hb1 := hb1.upd1 hU52 (by omega)
      replace hb4 := hb4.upd1 hU52 (by omega)
      replace hb40 := hb40.upd1 hU52 (by omega)
      replace hs3 := hs3.upd1 hU52 (by intro h1; have h3 : B41 = B3 := h1; omega)
      replace hs39 := hs39.upd1 hU52 (by intro h1; have h3 : B41 = B39 := h1; omega)
      replace HU := HU.trans1 hU52 (by show (False) ∨ w.heap.size ≤ B41; omega)
      replace HB44 := HB44.trans1 hU52 (by show (B41 = B41 ∨ B41 = D44 + 1) ∨ w45.heap.size ≤ B41; omega)
      replace hb46 := hb46.upd1 hU52 (by omega)
      replace hc49 := cell_upd1 hU52 hc49 (by show ib49 ≠ B41; omega)
      refine Wl_nil ?_
      refine ⟨rfl, _, hrc44, ?_⟩
      intro w53 hU53 hzz53 hrz
      have hzw53 := hU53.size
      replace hdf44 := hdf44.upd1 hU53 (by omega)
      replace hb41 := hb41.upd1 hU53 (by omega)
      replace hb1 := hb1.upd1 hU53 (by omega)
      replace hb4 := hb4.upd1 hU53 (by omega)
      replace hb40 := hb40.upd1 hU53 (by omega)
      replace hs3 := hs3.upd1 hU53 (by intro h1; have h3 : (D44 + 1) = B3 := h1; omega)
      replace hs39 := hs39.upd1 hU53 (by intro h1; have h3 : (D44 + 1) = B39 := h1; omega)
      replace HU := HU.trans1 hU53 (by show (False) ∨ w.heap.size ≤ (D44 + 1); omega)
      replace HB44 := HB44.trans1 hU53 (by show ((D44 + 1) = B41 ∨ (D44 + 1) = D44 + 1) ∨ w45.heap.size ≤ (D44 + 1); omega)
      replace hb46 := hb46.upd1 hU53 (by omega)
      replace hc49 := cell_upd1 hU53 hc49 (by show ib49 ≠ (D44 + 1); omega)
      exact Or.inl ⟨rfl, HB44, (hJ44 _ _).2 ⟨(by rw [hr44]; rw [hr44] at hrz; exact hrz), hdf44, hb41, hb1, hb4, hb40, hs3, hs39, HU⟩⟩
    · rintro b c w9 (⟨rfl, h1, h2⟩ | ⟨rfl, h1⟩)
      · exact Or.inl ⟨rfl, h1, h2⟩
      · exact Or.inr ⟨rfl, h1⟩
  rintro e w54 ⟨v, rfl, hh | hh⟩
  · obtain ⟨hrc44, hdf44, hb41, hb1, hb4, hb40, hs3, hs39, HU⟩ := (hJ44 _ _).1 hh
    have hrl44 := hrc44.lt
    refine ⟨r44, hrc44, (by rw [hr44]; simp), ?_⟩
    intro w55 hU55 hzz55
    have hzw55 := hU55.size
    replace hdf44 := hdf44.upd1 hU55 (by omega)
    replace hb41 := hb41.upd1 hU55 (by omega)
    replace hb1 := hb1.upd1 hU55 (by omega)
    replace hb4 := hb4.upd1 hU55 (by omega)
    replace hb40 := hb40.upd1 hU55 (by omega)
    replace hs3 := hs3.upd1 hU55 (by intro h1; have h3 : (D44 + 1) = B3 := h1; omega)
    replace hs39 := hs39.upd1 hU55 (by intro h1; have h3 : (D44 + 1) = B39 := h1; omega)
    replace HU := HU.trans1 hU55 (by show (False) ∨ w.heap.size ≤ (D44 + 1); omega)
    rw [hr44]
    skip
    refine W_seq ?_
    refine W_region ?_
    refine Wl_load (v := .int .i64 ((m38 : Nat) : Int)) Try.isAgg3 rfl hb41 rfl ?_
    refine Wl_v (r_eq rfl rfl) ?_
    refine Wl_store (v := .bool (decide (((m38 : Nat) : Int) = 3))) (cs' := [.bool (decide (((m38 : Nat) : Int) = 3))]) Try.sizeOf4 rfl rfl rfl rfl hb1 rfl rfl ?_
    intro w56 hU56 hzz56 hb1n
    replace hb1 := hb1n; clear hb1n
    have hzw56 := hU56.size
    replace hdf44 := hdf44.upd1 hU56 (by omega)
    replace hb41 := hb41.upd1 hU56 (by omega)
    replace hb4 := hb4.upd1 hU56 (by omega)
    replace hb40 := hb40.upd1 hU56 (by omega)
    replace hs3 := hs3.upd1 hU56 (by intro h1; have h3 : B1 = B3 := h1; omega)
    replace hs39 := hs39.upd1 hU56 (by intro h1; have h3 : B1 = B39 := h1; omega)
    replace HU := HU.trans1 hU56 (by show (False) ∨ w.heap.size ≤ B1; omega)
    refine Wl_nil ?_
    refine W_ret ?_
    refine ret_ds rfl ?_
    refine lv_mark (by simp) hdf44 ?_
    intro w57 hU57 hzz57
    have hzw57 := hU57.size
    replace hb41 := hb41.upd1 hU57 (by omega)
    replace hb1 := hb1.upd1 hU57 (by omega)
    replace hb4 := hb4.upd1 hU57 (by omega)
    replace hb40 := hb40.upd1 hU57 (by omega)
    replace hs3 := hs3.upd1 hU57 (by intro h1; have h3 : D44 = B3 := h1; omega)
    replace hs39 := hs39.upd1 hU57 (by intro h1; have h3 : D44 = B39 := h1; omega)
    replace HU := HU.trans1 hU57 (by show (False) ∨ w.heap.size ≤ D44; omega)
    refine lv_nil (v := .bool (decide (((m38 : Nat) : Int) = 3))) (rc1 Try.results12 rfl (cellIs Try.isAgg4 hb1)) ?_
    exact ⟨_, rfl, (by rw [decide_eq_true (show ((m38 : Nat) : Int) = 3 from (by omega))]), HU⟩
  · exact ((hJx44 _).1 hh).elim

end Go.Proofs.Ytakbopikohghmaa
