/-
  Walks, printed by a small program of this project (gen.py).
-/
import Derived.Test.YtigojafhogjnfaaWi
import Derived.Test.YtigojafhogjnfaaPf
import Derived.Test.YtigojafhogjnfaaLw
set_option linter.unusedVariables false
namespace Go.Proofs.Ytigojafhogjnfaa
open Go.Fw

set_option maxRecDepth 100000 in
theorem numputs {a : Option Addr} {n c : Nat} {bs : List Int} {wv nv : Int} (w : World) (hb : Sl w (fun g => g < w.heap.size) 1 (.slice a n c) n (ints .u8 bs)) (bb : Byt bs) (nb : n ≤ 140737488351232) (rwv : 0 ≤ wv ∧ wv < 4294967296) (rnv : 0 ≤ nv ∧ nv < 18446744073709551616) :
    Calls Try.prog 3 #[.slice a n c, .int .u32 wv, .int .u64 nv] w (Ret fun v w' => v = .bool true ∧ Upd No w w') := by
  have HU : Upd (fun b => False) w w := Upd.refl _ _
  have hl_hb := ilen hb
  have hc_hb := hb.cap.1
  have hvl := vi_len nv
  refine calls_of_W Try.func3 rfl Try.ntmps3 (by simp) ?_
  refine W_seq ?_
  refine W_region ?_
  refine Wl_v (r_as (v := .bool false) rfl) ?_
  refine Wl_nil ?_
  refine W_seq ?_
  refine W_seq ?_
  refine W_region ?_
  refine Wl_v (r_mv (v := .slice a n c) rfl) ?_
  refine Wl_call (r_call1 rfl Try.call15 rfl) (own_spec _ hb.any (by omega)) ?_
  rintro v w1 ⟨a1, c1, rfl, hO1, hU1⟩
  have hzw1 := hU1.size
  replace hb := hb.upd0 hU1
  replace HU := HU.trans0 hU1
  replace hO1 := hO1.tight
  have hl_hO1 := ilen hO1.sl
  have hc_hO1 := hO1.sl.cap.1
  refine Wl_v (r_mv (v := .int .u32 wv) rfl) ?_
  refine Wl_call (r_call2 rfl Try.call14 rfl rfl) (putword_spec _ hO1.sl.any (by omega) (by omega) (by omega)) ?_
  rintro v w2 ⟨a2, c2, rfl, hO2, hU2⟩
  have hzw2 := hU2.size
  replace hb := hb.upd0 hU2
  replace HU := HU.trans0 hU2
  replace hO1 := hO1.upd0 hU2
  replace hO2 := hO2.tight
  have hl_hO2 := ilen hO2.sl
  have hc_hO2 := hO2.sl.cap.1
  refine Wl_v (r_mv (v := .slice a n c) rfl) ?_
  refine Wl_call (r_call1 rfl Try.call15 rfl) (own_spec _ hb.any (by omega)) ?_
  rintro v w3 ⟨a3, c3, rfl, hO3, hU3⟩
  have hzw3 := hU3.size
  replace hb := hb.upd0 hU3
  replace HU := HU.trans0 hU3
  replace hO1 := hO1.upd0 hU3
  replace hO2 := hO2.upd0 hU3
  replace hO3 := hO3.tight
  have hl_hO3 := ilen hO3.sl
  have hc_hO3 := hO3.sl.cap.1
  refine Wl_v (r_mv (v := .int .u32 wv) rfl) ?_
  refine Wl_call (r_call1 rfl Try.call16 rfl) (word_spec _ (by omega) (by omega)) ?_
  rintro v w4 ⟨a4, c4, rfl, hO4, hU4⟩
  have hzw4 := hU4.size
  replace hb := hb.upd0 hU4
  replace HU := HU.trans0 hU4
  replace hO1 := hO1.upd0 hU4
  replace hO2 := hO2.upd0 hU4
  replace hO3 := hO3.upd0 hU4
  replace hO4 := hO4.tight
  have hl_hO4 := ilen hO4.sl
  have hc_hO4 := hO4.sl.cap.1
  refine Wl_appendi (xs := bs) (ys := word wv) (zs := bs ++ (word wv)) (k' := .u8) (tot := n + 4) (by first | rfl | simp) Try.underlying22 (ti := Try.t5) (z := .int .u8 0) (sz := 1) (by' := 1) rfl rfl rfl rfl rfl (by decide) rfl hO3 rfl hO4.sl  (by omega) (by simp only [maxLen]; omega) (by omega) ?_
  intro a5 c5 w5 hU5 hzz5 hO5
  clear hO3
  have hzw5 := hU5.size
  replace hb := hb.upd hU5 (by intro x h1 h2; have h3 : x < w.heap.size := h1; have h4 : ((w2.heap.size ≤ x) ∧ x < w3.heap.size) := h2; omega)
  replace HU := HU.trans hU5 (by intro x hx; have hx2 : ((w2.heap.size ≤ x) ∧ x < w3.heap.size) := hx; show (False) ∨ w.heap.size ≤ x; omega)
  replace hO1 := hO1.upd hU5 (by intro x h1 h2; have h3 : ((w.heap.size ≤ x) ∧ x < w1.heap.size) := h1; have h4 : ((w2.heap.size ≤ x) ∧ x < w3.heap.size) := h2; omega)
  replace hO2 := hO2.upd hU5 (by intro x h1 h2; have h3 : ((w1.heap.size ≤ x) ∧ x < w2.heap.size) := h1; have h4 : ((w2.heap.size ≤ x) ∧ x < w3.heap.size) := h2; omega)
  replace hO4 := hO4.upd hU5 (by intro x h1 h2; have h3 : ((w3.heap.size ≤ x) ∧ x < w4.heap.size) := h1; have h4 : ((w2.heap.size ≤ x) ∧ x < w3.heap.size) := h2; omega)
  replace hO5 := hO5.tight
  have hl_hO5 := ilen hO5.sl
  have hc_hO5 := hO5.sl.cap.1
  refine Wl_call (r_call2 rfl Try.call13 rfl rfl) (same_spec _ hO2.sl.any hO5.sl.any (byt_app bb (word_byt (by omega) (by omega))) (byt_app bb (word_byt (by omega) (by omega)))) ?_
  rintro v w6 ⟨rfl, hU6⟩
  have hzw6 := hU6.size
  replace hb := hb.upd0 hU6
  replace HU := HU.trans0 hU6
  replace hO1 := hO1.upd0 hU6
  replace hO2 := hO2.upd0 hU6
  replace hO4 := hO4.upd0 hU6
  replace hO5 := hO5.upd0 hU6
  refine Wl_v (r_not rfl) ?_
  refine Wl_nil ?_
  have q1 : (bs ++ word wv) = (bs ++ (word wv)) := rfl
  rw [decide_eq_true q1]
  simp only [Bool.not_true, Bool.not_false]
  refine W_cond_f rfl ?_
  refine W_skip ?_
  refine W_seq ?_
  refine W_region ?_
  refine Wl_v (r_mv (v := .slice a n c) rfl) ?_
  refine Wl_call (r_call1 rfl Try.call15 rfl) (own_spec _ hb.any (by omega)) ?_
  rintro v w7 ⟨a7, c7, rfl, hO7, hU7⟩
  have hzw7 := hU7.size
  replace hb := hb.upd0 hU7
  replace HU := HU.trans0 hU7
  replace hO1 := hO1.upd0 hU7
  replace hO2 := hO2.upd0 hU7
  replace hO4 := hO4.upd0 hU7
  replace hO5 := hO5.upd0 hU7
  replace hO7 := hO7.tight
  have hl_hO7 := ilen hO7.sl
  have hc_hO7 := hO7.sl.cap.1
  refine Wl_v (r_mv (v := .int .u64 nv) rfl) ?_
  by_cases q2 : 4611686018427387903 < nv
  · refine Wl_call (r_call2 rfl Try.call17 rfl rfl) (putvarint_no _ (by omega)) ?_
    rintro v w8 ⟨rfl, hU8⟩
    have hzw8 := hU8.size
    replace hb := hb.upd0 hU8
    replace HU := HU.trans0 hU8
    replace hO1 := hO1.upd0 hU8
    replace hO2 := hO2.upd0 hU8
    replace hO4 := hO4.upd0 hU8
    replace hO5 := hO5.upd0 hU8
    replace hO7 := hO7.upd0 hU8
    refine Wl_v (r_mv (v := .tuple #[.slice none 0 0, .int .i64 2]) rfl) ?_
    refine Wl_v (r_ext (v := .slice none 0 0) rfl rfl) ?_
    refine Wl_v (r_ext (v := .int .i64 2) rfl rfl) ?_
    refine Wl_v (r_as (v := .slice none 0 0) rfl) ?_
    refine Wl_v (r_as (v := .int .i64 2) rfl) ?_
    refine Wl_nil ?_
    refine W_seq ?_
    refine W_seq ?_
    refine W_region ?_
    refine Wl_v (r_mv (v := .int .u64 nv) rfl) ?_
    refine Wl_v (r_gt rfl rfl) ?_
    refine Wl_nil ?_
    have q3 : 4611686018427387903 < nv := q2
    rw [decide_eq_true q3]
    refine W_cond_t rfl ?_
    refine W_seq ?_
    refine W_region ?_
    refine Wl_v (r_mv (v := .int .i64 2) rfl) ?_
    refine Wl_v (v := .bool true) (r_eq (a := 2) (b := 2) rfl rfl) ?_
    refine Wl_v (r_mv (v := .bool true) rfl) ?_
    refine Wl_guard_t rfl ?_
    refine Wl_v (r_mv (v := .slice none 0 0) rfl) ?_
    refine Wl_guard_t rfl ?_
    refine Wl_v (r_len Try.underlying22 rfl) ?_
    refine Wl_guard_t rfl ?_
    refine Wl_v (v := .bool true) (r_eq (a := 0) (b := 0) rfl rfl) ?_
    refine Wl_v (r_pick_t (v := .bool true) rfl rfl) ?_
    refine Wl_v (r_mv (v := .bool true) rfl) ?_
    refine Wl_guard_t rfl ?_
    refine Wl_v (r_mv (v := .int .u64 nv) rfl) ?_
    refine Wl_guard_t rfl ?_
    have q4 : 4611686018427387903 < nv := q3
    refine Wl_call (r_call1 rfl Try.call18 rfl) (size_no _ (by omega)) ?_
    rintro v w9 ⟨rfl, hU9⟩
    have hzw9 := hU9.size
    replace hb := hb.upd0 hU9
    replace HU := HU.trans0 hU9
    replace hO1 := hO1.upd0 hU9
    replace hO2 := hO2.upd0 hU9
    replace hO4 := hO4.upd0 hU9
    replace hO5 := hO5.upd0 hU9
    replace hO7 := hO7.upd0 hU9
    refine Wl_guard_t rfl ?_
    refine Wl_v (v := .bool true) (r_eq (a := 0) (b := 0) rfl rfl) ?_
    refine Wl_v (r_pick_t (v := .bool true) rfl rfl) ?_
    refine Wl_v (r_mv (v := .bool true) rfl) ?_
    refine Wl_guard_t rfl ?_
    refine Wl_call (r_call0 rfl Try.call19 ) (known_spec _ ) ?_
    rintro v w10 ⟨rfl, hU10⟩
    have hzw10 := hU10.size
    replace hb := hb.upd0 hU10
    replace HU := HU.trans0 hU10
    replace hO1 := hO1.upd0 hU10
    replace hO2 := hO2.upd0 hU10
    replace hO4 := hO4.upd0 hU10
    replace hO5 := hO5.upd0 hU10
    replace hO7 := hO7.upd0 hU10
    refine Wl_v (r_pick_t (v := .bool true) rfl rfl) ?_
    refine Wl_v (r_as (v := .bool true) rfl) ?_
    refine Wl_nil ?_
    refine W_ret ?_
    refine ret_end (v := .bool true) rfl (res1 Try.results3 rfl) ?_
    exact ⟨_, rfl, rfl, HU⟩
  · refine Wl_call (r_call2 rfl Try.call17 rfl rfl) (putvarint_spec _ hO7.sl.any (by omega) (by omega) (by omega)) ?_
    rintro v w11 ⟨a11, c11, rfl, hO11, hU11⟩
    have hzw11 := hU11.size
    replace hb := hb.upd0 hU11
    replace HU := HU.trans0 hU11
    replace hO1 := hO1.upd0 hU11
    replace hO2 := hO2.upd0 hU11
    replace hO4 := hO4.upd0 hU11
    replace hO5 := hO5.upd0 hU11
    replace hO7 := hO7.upd0 hU11
    replace hO11 := hO11.tight
    have hl_hO11 := ilen hO11.sl
    have hc_hO11 := hO11.sl.cap.1
    refine Wl_v (r_mv (v := .tuple #[.slice a11 (n + (vi nv).length) c11, .int .i64 0]) rfl) ?_
    refine Wl_v (r_ext (v := .slice a11 (n + (vi nv).length) c11) rfl rfl) ?_
    refine Wl_v (r_ext (v := .int .i64 0) rfl rfl) ?_
    refine Wl_v (r_as (v := .slice a11 (n + (vi nv).length) c11) rfl) ?_
    refine Wl_v (r_as (v := .int .i64 0) rfl) ?_
    refine Wl_nil ?_
    refine W_seq ?_
    refine W_seq ?_
    refine W_region ?_
    refine Wl_v (r_mv (v := .int .u64 nv) rfl) ?_
    refine Wl_v (r_gt rfl rfl) ?_
    refine Wl_nil ?_
    have q5 : ¬ (4611686018427387903 < nv) := q2
    rw [decide_eq_false q5]
    refine W_cond_f rfl ?_
    refine W_skip ?_
    refine W_seq ?_
    refine W_region ?_
    refine Wl_v (r_mv (v := .int .i64 0) rfl) ?_
    refine Wl_v (v := .bool true) (r_eq (a := 0) (b := 0) rfl rfl) ?_
    refine Wl_v (r_mv (v := .bool true) rfl) ?_
    refine Wl_guard_t rfl ?_
    refine Wl_v (r_mv (v := .slice a11 (n + (vi nv).length) c11) rfl) ?_
    refine Wl_guard_t rfl ?_
    refine Wl_v (r_mv (v := .slice a n c) rfl) ?_
    refine Wl_guard_t rfl ?_
    refine Wl_call (r_call1 rfl Try.call15 rfl) (own_spec _ hb.any (by omega)) ?_
    rintro v w12 ⟨a12, c12, rfl, hO12, hU12⟩
    have hzw12 := hU12.size
    replace hb := hb.upd0 hU12
    replace HU := HU.trans0 hU12
    replace hO1 := hO1.upd0 hU12
    replace hO2 := hO2.upd0 hU12
    replace hO4 := hO4.upd0 hU12
    replace hO5 := hO5.upd0 hU12
    replace hO7 := hO7.upd0 hU12
    replace hO11 := hO11.upd0 hU12
    replace hO12 := hO12.tight
    have hl_hO12 := ilen hO12.sl
    have hc_hO12 := hO12.sl.cap.1
    refine Wl_guard_t rfl ?_
    refine Wl_v (r_mv (v := .int .u64 nv) rfl) ?_
    refine Wl_guard_t rfl ?_
    refine Wl_call (r_call1 rfl Try.call20 rfl) (rvarint_spec _ (by omega) (by omega)) ?_
    rintro v w13 ⟨a13, c13, rfl, hO13, hU13⟩
    have hzw13 := hU13.size
    replace hb := hb.upd0 hU13
    replace HU := HU.trans0 hU13
    replace hO1 := hO1.upd0 hU13
    replace hO2 := hO2.upd0 hU13
    replace hO4 := hO4.upd0 hU13
    replace hO5 := hO5.upd0 hU13
    replace hO7 := hO7.upd0 hU13
    replace hO11 := hO11.upd0 hU13
    replace hO12 := hO12.upd0 hU13
    replace hO13 := hO13.tight
    have hl_hO13 := ilen hO13.sl
    have hc_hO13 := hO13.sl.cap.1
    refine Wl_guard_t rfl ?_
    refine Wl_appendi (xs := bs) (ys := vi nv) (zs := bs ++ (vi nv)) (k' := .u8) (tot := n + ((vi nv).length)) (by first | rfl | simp) Try.underlying22 (ti := Try.t5) (z := .int .u8 0) (sz := 1) (by' := 1) rfl rfl rfl rfl rfl (by decide) rfl hO12 rfl hO13.sl  (by omega) (by simp only [maxLen]; omega) (by omega) ?_
    intro a14 c14 w14 hU14 hzz14 hO14
    clear hO12
    have hzw14 := hU14.size
    replace hb := hb.upd hU14 (by intro x h1 h2; have h3 : x < w.heap.size := h1; have h4 : ((w11.heap.size ≤ x) ∧ x < w12.heap.size) := h2; omega)
    replace HU := HU.trans hU14 (by intro x hx; have hx2 : ((w11.heap.size ≤ x) ∧ x < w12.heap.size) := hx; show (False) ∨ w.heap.size ≤ x; omega)
    replace hO1 := hO1.upd hU14 (by intro x h1 h2; have h3 : ((w.heap.size ≤ x) ∧ x < w1.heap.size) := h1; have h4 : ((w11.heap.size ≤ x) ∧ x < w12.heap.size) := h2; omega)
    replace hO2 := hO2.upd hU14 (by intro x h1 h2; have h3 : ((w1.heap.size ≤ x) ∧ x < w2.heap.size) := h1; have h4 : ((w11.heap.size ≤ x) ∧ x < w12.heap.size) := h2; omega)
    replace hO4 := hO4.upd hU14 (by intro x h1 h2; have h3 : ((w3.heap.size ≤ x) ∧ x < w4.heap.size) := h1; have h4 : ((w11.heap.size ≤ x) ∧ x < w12.heap.size) := h2; omega)
    replace hO5 := hO5.upd hU14 (by intro x h1 h2; have h3 : ((((((w2.heap.size ≤ x) ∧ x < w3.heap.size)) ∨ x = w4.heap.size)) ∧ x < w5.heap.size) := h1; have h4 : ((w11.heap.size ≤ x) ∧ x < w12.heap.size) := h2; omega)
    replace hO7 := hO7.upd hU14 (by intro x h1 h2; have h3 : ((w6.heap.size ≤ x) ∧ x < w7.heap.size) := h1; have h4 : ((w11.heap.size ≤ x) ∧ x < w12.heap.size) := h2; omega)
    replace hO11 := hO11.upd hU14 (by intro x h1 h2; have h3 : ((w7.heap.size ≤ x) ∧ x < w11.heap.size) := h1; have h4 : ((w11.heap.size ≤ x) ∧ x < w12.heap.size) := h2; omega)
    replace hO13 := hO13.upd hU14 (by intro x h1 h2; have h3 : ((w12.heap.size ≤ x) ∧ x < w13.heap.size) := h1; have h4 : ((w11.heap.size ≤ x) ∧ x < w12.heap.size) := h2; omega)
    replace hO14 := hO14.tight
    have hl_hO14 := ilen hO14.sl
    have hc_hO14 := hO14.sl.cap.1
    refine Wl_guard_t rfl ?_
    refine Wl_call (r_call2 rfl Try.call13 rfl rfl) (same_spec _ hO11.sl.any hO14.sl.any (byt_app bb (vi_byt (by omega))) (byt_app bb (vi_byt (by omega)))) ?_
    rintro v w15 ⟨rfl, hU15⟩
    have hzw15 := hU15.size
    replace hb := hb.upd0 hU15
    replace HU := HU.trans0 hU15
    replace hO1 := hO1.upd0 hU15
    replace hO2 := hO2.upd0 hU15
    replace hO4 := hO4.upd0 hU15
    replace hO5 := hO5.upd0 hU15
    replace hO7 := hO7.upd0 hU15
    replace hO11 := hO11.upd0 hU15
    replace hO13 := hO13.upd0 hU15
    replace hO14 := hO14.upd0 hU15
    refine Wl_v (r_pick_t (v := .bool (decide ((bs ++ vi nv) = (bs ++ (vi nv))))) rfl rfl) ?_
    refine Wl_v (r_mv (v := .bool (decide ((bs ++ vi nv) = (bs ++ (vi nv))))) rfl) ?_
    have q6 : (bs ++ vi nv) = (bs ++ (vi nv)) := rfl
    rw [decide_eq_true q6]
    refine Wl_guard_t rfl ?_
    refine Wl_v (r_mv (v := .int .u64 nv) rfl) ?_
    refine Wl_guard_t rfl ?_
    have q7 : ¬ (4611686018427387903 < nv) := q5
    refine Wl_call (r_call1 rfl Try.call18 rfl) (size_spec _ (by omega) (by omega)) ?_
    rintro v w16 ⟨rfl, hU16⟩
    have hzw16 := hU16.size
    replace hb := hb.upd0 hU16
    replace HU := HU.trans0 hU16
    replace hO1 := hO1.upd0 hU16
    replace hO2 := hO2.upd0 hU16
    replace hO4 := hO4.upd0 hU16
    replace hO5 := hO5.upd0 hU16
    replace hO7 := hO7.upd0 hU16
    replace hO11 := hO11.upd0 hU16
    replace hO13 := hO13.upd0 hU16
    replace hO14 := hO14.upd0 hU16
    refine Wl_guard_t rfl ?_
    refine Wl_v (r_mv (v := .int .u64 nv) rfl) ?_
    refine Wl_guard_t rfl ?_
    refine Wl_call (r_call1 rfl Try.call20 rfl) (rvarint_spec _ (by omega) (by omega)) ?_
    rintro v w17 ⟨a17, c17, rfl, hO17, hU17⟩
    have hzw17 := hU17.size
    replace hb := hb.upd0 hU17
    replace HU := HU.trans0 hU17
    replace hO1 := hO1.upd0 hU17
    replace hO2 := hO2.upd0 hU17
    replace hO4 := hO4.upd0 hU17
    replace hO5 := hO5.upd0 hU17
    replace hO7 := hO7.upd0 hU17
    replace hO11 := hO11.upd0 hU17
    replace hO13 := hO13.upd0 hU17
    replace hO14 := hO14.upd0 hU17
    replace hO17 := hO17.tight
    have hl_hO17 := ilen hO17.sl
    have hc_hO17 := hO17.sl.cap.1
    refine Wl_guard_t rfl ?_
    refine Wl_v (r_len Try.underlying22 rfl) ?_
    refine Wl_guard_t rfl ?_
    refine Wl_v (r_eq rfl rfl) ?_
    refine Wl_v (r_pick_t (v := .bool (decide ((((vi nv).length : Nat) : Int) = (((vi nv).length : Nat) : Int)))) rfl rfl) ?_
    refine Wl_v (r_mv (v := .bool (decide ((((vi nv).length : Nat) : Int) = (((vi nv).length : Nat) : Int)))) rfl) ?_
    have q8 : (((vi nv).length : Nat) : Int) = (((vi nv).length : Nat) : Int) := rfl
    rw [decide_eq_true q8]
    refine Wl_guard_t rfl ?_
    refine Wl_call (r_call0 rfl Try.call19 ) (known_spec _ ) ?_
    rintro v w18 ⟨rfl, hU18⟩
    have hzw18 := hU18.size
    replace hb := hb.upd0 hU18
    replace HU := HU.trans0 hU18
    replace hO1 := hO1.upd0 hU18
    replace hO2 := hO2.upd0 hU18
    replace hO4 := hO4.upd0 hU18
    replace hO5 := hO5.upd0 hU18
    replace hO7 := hO7.upd0 hU18
    replace hO11 := hO11.upd0 hU18
    replace hO13 := hO13.upd0 hU18
    replace hO14 := hO14.upd0 hU18
    replace hO17 := hO17.upd0 hU18
    refine Wl_v (r_pick_t (v := .bool true) rfl rfl) ?_
    refine Wl_v (r_as (v := .bool true) rfl) ?_
    refine Wl_nil ?_
    refine W_ret ?_
    refine ret_end (v := .bool true) rfl (res1 Try.results3 rfl) ?_
    exact ⟨_, rfl, rfl, HU⟩

set_option maxRecDepth 100000 in
theorem numapart {av bv : Int} (w : World) (rav : 0 ≤ av ∧ av < 18446744073709551616) (rbv : 0 ≤ bv ∧ bv < 18446744073709551616) :
    Calls Try.prog 4 #[.int .u64 av, .int .u64 bv] w (Ret fun v w' => v = .bool true ∧ Upd No w w') := by
  have HU : Upd (fun b => False) w w := Upd.refl _ _
  refine calls_of_W Try.func4 rfl Try.ntmps4 (by simp) ?_
  refine W_seq ?_
  refine W_region ?_
  refine Wl_v (r_as (v := .bool false) rfl) ?_
  refine Wl_nil ?_
  refine W_seq ?_
  refine W_region ?_
  refine Wl_v (r_mv (v := .int .u64 av) rfl) ?_
  by_cases q1 : 4611686018427387903 < av
  · refine Wl_call (r_call2 rfl Try.call17 rfl rfl) (putvarint_no _ (by omega)) ?_
    rintro v w1 ⟨rfl, hU1⟩
    have hzw1 := hU1.size
    replace HU := HU.trans0 hU1
    refine Wl_v (r_mv (v := .tuple #[.slice none 0 0, .int .i64 2]) rfl) ?_
    refine Wl_v (r_ext (v := .slice none 0 0) rfl rfl) ?_
    refine Wl_v (r_ext (v := .int .i64 2) rfl rfl) ?_
    refine Wl_v (r_as (v := .slice none 0 0) rfl) ?_
    refine Wl_v (r_as (v := .int .i64 2) rfl) ?_
    refine Wl_nil ?_
    refine W_seq ?_
    refine W_region ?_
    refine Wl_v (r_mv (v := .int .u64 bv) rfl) ?_
    by_cases q2 : 4611686018427387903 < bv
    · refine Wl_call (r_call2 rfl Try.call17 rfl rfl) (putvarint_no _ (by omega)) ?_
      rintro v w2 ⟨rfl, hU2⟩
      have hzw2 := hU2.size
      replace HU := HU.trans0 hU2
      refine Wl_v (r_mv (v := .tuple #[.slice none 0 0, .int .i64 2]) rfl) ?_
      refine Wl_v (r_ext (v := .slice none 0 0) rfl rfl) ?_
      refine Wl_v (r_ext (v := .int .i64 2) rfl rfl) ?_
      refine Wl_v (r_as (v := .slice none 0 0) rfl) ?_
      refine Wl_v (r_as (v := .int .i64 2) rfl) ?_
      refine Wl_nil ?_
      refine W_seq ?_
      refine W_seq ?_
      refine W_region ?_
      refine Wl_v (r_mv (v := .int .i64 2) rfl) ?_
      refine Wl_v (v := .bool true) (r_ne (a := 2) (b := 0) rfl rfl) ?_
      refine Wl_v (r_mv (v := .bool true) rfl) ?_
      refine Wl_guard_f rfl ?_
      refine Wl_guard_f rfl ?_
      refine Wl_v (r_pick_t (v := .bool true) rfl rfl) ?_
      refine Wl_nil ?_
      refine W_cond_t rfl ?_
      refine W_seq ?_
      refine W_region ?_
      refine Wl_v (r_mv (v := .int .u64 av) rfl) ?_
      refine Wl_v (r_gt rfl rfl) ?_
      refine Wl_v (r_mv (v := .int .i64 2) rfl) ?_
      refine Wl_v (v := .bool true) (r_ne (a := 2) (b := 0) rfl rfl) ?_
      have q3 : 4611686018427387903 < av := q1
      rw [decide_eq_true q3]
      refine Wl_v (v := .bool true) (r_eqb (a := true) (b := true) Try.underlying4 rfl rfl) ?_
      refine Wl_v (r_mv (v := .bool true) rfl) ?_
      refine Wl_guard_t rfl ?_
      refine Wl_v (r_mv (v := .int .u64 bv) rfl) ?_
      refine Wl_guard_t rfl ?_
      refine Wl_v (r_gt rfl rfl) ?_
      refine Wl_guard_t rfl ?_
      refine Wl_v (r_mv (v := .int .i64 2) rfl) ?_
      refine Wl_guard_t rfl ?_
      refine Wl_v (v := .bool true) (r_ne (a := 2) (b := 0) rfl rfl) ?_
      refine Wl_guard_t rfl ?_
      have q4 : 4611686018427387903 < bv := q2
      rw [decide_eq_true q4]
      refine Wl_v (v := .bool true) (r_eqb (a := true) (b := true) Try.underlying4 rfl rfl) ?_
      refine Wl_v (r_pick_t (v := .bool true) rfl rfl) ?_
      refine Wl_v (r_mv (v := .bool true) rfl) ?_
      refine Wl_guard_t rfl ?_
      refine Wl_call (r_call0 rfl Try.call19 ) (known_spec _ ) ?_
      rintro v w3 ⟨rfl, hU3⟩
      have hzw3 := hU3.size
      replace HU := HU.trans0 hU3
      refine Wl_v (r_pick_t (v := .bool true) rfl rfl) ?_
      refine Wl_v (r_as (v := .bool true) rfl) ?_
      refine Wl_nil ?_
      refine W_ret ?_
      refine ret_end (v := .bool true) rfl (res1 Try.results4 rfl) ?_
      exact ⟨_, rfl, rfl, HU⟩
    · refine Wl_call (r_call2 rfl Try.call17 rfl rfl) (putvarint_spec (bs := []) _ (Sl.nil _ _ _) (by omega) (by omega) (by omega)) ?_
      rintro v w4 ⟨a4, c4, rfl, hO4, hU4⟩
      have hzw4 := hU4.size
      replace HU := HU.trans0 hU4
      replace hO4 := hO4.tight
      have hl_hO4 := ilen hO4.sl
      have hc_hO4 := hO4.sl.cap.1
      refine Wl_v (r_mv (v := .tuple #[.slice a4 (0 + (vi bv).length) c4, .int .i64 0]) rfl) ?_
      refine Wl_v (r_ext (v := .slice a4 (0 + (vi bv).length) c4) rfl rfl) ?_
      refine Wl_v (r_ext (v := .int .i64 0) rfl rfl) ?_
      refine Wl_v (r_as (v := .slice a4 (0 + (vi bv).length) c4) rfl) ?_
      refine Wl_v (r_as (v := .int .i64 0) rfl) ?_
      refine Wl_nil ?_
      refine W_seq ?_
      refine W_seq ?_
      refine W_region ?_
      refine Wl_v (r_mv (v := .int .i64 2) rfl) ?_
      refine Wl_v (v := .bool true) (r_ne (a := 2) (b := 0) rfl rfl) ?_
      refine Wl_v (r_mv (v := .bool true) rfl) ?_
      refine Wl_guard_f rfl ?_
      refine Wl_guard_f rfl ?_
      refine Wl_v (r_pick_t (v := .bool true) rfl rfl) ?_
      refine Wl_nil ?_
      refine W_cond_t rfl ?_
      refine W_seq ?_
      refine W_region ?_
      refine Wl_v (r_mv (v := .int .u64 av) rfl) ?_
      refine Wl_v (r_gt rfl rfl) ?_
      refine Wl_v (r_mv (v := .int .i64 2) rfl) ?_
      refine Wl_v (v := .bool true) (r_ne (a := 2) (b := 0) rfl rfl) ?_
      have q5 : 4611686018427387903 < av := q1
      rw [decide_eq_true q5]
      refine Wl_v (v := .bool true) (r_eqb (a := true) (b := true) Try.underlying4 rfl rfl) ?_
      refine Wl_v (r_mv (v := .bool true) rfl) ?_
      refine Wl_guard_t rfl ?_
      refine Wl_v (r_mv (v := .int .u64 bv) rfl) ?_
      refine Wl_guard_t rfl ?_
      refine Wl_v (r_gt rfl rfl) ?_
      refine Wl_guard_t rfl ?_
      refine Wl_v (r_mv (v := .int .i64 0) rfl) ?_
      refine Wl_guard_t rfl ?_
      refine Wl_v (v := .bool false) (r_ne (a := 0) (b := 0) rfl rfl) ?_
      refine Wl_guard_t rfl ?_
      have q6 : ¬ (4611686018427387903 < bv) := q2
      rw [decide_eq_false q6]
      refine Wl_v (v := .bool true) (r_eqb (a := false) (b := false) Try.underlying4 rfl rfl) ?_
      refine Wl_v (r_pick_t (v := .bool true) rfl rfl) ?_
      refine Wl_v (r_mv (v := .bool true) rfl) ?_
      refine Wl_guard_t rfl ?_
      refine Wl_call (r_call0 rfl Try.call19 ) (known_spec _ ) ?_
      rintro v w5 ⟨rfl, hU5⟩
      have hzw5 := hU5.size
      replace HU := HU.trans0 hU5
      replace hO4 := hO4.upd0 hU5
      refine Wl_v (r_pick_t (v := .bool true) rfl rfl) ?_
      refine Wl_v (r_as (v := .bool true) rfl) ?_
      refine Wl_nil ?_
      refine W_ret ?_
      refine ret_end (v := .bool true) rfl (res1 Try.results4 rfl) ?_
      exact ⟨_, rfl, rfl, HU⟩
  · refine Wl_call (r_call2 rfl Try.call17 rfl rfl) (putvarint_spec (bs := []) _ (Sl.nil _ _ _) (by omega) (by omega) (by omega)) ?_
    rintro v w6 ⟨a6, c6, rfl, hO6, hU6⟩
    have hzw6 := hU6.size
    replace HU := HU.trans0 hU6
    replace hO6 := hO6.tight
    have hl_hO6 := ilen hO6.sl
    have hc_hO6 := hO6.sl.cap.1
    refine Wl_v (r_mv (v := .tuple #[.slice a6 (0 + (vi av).length) c6, .int .i64 0]) rfl) ?_
    refine Wl_v (r_ext (v := .slice a6 (0 + (vi av).length) c6) rfl rfl) ?_
    refine Wl_v (r_ext (v := .int .i64 0) rfl rfl) ?_
    refine Wl_v (r_as (v := .slice a6 (0 + (vi av).length) c6) rfl) ?_
    refine Wl_v (r_as (v := .int .i64 0) rfl) ?_
    refine Wl_nil ?_
    refine W_seq ?_
    refine W_region ?_
    refine Wl_v (r_mv (v := .int .u64 bv) rfl) ?_
    by_cases q7 : 4611686018427387903 < bv
    · refine Wl_call (r_call2 rfl Try.call17 rfl rfl) (putvarint_no _ (by omega)) ?_
      rintro v w7 ⟨rfl, hU7⟩
      have hzw7 := hU7.size
      replace HU := HU.trans0 hU7
      replace hO6 := hO6.upd0 hU7
      refine Wl_v (r_mv (v := .tuple #[.slice none 0 0, .int .i64 2]) rfl) ?_
      refine Wl_v (r_ext (v := .slice none 0 0) rfl rfl) ?_
      refine Wl_v (r_ext (v := .int .i64 2) rfl rfl) ?_
      refine Wl_v (r_as (v := .slice none 0 0) rfl) ?_
      refine Wl_v (r_as (v := .int .i64 2) rfl) ?_
      refine Wl_nil ?_
      refine W_seq ?_
      refine W_seq ?_
      refine W_region ?_
      refine Wl_v (r_mv (v := .int .i64 0) rfl) ?_
      refine Wl_v (v := .bool false) (r_ne (a := 0) (b := 0) rfl rfl) ?_
      refine Wl_v (r_mv (v := .bool false) rfl) ?_
      refine Wl_guard_t rfl ?_
      refine Wl_v (r_mv (v := .int .i64 2) rfl) ?_
      refine Wl_guard_t rfl ?_
      refine Wl_v (v := .bool true) (r_ne (a := 2) (b := 0) rfl rfl) ?_
      refine Wl_v (r_pick_f (v := .bool true) rfl rfl) ?_
      refine Wl_nil ?_
      refine W_cond_t rfl ?_
      refine W_seq ?_
      refine W_region ?_
      refine Wl_v (r_mv (v := .int .u64 av) rfl) ?_
      refine Wl_v (r_gt rfl rfl) ?_
      refine Wl_v (r_mv (v := .int .i64 0) rfl) ?_
      refine Wl_v (v := .bool false) (r_ne (a := 0) (b := 0) rfl rfl) ?_
      have q8 : ¬ (4611686018427387903 < av) := q1
      rw [decide_eq_false q8]
      refine Wl_v (v := .bool true) (r_eqb (a := false) (b := false) Try.underlying4 rfl rfl) ?_
      refine Wl_v (r_mv (v := .bool true) rfl) ?_
      refine Wl_guard_t rfl ?_
      refine Wl_v (r_mv (v := .int .u64 bv) rfl) ?_
      refine Wl_guard_t rfl ?_
      refine Wl_v (r_gt rfl rfl) ?_
      refine Wl_guard_t rfl ?_
      refine Wl_v (r_mv (v := .int .i64 2) rfl) ?_
      refine Wl_guard_t rfl ?_
      refine Wl_v (v := .bool true) (r_ne (a := 2) (b := 0) rfl rfl) ?_
      refine Wl_guard_t rfl ?_
      have q9 : 4611686018427387903 < bv := q7
      rw [decide_eq_true q9]
      refine Wl_v (v := .bool true) (r_eqb (a := true) (b := true) Try.underlying4 rfl rfl) ?_
      refine Wl_v (r_pick_t (v := .bool true) rfl rfl) ?_
      refine Wl_v (r_mv (v := .bool true) rfl) ?_
      refine Wl_guard_t rfl ?_
      refine Wl_call (r_call0 rfl Try.call19 ) (known_spec _ ) ?_
      rintro v w8 ⟨rfl, hU8⟩
      have hzw8 := hU8.size
      replace HU := HU.trans0 hU8
      replace hO6 := hO6.upd0 hU8
      refine Wl_v (r_pick_t (v := .bool true) rfl rfl) ?_
      refine Wl_v (r_as (v := .bool true) rfl) ?_
      refine Wl_nil ?_
      refine W_ret ?_
      refine ret_end (v := .bool true) rfl (res1 Try.results4 rfl) ?_
      exact ⟨_, rfl, rfl, HU⟩
    · refine Wl_call (r_call2 rfl Try.call17 rfl rfl) (putvarint_spec (bs := []) _ (Sl.nil _ _ _) (by omega) (by omega) (by omega)) ?_
      rintro v w9 ⟨a9, c9, rfl, hO9, hU9⟩
      have hzw9 := hU9.size
      replace HU := HU.trans0 hU9
      replace hO6 := hO6.upd0 hU9
      replace hO9 := hO9.tight
      have hl_hO9 := ilen hO9.sl
      have hc_hO9 := hO9.sl.cap.1
      refine Wl_v (r_mv (v := .tuple #[.slice a9 (0 + (vi bv).length) c9, .int .i64 0]) rfl) ?_
      refine Wl_v (r_ext (v := .slice a9 (0 + (vi bv).length) c9) rfl rfl) ?_
      refine Wl_v (r_ext (v := .int .i64 0) rfl rfl) ?_
      refine Wl_v (r_as (v := .slice a9 (0 + (vi bv).length) c9) rfl) ?_
      refine Wl_v (r_as (v := .int .i64 0) rfl) ?_
      refine Wl_nil ?_
      refine W_seq ?_
      refine W_seq ?_
      refine W_region ?_
      refine Wl_v (r_mv (v := .int .i64 0) rfl) ?_
      refine Wl_v (v := .bool false) (r_ne (a := 0) (b := 0) rfl rfl) ?_
      refine Wl_v (r_mv (v := .bool false) rfl) ?_
      refine Wl_guard_t rfl ?_
      refine Wl_v (r_mv (v := .int .i64 0) rfl) ?_
      refine Wl_guard_t rfl ?_
      refine Wl_v (v := .bool false) (r_ne (a := 0) (b := 0) rfl rfl) ?_
      refine Wl_v (r_pick_f (v := .bool false) rfl rfl) ?_
      refine Wl_nil ?_
      refine W_cond_f rfl ?_
      refine W_skip ?_
      refine W_seq ?_
      refine W_seq ?_
      refine W_region ?_
      refine Wl_v (r_mv (v := .slice a6 (0 + (vi av).length) c6) rfl) ?_
      refine Wl_v (r_mv (v := .slice a9 (0 + (vi bv).length) c9) rfl) ?_
      refine Wl_call (r_call2 rfl Try.call13 rfl rfl) (same_spec _ hO6.sl.any hO9.sl.any (byt_app byt_nil (vi_byt (by omega))) (byt_app byt_nil (vi_byt (by omega)))) ?_
      rintro v w10 ⟨rfl, hU10⟩
      have hzw10 := hU10.size
      replace HU := HU.trans0 hU10
      replace hO6 := hO6.upd0 hU10
      replace hO9 := hO9.upd0 hU10
      refine Wl_v (r_mv (v := .int .u64 av) rfl) ?_
      refine Wl_v (r_mv (v := .int .u64 bv) rfl) ?_
      refine Wl_v (r_eq rfl rfl) ?_
      by_cases q10 : ([] ++ vi av) = ([] ++ vi bv)
      · rw [decide_eq_true q10]
        have q11 : av = bv := (vi_inj (by omega) (by omega) (by omega) (by omega) (by simpa using q10))
        rw [decide_eq_true q11]
        refine Wl_v (v := .bool false) (r_neb (a := true) (b := true) Try.underlying4 rfl rfl) ?_
        refine Wl_v (r_mv (v := .bool false) rfl) ?_
        refine Wl_guard_t rfl ?_
        refine Wl_v (r_mv (v := .int .u64 av) rfl) ?_
        refine Wl_guard_t rfl ?_
        refine Wl_v (r_mv (v := .int .u64 bv) rfl) ?_
        refine Wl_guard_t rfl ?_
        refine Wl_v (r_lt rfl rfl) ?_
        refine Wl_guard_t rfl ?_
        refine Wl_v (r_mv (v := .bool (decide (av < bv))) rfl) ?_
        by_cases q12 : av < bv
        · have hmono := vi_mono (a := av) (b := bv) (by omega) (by omega) (by omega)
          rw [decide_eq_true q12]
          refine Wl_guard_t rfl ?_
          refine Wl_v (r_mv (v := .slice a6 (0 + (vi av).length) c6) rfl) ?_
          refine Wl_guard_t rfl ?_
          refine Wl_v (r_len Try.underlying22 rfl) ?_
          refine Wl_guard_t rfl ?_
          refine Wl_v (r_mv (v := .slice a9 (0 + (vi bv).length) c9) rfl) ?_
          refine Wl_guard_t rfl ?_
          refine Wl_v (r_len Try.underlying22 rfl) ?_
          refine Wl_guard_t rfl ?_
          refine Wl_v (r_gt rfl rfl) ?_
          refine Wl_guard_t rfl ?_
          refine Wl_v (r_pick_t (v := .bool (decide (((0 + (vi bv).length : Nat) : Int) < ((0 + (vi av).length : Nat) : Int)))) rfl rfl) ?_
          refine Wl_v (r_pick_f (v := .bool (decide (((0 + (vi bv).length : Nat) : Int) < ((0 + (vi av).length : Nat) : Int)))) rfl rfl) ?_
          refine Wl_nil ?_
          have q13 : ¬ (((0 + (vi bv).length : Nat) : Int) < ((0 + (vi av).length : Nat) : Int)) := (by omega)
          rw [decide_eq_false q13]
          refine W_cond_f rfl ?_
          refine W_skip ?_
          refine W_seq ?_
          refine W_region ?_
          refine Wl_v (r_mv (v := .int .u64 av) rfl) ?_
          refine Wl_v (r_mv (v := .int .u64 bv) rfl) ?_
          refine Wl_v (r_eq rfl rfl) ?_
          refine Wl_v (r_mv (v := .bool (decide (av = bv))) rfl) ?_
          have q14 : av = bv := (vi_inj (by omega) (by omega) (by omega) (by omega) (by simpa using q10))
          rw [decide_eq_true q14]
          refine Wl_guard_f rfl ?_
          refine Wl_guard_f rfl ?_
          refine Wl_guard_f rfl ?_
          refine Wl_guard_f rfl ?_
          refine Wl_guard_f rfl ?_
          refine Wl_v (r_pick_t (v := .bool true) rfl rfl) ?_
          refine Wl_v (r_mv (v := .bool true) rfl) ?_
          refine Wl_guard_f rfl ?_
          refine Wl_guard_f rfl ?_
          refine Wl_guard_f rfl ?_
          refine Wl_guard_f rfl ?_
          refine Wl_guard_f rfl ?_
          refine Wl_guard_f rfl ?_
          refine Wl_guard_f rfl ?_
          refine Wl_v (r_pick_t (v := .bool true) rfl rfl) ?_
          refine Wl_v (r_mv (v := .bool true) rfl) ?_
          refine Wl_guard_t rfl ?_
          refine Wl_call (r_call0 rfl Try.call19 ) (known_spec _ ) ?_
          rintro v w11 ⟨rfl, hU11⟩
          have hzw11 := hU11.size
          replace HU := HU.trans0 hU11
          replace hO6 := hO6.upd0 hU11
          replace hO9 := hO9.upd0 hU11
          refine Wl_v (r_pick_t (v := .bool true) rfl rfl) ?_
          refine Wl_v (r_as (v := .bool true) rfl) ?_
          refine Wl_nil ?_
          refine W_ret ?_
          refine ret_end (v := .bool true) rfl (res1 Try.results4 rfl) ?_
          exact ⟨_, rfl, rfl, HU⟩
        · rw [decide_eq_false q12]
          refine Wl_guard_f rfl ?_
          refine Wl_guard_f rfl ?_
          refine Wl_guard_f rfl ?_
          refine Wl_guard_f rfl ?_
          refine Wl_guard_f rfl ?_
          refine Wl_guard_t rfl ?_
          refine Wl_v (r_pick_f (v := .bool false) rfl rfl) ?_
          refine Wl_v (r_pick_f (v := .bool false) rfl rfl) ?_
          refine Wl_nil ?_
          refine W_cond_f rfl ?_
          refine W_skip ?_
          refine W_seq ?_
          refine W_region ?_
          refine Wl_v (r_mv (v := .int .u64 av) rfl) ?_
          refine Wl_v (r_mv (v := .int .u64 bv) rfl) ?_
          refine Wl_v (r_eq rfl rfl) ?_
          refine Wl_v (r_mv (v := .bool (decide (av = bv))) rfl) ?_
          have q15 : av = bv := (vi_inj (by omega) (by omega) (by omega) (by omega) (by simpa using q10))
          rw [decide_eq_true q15]
          refine Wl_guard_f rfl ?_
          refine Wl_guard_f rfl ?_
          refine Wl_guard_f rfl ?_
          refine Wl_guard_f rfl ?_
          refine Wl_guard_f rfl ?_
          refine Wl_v (r_pick_t (v := .bool true) rfl rfl) ?_
          refine Wl_v (r_mv (v := .bool true) rfl) ?_
          refine Wl_guard_f rfl ?_
          refine Wl_guard_f rfl ?_
          refine Wl_guard_f rfl ?_
          refine Wl_guard_f rfl ?_
          refine Wl_guard_f rfl ?_
          refine Wl_guard_f rfl ?_
          refine Wl_guard_f rfl ?_
          refine Wl_v (r_pick_t (v := .bool true) rfl rfl) ?_
          refine Wl_v (r_mv (v := .bool true) rfl) ?_
          refine Wl_guard_t rfl ?_
          refine Wl_call (r_call0 rfl Try.call19 ) (known_spec _ ) ?_
          rintro v w12 ⟨rfl, hU12⟩
          have hzw12 := hU12.size
          replace HU := HU.trans0 hU12
          replace hO6 := hO6.upd0 hU12
          replace hO9 := hO9.upd0 hU12
          refine Wl_v (r_pick_t (v := .bool true) rfl rfl) ?_
          refine Wl_v (r_as (v := .bool true) rfl) ?_
          refine Wl_nil ?_
          refine W_ret ?_
          refine ret_end (v := .bool true) rfl (res1 Try.results4 rfl) ?_
          exact ⟨_, rfl, rfl, HU⟩
      · rw [decide_eq_false q10]
        have q16 : ¬ (av = bv) := (fun h => q10 (by rw [h]))
        rw [decide_eq_false q16]
        refine Wl_v (v := .bool false) (r_neb (a := false) (b := false) Try.underlying4 rfl rfl) ?_
        refine Wl_v (r_mv (v := .bool false) rfl) ?_
        refine Wl_guard_t rfl ?_
        refine Wl_v (r_mv (v := .int .u64 av) rfl) ?_
        refine Wl_guard_t rfl ?_
        refine Wl_v (r_mv (v := .int .u64 bv) rfl) ?_
        refine Wl_guard_t rfl ?_
        refine Wl_v (r_lt rfl rfl) ?_
        refine Wl_guard_t rfl ?_
        refine Wl_v (r_mv (v := .bool (decide (av < bv))) rfl) ?_
        by_cases q17 : av < bv
        · have hmono := vi_mono (a := av) (b := bv) (by omega) (by omega) (by omega)
          rw [decide_eq_true q17]
          refine Wl_guard_t rfl ?_
          refine Wl_v (r_mv (v := .slice a6 (0 + (vi av).length) c6) rfl) ?_
          refine Wl_guard_t rfl ?_
          refine Wl_v (r_len Try.underlying22 rfl) ?_
          refine Wl_guard_t rfl ?_
          refine Wl_v (r_mv (v := .slice a9 (0 + (vi bv).length) c9) rfl) ?_
          refine Wl_guard_t rfl ?_
          refine Wl_v (r_len Try.underlying22 rfl) ?_
          refine Wl_guard_t rfl ?_
          refine Wl_v (r_gt rfl rfl) ?_
          refine Wl_guard_t rfl ?_
          refine Wl_v (r_pick_t (v := .bool (decide (((0 + (vi bv).length : Nat) : Int) < ((0 + (vi av).length : Nat) : Int)))) rfl rfl) ?_
          refine Wl_v (r_pick_f (v := .bool (decide (((0 + (vi bv).length : Nat) : Int) < ((0 + (vi av).length : Nat) : Int)))) rfl rfl) ?_
          refine Wl_nil ?_
          have q18 : ¬ (((0 + (vi bv).length : Nat) : Int) < ((0 + (vi av).length : Nat) : Int)) := (by omega)
          rw [decide_eq_false q18]
          refine W_cond_f rfl ?_
          refine W_skip ?_
          refine W_seq ?_
          refine W_region ?_
          refine Wl_v (r_mv (v := .int .u64 av) rfl) ?_
          refine Wl_v (r_mv (v := .int .u64 bv) rfl) ?_
          refine Wl_v (r_eq rfl rfl) ?_
          refine Wl_v (r_mv (v := .bool (decide (av = bv))) rfl) ?_
          have q19 : ¬ (av = bv) := (fun h => q10 (by rw [h]))
          rw [decide_eq_false q19]
          refine Wl_guard_t rfl ?_
          refine Wl_v (r_mv (v := .slice a6 (0 + (vi av).length) c6) rfl) ?_
          refine Wl_guard_t rfl ?_
          refine Wl_v (r_len Try.underlying22 rfl) ?_
          refine Wl_guard_t rfl ?_
          refine Wl_v (r_mv (v := .slice a9 (0 + (vi bv).length) c9) rfl) ?_
          refine Wl_guard_t rfl ?_
          refine Wl_v (r_len Try.underlying22 rfl) ?_
          refine Wl_guard_t rfl ?_
          refine Wl_v (r_gt rfl rfl) ?_
          refine Wl_v (r_pick_f (v := .bool (decide (((0 + (vi bv).length : Nat) : Int) < ((0 + (vi av).length : Nat) : Int)))) rfl rfl) ?_
          refine Wl_v (r_mv (v := .bool (decide (((0 + (vi bv).length : Nat) : Int) < ((0 + (vi av).length : Nat) : Int)))) rfl) ?_
          have q20 : ¬ (((0 + (vi bv).length : Nat) : Int) < ((0 + (vi av).length : Nat) : Int)) := (by omega)
          rw [decide_eq_false q20]
          refine Wl_guard_t rfl ?_
          refine Wl_v (r_mv (v := .slice a6 (0 + (vi av).length) c6) rfl) ?_
          refine Wl_guard_t rfl ?_
          refine Wl_v (r_mv (v := .slice a9 (0 + (vi bv).length) c9) rfl) ?_
          refine Wl_guard_t rfl ?_
          refine Wl_v (r_mv (v := .slice a6 (0 + (vi av).length) c6) rfl) ?_
          refine Wl_guard_t rfl ?_
          refine Wl_v (r_len Try.underlying22 rfl) ?_
          refine Wl_guard_t rfl ?_
          refine Wl_v (r_sliceh Try.underlying22 Try.sizeOf5 rfl rfl (by omega) (by omega)) ?_
          have hT13 := Sl.cuth (n := (0 + (vi av).length)) hO9.sl (by omega)
          have hl_hT13 := ilen hT13
          have hc_hT13 := hT13.cap.1
          refine Wl_guard_t rfl ?_
          refine Wl_call (r_call2 rfl Try.call13 rfl rfl) (same_spec _ hO6.sl.any hT13.any (byt_app byt_nil (vi_byt (by omega))) (byt_take (byt_app byt_nil (vi_byt (by omega))) _)) ?_
          rintro v w14 ⟨rfl, hU14⟩
          have hzw14 := hU14.size
          replace HU := HU.trans0 hU14
          replace hO6 := hO6.upd0 hU14
          replace hO9 := hO9.upd0 hU14
          replace hT13 := hT13.upd0 hU14
          refine Wl_guard_t rfl ?_
          refine Wl_v (r_not rfl) ?_
          refine Wl_v (r_pick_f (v := .bool (!decide (([] ++ vi av) = (([] ++ vi bv).take (0 + (vi av).length))))) rfl rfl) ?_
          refine Wl_v (r_mv (v := .bool (!decide (([] ++ vi av) = (([] ++ vi bv).take (0 + (vi av).length))))) rfl) ?_
          by_cases q21 : ([] ++ vi av) = (([] ++ vi bv).take (0 + (vi av).length))
          · exact absurd (vi_prefix (a := av) (b := bv) (by omega) (by omega) (by omega) (by omega) (by omega) (by simpa using q21.symm)) q19
          · rw [decide_eq_false q21]
            simp only [Bool.not_true, Bool.not_false]
            refine Wl_guard_t rfl ?_
            refine Wl_call (r_call0 rfl Try.call19 ) (known_spec _ ) ?_
            rintro v w15 ⟨rfl, hU15⟩
            have hzw15 := hU15.size
            replace HU := HU.trans0 hU15
            replace hO6 := hO6.upd0 hU15
            replace hO9 := hO9.upd0 hU15
            replace hT13 := hT13.upd0 hU15
            refine Wl_v (r_pick_t (v := .bool true) rfl rfl) ?_
            refine Wl_v (r_as (v := .bool true) rfl) ?_
            refine Wl_nil ?_
            refine W_ret ?_
            refine ret_end (v := .bool true) rfl (res1 Try.results4 rfl) ?_
            exact ⟨_, rfl, rfl, HU⟩
        · rw [decide_eq_false q17]
          refine Wl_guard_f rfl ?_
          refine Wl_guard_f rfl ?_
          refine Wl_guard_f rfl ?_
          refine Wl_guard_f rfl ?_
          refine Wl_guard_f rfl ?_
          refine Wl_guard_t rfl ?_
          refine Wl_v (r_pick_f (v := .bool false) rfl rfl) ?_
          refine Wl_v (r_pick_f (v := .bool false) rfl rfl) ?_
          refine Wl_nil ?_
          refine W_cond_f rfl ?_
          refine W_skip ?_
          refine W_seq ?_
          refine W_region ?_
          refine Wl_v (r_mv (v := .int .u64 av) rfl) ?_
          refine Wl_v (r_mv (v := .int .u64 bv) rfl) ?_
          refine Wl_v (r_eq rfl rfl) ?_
          refine Wl_v (r_mv (v := .bool (decide (av = bv))) rfl) ?_
          have q22 : ¬ (av = bv) := (fun h => q10 (by rw [h]))
          rw [decide_eq_false q22]
          refine Wl_guard_t rfl ?_
          refine Wl_v (r_mv (v := .slice a6 (0 + (vi av).length) c6) rfl) ?_
          refine Wl_guard_t rfl ?_
          refine Wl_v (r_len Try.underlying22 rfl) ?_
          refine Wl_guard_t rfl ?_
          refine Wl_v (r_mv (v := .slice a9 (0 + (vi bv).length) c9) rfl) ?_
          refine Wl_guard_t rfl ?_
          refine Wl_v (r_len Try.underlying22 rfl) ?_
          refine Wl_guard_t rfl ?_
          refine Wl_v (r_gt rfl rfl) ?_
          refine Wl_v (r_pick_f (v := .bool (decide (((0 + (vi bv).length : Nat) : Int) < ((0 + (vi av).length : Nat) : Int)))) rfl rfl) ?_
          refine Wl_v (r_mv (v := .bool (decide (((0 + (vi bv).length : Nat) : Int) < ((0 + (vi av).length : Nat) : Int)))) rfl) ?_
          by_cases q23 : ((0 + (vi bv).length : Nat) : Int) < ((0 + (vi av).length : Nat) : Int)
          · rw [decide_eq_true q23]
            refine Wl_guard_f rfl ?_
            refine Wl_guard_f rfl ?_
            refine Wl_guard_f rfl ?_
            refine Wl_guard_f rfl ?_
            refine Wl_guard_f rfl ?_
            refine Wl_guard_f rfl ?_
            refine Wl_guard_f rfl ?_
            refine Wl_v (r_pick_t (v := .bool true) rfl rfl) ?_
            refine Wl_v (r_mv (v := .bool true) rfl) ?_
            refine Wl_guard_t rfl ?_
            refine Wl_call (r_call0 rfl Try.call19 ) (known_spec _ ) ?_
            rintro v w16 ⟨rfl, hU16⟩
            have hzw16 := hU16.size
            replace HU := HU.trans0 hU16
            replace hO6 := hO6.upd0 hU16
            replace hO9 := hO9.upd0 hU16
            refine Wl_v (r_pick_t (v := .bool true) rfl rfl) ?_
            refine Wl_v (r_as (v := .bool true) rfl) ?_
            refine Wl_nil ?_
            refine W_ret ?_
            refine ret_end (v := .bool true) rfl (res1 Try.results4 rfl) ?_
            exact ⟨_, rfl, rfl, HU⟩
          · rw [decide_eq_false q23]
            refine Wl_guard_t rfl ?_
            refine Wl_v (r_mv (v := .slice a6 (0 + (vi av).length) c6) rfl) ?_
            refine Wl_guard_t rfl ?_
            refine Wl_v (r_mv (v := .slice a9 (0 + (vi bv).length) c9) rfl) ?_
            refine Wl_guard_t rfl ?_
            refine Wl_v (r_mv (v := .slice a6 (0 + (vi av).length) c6) rfl) ?_
            refine Wl_guard_t rfl ?_
            refine Wl_v (r_len Try.underlying22 rfl) ?_
            refine Wl_guard_t rfl ?_
            refine Wl_v (r_sliceh Try.underlying22 Try.sizeOf5 rfl rfl (by omega) (by omega)) ?_
            have hT17 := Sl.cuth (n := (0 + (vi av).length)) hO9.sl (by omega)
            have hl_hT17 := ilen hT17
            have hc_hT17 := hT17.cap.1
            refine Wl_guard_t rfl ?_
            refine Wl_call (r_call2 rfl Try.call13 rfl rfl) (same_spec _ hO6.sl.any hT17.any (byt_app byt_nil (vi_byt (by omega))) (byt_take (byt_app byt_nil (vi_byt (by omega))) _)) ?_
            rintro v w18 ⟨rfl, hU18⟩
            have hzw18 := hU18.size
            replace HU := HU.trans0 hU18
            replace hO6 := hO6.upd0 hU18
            replace hO9 := hO9.upd0 hU18
            replace hT17 := hT17.upd0 hU18
            refine Wl_guard_t rfl ?_
            refine Wl_v (r_not rfl) ?_
            refine Wl_v (r_pick_f (v := .bool (!decide (([] ++ vi av) = (([] ++ vi bv).take (0 + (vi av).length))))) rfl rfl) ?_
            refine Wl_v (r_mv (v := .bool (!decide (([] ++ vi av) = (([] ++ vi bv).take (0 + (vi av).length))))) rfl) ?_
            by_cases q24 : ([] ++ vi av) = (([] ++ vi bv).take (0 + (vi av).length))
            · exact absurd (vi_prefix (a := av) (b := bv) (by omega) (by omega) (by omega) (by omega) (by omega) (by simpa using q24.symm)) q22
            · rw [decide_eq_false q24]
              simp only [Bool.not_true, Bool.not_false]
              refine Wl_guard_t rfl ?_
              refine Wl_call (r_call0 rfl Try.call19 ) (known_spec _ ) ?_
              rintro v w19 ⟨rfl, hU19⟩
              have hzw19 := hU19.size
              replace HU := HU.trans0 hU19
              replace hO6 := hO6.upd0 hU19
              replace hO9 := hO9.upd0 hU19
              replace hT17 := hT17.upd0 hU19
              refine Wl_v (r_pick_t (v := .bool true) rfl rfl) ?_
              refine Wl_v (r_as (v := .bool true) rfl) ?_
              refine Wl_nil ?_
              refine W_ret ?_
              refine ret_end (v := .bool true) rfl (res1 Try.results4 rfl) ?_
              exact ⟨_, rfl, rfl, HU⟩

end Go.Proofs.Ytigojafhogjnfaa
