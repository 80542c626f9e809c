/-
  Walks, printed by a small program of this project (gen.py).
-/
import Derived.Test.YtigojafhogjnfaaWk
set_option linter.unusedVariables false
namespace Go.Proofs.Ytigojafhogjnfaa
open Go.Fw

set_option maxRecDepth 100000 in
theorem numonce {a : Option Addr} {n c : Nat} {bs : List Int} (w : World) (hb : Sl w (fun g => g < w.heap.size) 1 (.slice a n c) n (ints .u8 bs)) (bb : Byt bs) (nb : n ≤ 140737488351232) :
    Calls Try.prog 6 #[.slice a n c] w (Ret fun v w' => v = .bool true ∧ Upd No w w') := by
  have HU : Upd (fun b => False) w w := Upd.refl _ _
  have hl_hb := ilen hb
  have hc_hb := hb.cap.1
  have hgp := gvar_props bs 0 (by omega)
  have hvl := vi_len (gvar bs 0).1
  refine calls_of_W Try.func6 rfl Try.ntmps6 (by simp) ?_
  refine W_seq ?_
  refine W_region ?_
  refine Wl_v (r_as (v := .bool false) rfl) ?_
  refine Wl_nil ?_
  refine W_seq ?_
  refine W_region ?_
  refine Wl_v (r_mv (v := .slice a n c) rfl) ?_
  refine Wl_call (r_call1 rfl Try.call21 rfl) (new_spec _ hb.any (by omega)) ?_
  rintro v w1 ⟨pb1, a1, c1, rfl, hp1, hO1, hpg_1, hU1⟩
  have hzw1 := hU1.size
  replace hb := hb.upd0 hU1
  replace HU := HU.trans0 hU1
  have hbl_hp1 := hp1.lt
  replace hO1 := hO1.tight
  have hl_hO1 := ilen hO1.sl
  have hc_hO1 := hO1.sl.cap.1
  refine Wl_v (r_as (v := .pointer (some ⟨pb1, 0, none⟩)) rfl) ?_
  refine Wl_nil ?_
  refine W_seq ?_
  refine W_region ?_
  refine Wl_v (r_mv (v := .pointer (some ⟨pb1, 0, none⟩)) rfl) ?_
  refine Wl_call (r_call1 rfl Try.call22 rfl) (cvarint_spec (p := 0) _ hp1 (hO1.sl.cur (by intro h1; have h3 : ((w.heap.size ≤ pb1 ∧ pb1 ≠ pb1) ∧ pb1 < w1.heap.size) := h1; first | omega | simp at h3)) bb (by omega) (by omega)) ?_
  rintro v w2 ⟨rfl, hp2, hU2⟩
  have hzw2 := hU2.size
  replace hb := hb.upd1 hU2 (by intro h1; have h3 : pb1 < w.heap.size := h1; omega)
  replace HU := HU.trans1 hU2 (by show (False) ∨ w.heap.size ≤ pb1; omega)
  replace hO1 := hO1.upd1 hU2 (by intro h1; have h3 : ((w.heap.size ≤ pb1 ∧ pb1 ≠ pb1) ∧ pb1 < w1.heap.size) := h1; omega)
  have hbl_hp2 := hp2.lt
  refine Wl_v (r_mv (v := .tuple #[.int .u64 ((gvar bs 0).1), .int .i64 ((gvar bs 0).2.2)]) rfl) ?_
  refine Wl_v (r_ext (v := .int .u64 ((gvar bs 0).1)) rfl rfl) ?_
  refine Wl_v (r_ext (v := .int .i64 ((gvar bs 0).2.2)) rfl rfl) ?_
  refine Wl_v (r_as (v := .int .u64 ((gvar bs 0).1)) rfl) ?_
  refine Wl_v (r_as (v := .int .i64 ((gvar bs 0).2.2)) rfl) ?_
  refine Wl_nil ?_
  refine W_seq ?_
  refine W_seq ?_
  refine W_region ?_
  refine Wl_v (r_mv (v := .int .i64 ((gvar bs 0).2.2)) rfl) ?_
  refine Wl_v (r_ne rfl rfl) ?_
  refine Wl_nil ?_
  by_cases q1 : ((gvar bs 0).2.2) ≠ 0
  · rw [decide_eq_true q1]
    refine W_cond_t rfl ?_
    refine W_seq ?_
    refine W_region ?_
    refine Wl_v (r_mv (v := .pointer (some ⟨pb1, 0, none⟩)) rfl) ?_
    refine Wl_call (r_call1 rfl Try.call24 rfl) (at_spec _ hp2 (by omega) (by omega) (by omega)) ?_
    rintro v w3 ⟨rfl, hU3⟩
    have hzw3 := hU3.size
    replace hb := hb.upd0 hU3
    replace HU := HU.trans0 hU3
    replace hO1 := hO1.upd0 hU3
    replace hp2 := hp2.upd0 hU3
    refine Wl_v (r_eq rfl rfl) ?_
    refine Wl_v (r_mv (v := .bool (decide ((((gvar bs 0).2.1 : Nat) : Int) = 0))) rfl) ?_
    have q2 : (((gvar bs 0).2.1 : Nat) : Int) = 0 := (by omega)
    rw [decide_eq_true q2]
    refine Wl_guard_t rfl ?_
    refine Wl_call (r_call0 rfl Try.call19 ) (known_spec _ ) ?_
    rintro v w4 ⟨rfl, hU4⟩
    have hzw4 := hU4.size
    replace hb := hb.upd0 hU4
    replace HU := HU.trans0 hU4
    replace hO1 := hO1.upd0 hU4
    replace hp2 := hp2.upd0 hU4
    refine Wl_v (r_pick_t (v := .bool true) rfl rfl) ?_
    refine Wl_v (r_as (v := .bool true) rfl) ?_
    refine Wl_nil ?_
    refine W_ret ?_
    refine ret_end (v := .bool true) rfl (res1 Try.results6 rfl) ?_
    exact ⟨_, rfl, rfl, HU⟩
  · have hon := gvar_once0 bb (by omega)
    have h9 := vi_9 (n := (gvar bs 0).1) (by omega) (by omega)
    rw [decide_eq_false q1]
    refine W_cond_f rfl ?_
    refine W_skip ?_
    refine W_seq ?_
    refine W_region ?_
    refine Wl_v (r_mv (v := .int .u64 ((gvar bs 0).1)) rfl) ?_
    have q3 : ¬ (4611686018427387903 < ((gvar bs 0).1)) := (by omega)
    refine Wl_call (r_call2 rfl Try.call17 rfl rfl) (putvarint_spec (bs := []) _ (Sl.nil _ _ _) (by omega) (by omega) (by omega)) ?_
    rintro v w5 ⟨a5, c5, rfl, hO5, hU5⟩
    have hzw5 := hU5.size
    replace hb := hb.upd0 hU5
    replace HU := HU.trans0 hU5
    replace hO1 := hO1.upd0 hU5
    replace hp2 := hp2.upd0 hU5
    replace hO5 := hO5.tight
    have hl_hO5 := ilen hO5.sl
    have hc_hO5 := hO5.sl.cap.1
    refine Wl_v (r_mv (v := .tuple #[.slice a5 (0 + (vi ((gvar bs 0).1)).length) c5, .int .i64 0]) rfl) ?_
    refine Wl_v (r_ext (v := .slice a5 (0 + (vi ((gvar bs 0).1)).length) c5) rfl rfl) ?_
    refine Wl_v (r_ext (v := .int .i64 0) rfl rfl) ?_
    refine Wl_v (r_as (v := .slice a5 (0 + (vi ((gvar bs 0).1)).length) c5) rfl) ?_
    refine Wl_v (r_as (v := .int .i64 0) rfl) ?_
    refine Wl_nil ?_
    refine W_seq ?_
    refine W_seq ?_
    refine W_region ?_
    refine Wl_v (r_mv (v := .int .i64 0) rfl) ?_
    refine Wl_v (v := .bool false) (r_ne (a := 0) (b := 0) rfl rfl) ?_
    refine Wl_v (r_mv (v := .bool false) rfl) ?_
    refine Wl_guard_t rfl ?_
    refine Wl_v (r_mv (v := .slice a5 (0 + (vi ((gvar bs 0).1)).length) c5) rfl) ?_
    refine Wl_guard_t rfl ?_
    refine Wl_v (r_len Try.underlying22 rfl) ?_
    refine Wl_guard_t rfl ?_
    refine Wl_v (r_eq rfl rfl) ?_
    refine Wl_v (r_pick_f (v := .bool (decide (((0 + (vi ((gvar bs 0).1)).length : Nat) : Int) = 0))) rfl rfl) ?_
    refine Wl_v (r_mv (v := .bool (decide (((0 + (vi ((gvar bs 0).1)).length : Nat) : Int) = 0))) rfl) ?_
    have q4 : ¬ (((0 + (vi ((gvar bs 0).1)).length : Nat) : Int) = 0) := (by omega)
    rw [decide_eq_false q4]
    refine Wl_guard_t rfl ?_
    refine Wl_v (r_mv (v := .pointer (some ⟨pb1, 0, none⟩)) rfl) ?_
    refine Wl_guard_t rfl ?_
    refine Wl_call (r_call1 rfl Try.call24 rfl) (at_spec _ hp2 (by omega) (by omega) (by omega)) ?_
    rintro v w6 ⟨rfl, hU6⟩
    have hzw6 := hU6.size
    replace hb := hb.upd0 hU6
    replace HU := HU.trans0 hU6
    replace hO1 := hO1.upd0 hU6
    replace hp2 := hp2.upd0 hU6
    replace hO5 := hO5.upd0 hU6
    refine Wl_guard_t rfl ?_
    refine Wl_v (r_mv (v := .slice a5 (0 + (vi ((gvar bs 0).1)).length) c5) rfl) ?_
    refine Wl_guard_t rfl ?_
    refine Wl_v (r_len Try.underlying22 rfl) ?_
    refine Wl_guard_t rfl ?_
    refine Wl_v (r_ne rfl rfl) ?_
    refine Wl_v (r_pick_f (v := .bool (decide ((((gvar bs 0).2.1 : Nat) : Int) ≠ ((0 + (vi ((gvar bs 0).1)).length : Nat) : Int)))) rfl rfl) ?_
    refine Wl_v (r_mv (v := .bool (decide ((((gvar bs 0).2.1 : Nat) : Int) ≠ ((0 + (vi ((gvar bs 0).1)).length : Nat) : Int)))) rfl) ?_
    have q5 : ¬ ((((gvar bs 0).2.1 : Nat) : Int) ≠ ((0 + (vi ((gvar bs 0).1)).length : Nat) : Int)) := (by omega)
    rw [decide_eq_false q5]
    refine Wl_guard_t rfl ?_
    refine Wl_v (r_mv (v := .slice a5 (0 + (vi ((gvar bs 0).1)).length) c5) rfl) ?_
    refine Wl_guard_t rfl ?_
    refine Wl_v (r_len Try.underlying22 rfl) ?_
    refine Wl_guard_t rfl ?_
    refine Wl_v (r_mv (v := .slice a n c) rfl) ?_
    refine Wl_guard_t rfl ?_
    refine Wl_v (r_len Try.underlying22 rfl) ?_
    refine Wl_guard_t rfl ?_
    refine Wl_v (r_gt rfl rfl) ?_
    refine Wl_v (r_pick_f (v := .bool (decide (((n : Nat) : Int) < ((0 + (vi ((gvar bs 0).1)).length : Nat) : Int)))) rfl rfl) ?_
    refine Wl_v (r_mv (v := .bool (decide (((n : Nat) : Int) < ((0 + (vi ((gvar bs 0).1)).length : Nat) : Int)))) rfl) ?_
    have q6 : ¬ (((n : Nat) : Int) < ((0 + (vi ((gvar bs 0).1)).length : Nat) : Int)) := (by omega)
    rw [decide_eq_false q6]
    refine Wl_guard_t rfl ?_
    refine Wl_v (r_mv (v := .slice a5 (0 + (vi ((gvar bs 0).1)).length) c5) rfl) ?_
    refine Wl_guard_t rfl ?_
    refine Wl_v (r_mv (v := .slice a n c) rfl) ?_
    refine Wl_guard_t rfl ?_
    refine Wl_v (r_mv (v := .slice a5 (0 + (vi ((gvar bs 0).1)).length) c5) rfl) ?_
    refine Wl_guard_t rfl ?_
    refine Wl_v (r_len Try.underlying22 rfl) ?_
    refine Wl_guard_t rfl ?_
    refine Wl_v (r_slicehn (h' := (0 + (vi ((gvar bs 0).1)).length)) Try.underlying22 Try.sizeOf5 rfl rfl (by omega) (by omega)) ?_
    have hT7 := Sl.cuth (n := (0 + (vi ((gvar bs 0).1)).length)) hb (by omega)
    have hl_hT7 := ilen hT7
    have hc_hT7 := hT7.cap.1
    refine Wl_guard_t rfl ?_
    refine Wl_call (r_call2 rfl Try.call13 rfl rfl) (same_spec _ hO5.sl.any hT7.any (byt_app byt_nil (vi_byt (by omega))) (byt_take bb _)) ?_
    rintro v w8 ⟨rfl, hU8⟩
    have hzw8 := hU8.size
    replace hb := hb.upd0 hU8
    replace HU := HU.trans0 hU8
    replace hO1 := hO1.upd0 hU8
    replace hp2 := hp2.upd0 hU8
    replace hO5 := hO5.upd0 hU8
    replace hT7 := hT7.upd0 hU8
    refine Wl_guard_t rfl ?_
    refine Wl_v (r_not rfl) ?_
    refine Wl_v (r_pick_f (v := .bool (!decide (([] ++ vi ((gvar bs 0).1)) = (bs.take (0 + (vi ((gvar bs 0).1)).length))))) rfl rfl) ?_
    refine Wl_v (r_mv (v := .bool (!decide (([] ++ vi ((gvar bs 0).1)) = (bs.take (0 + (vi ((gvar bs 0).1)).length))))) rfl) ?_
    have q7 : ([] ++ vi ((gvar bs 0).1)) = (bs.take (0 + (vi ((gvar bs 0).1)).length)) := (by simpa using hon.1.symm)
    rw [decide_eq_true q7]
    simp only [Bool.not_true, Bool.not_false]
    refine Wl_guard_t rfl ?_
    refine Wl_v (r_mv (v := .int .u64 ((gvar bs 0).1)) rfl) ?_
    refine Wl_guard_t rfl ?_
    have q8 : ¬ (4611686018427387903 < ((gvar bs 0).1)) := (by omega)
    refine Wl_call (r_call1 rfl Try.call18 rfl) (size_spec _ (by omega) (by omega)) ?_
    rintro v w9 ⟨rfl, hU9⟩
    have hzw9 := hU9.size
    replace hb := hb.upd0 hU9
    replace HU := HU.trans0 hU9
    replace hO1 := hO1.upd0 hU9
    replace hp2 := hp2.upd0 hU9
    replace hO5 := hO5.upd0 hU9
    replace hT7 := hT7.upd0 hU9
    refine Wl_guard_t rfl ?_
    refine Wl_v (r_mv (v := .slice a5 (0 + (vi ((gvar bs 0).1)).length) c5) rfl) ?_
    refine Wl_guard_t rfl ?_
    refine Wl_v (r_len Try.underlying22 rfl) ?_
    refine Wl_guard_t rfl ?_
    refine Wl_v (r_ne rfl rfl) ?_
    refine Wl_v (r_pick_f (v := .bool (decide ((((vi ((gvar bs 0).1)).length : Nat) : Int) ≠ ((0 + (vi ((gvar bs 0).1)).length : Nat) : Int)))) rfl rfl) ?_
    refine Wl_nil ?_
    have q9 : ¬ ((((vi ((gvar bs 0).1)).length : Nat) : Int) ≠ ((0 + (vi ((gvar bs 0).1)).length : Nat) : Int)) := (by omega)
    rw [decide_eq_false q9]
    refine W_cond_f rfl ?_
    refine W_skip ?_
    refine W_seq ?_
    refine W_seq ?_
    refine W_region ?_
    refine Wl_v (r_mv (v := .slice a5 (0 + (vi ((gvar bs 0).1)).length) c5) rfl) ?_
    refine Wl_v (r_len Try.underlying22 rfl) ?_
    refine Wl_v (r_lt rfl rfl) ?_
    refine Wl_nil ?_
    by_cases q10 : ((0 + (vi ((gvar bs 0).1)).length : Nat) : Int) < 9
    · rw [decide_eq_true q10]
      refine W_cond_t rfl ?_
      refine W_seq ?_
      refine W_region ?_
      refine Wl_v (r_mv (v := .slice a5 (0 + (vi ((gvar bs 0).1)).length) c5) rfl) ?_
      refine Wl_v (r_mv (v := .slice a5 (0 + (vi ((gvar bs 0).1)).length) c5) rfl) ?_
      refine Wl_v (r_len Try.underlying22 rfl) ?_
      refine Wl_v (r_sub rfl rfl (wi64 (by omega) (by omega))) ?_
      refine Wl_idxi Try.underlying22 Try.sizeOf5 rfl rfl hO5.sl (by omega) (by omega) ?_
      intro ib10 io10 hc10
      rw [show (((0 + (vi ((gvar bs 0).1)).length : Nat) : Int) - 1).toNat = (0 + (vi (gvar bs 0).1).length - 1) from by omega] at hc10
      refine Wl_loadc Try.isAgg5 rfl hc10 ?_
      have hgd := byt_gd (byt_app byt_nil (vi_byt (n := (gvar bs 0).1) (by omega))) (0 + (vi (gvar bs 0).1).length - 1)
      refine Wl_v (r_or rfl rfl (or128b (by omega) (by omega))) ?_
      obtain ⟨g11, rfl, hg11⟩ := hO5.addr (by omega)
      replace hg11 : ((w2.heap.size ≤ g11) ∧ g11 < w5.heap.size) := hg11
      refine Wl_idxo (i' := (0 + (vi (gvar bs 0).1).length - 1)) Try.underlying22 Try.sizeOf5 rfl rfl hO5 (by omega) (by omega) ?_
      intro hc12
      refine Wl_storeo (i := (0 + (vi (gvar bs 0).1).length - 1)) Try.sizeOf5 rfl rfl hO5 (by omega) ?_
      intro w13 hU13 hzz13 hO13
      clear hO5
      have hzw13 := hU13.size
      replace hb := hb.upd1 hU13 (by intro h1; have h3 : g11 < w.heap.size := h1; omega)
      replace HU := HU.trans1 hU13 (by show (False) ∨ w.heap.size ≤ g11; omega)
      replace hO1 := hO1.upd1 hU13 (by intro h1; have h3 : ((w.heap.size ≤ g11 ∧ g11 ≠ pb1) ∧ g11 < w1.heap.size) := h1; omega)
      replace hp2 := hp2.upd1 hU13 (by omega)
      replace hT7 := hT7.upd1 hU13 (by intro h1; have h3 : g11 < w.heap.size := h1; omega)
      have hl_hO13 := ilen hO13.sl
      have hc_hO13 := hO13.sl.cap.1
      refine Wl_nil ?_
      refine W_seq ?_
      refine W_region ?_
      refine Wl_v (r_mv (v := .slice (some ⟨g11, 0, none⟩) (0 + (vi ((gvar bs 0).1)).length) c5) rfl) ?_
      refine Wl_lit (pv := [(0, .int .u8 0)]) (cs := [.int .u8 0]) Try.underlying22 Try.sizeOf5 Try.zeroValue5 (by decide) (by decide) (by simp only [List.map_toArray, List.map_cons, List.map_nil]; rfl) (by kernel_rfl) rfl (by decide) ?_
      intro B14 w14 hB14 hU14 hzz14 hs14
      have hzw14 := hU14.size
      replace hb := hb.upd0 hU14
      replace HU := HU.trans0 hU14
      replace hO1 := hO1.upd0 hU14
      replace hp2 := hp2.upd0 hU14
      replace hT7 := hT7.upd0 hU14
      replace hO13 := hO13.upd0 hU14
      replace hs14 : Own w14 (Is B14) 5 1 (.slice (some ⟨B14, 0, none⟩) 1 1) 1 (ints .u8 [0]) := hs14
      refine Wl_appendi (xs := ([] ++ vi ((gvar bs 0).1)).set (0 + (vi (gvar bs 0).1).length - 1) ((([] ++ vi ((gvar bs 0).1)).getD (0 + (vi (gvar bs 0).1).length - 1) 0) % 128 + 128)) (ys := [0]) (zs := ([] ++ vi ((gvar bs 0).1)).set (0 + (vi (gvar bs 0).1).length - 1) ((([] ++ vi ((gvar bs 0).1)).getD (0 + (vi (gvar bs 0).1).length - 1) 0) % 128 + 128) ++ [0]) (k' := .u8) (tot := 0 + (vi ((gvar bs 0).1)).length + 1) (by first | rfl | simp) Try.underlying22 (ti := Try.t5) (z := .int .u8 0) (sz := 1) (by' := 1) rfl rfl rfl rfl rfl (by decide) rfl hO13 rfl hs14.sl  (by omega) (by simp only [maxLen]; omega) (by omega) ?_
      intro a15 c15 w15 hU15 hzz15 hO15
      clear hO13
      have hzw15 := hU15.size
      replace hb := hb.upd hU15 (by intro x h1 h2; have h3 : x < w.heap.size := h1; have h4 : ((w2.heap.size ≤ x) ∧ x < w5.heap.size) := h2; omega)
      replace HU := HU.trans hU15 (by intro x hx; have hx2 : ((w2.heap.size ≤ x) ∧ x < w5.heap.size) := hx; show (False) ∨ w.heap.size ≤ x; omega)
      replace hO1 := hO1.upd hU15 (by intro x h1 h2; have h3 : ((w.heap.size ≤ x ∧ x ≠ pb1) ∧ x < w1.heap.size) := h1; have h4 : ((w2.heap.size ≤ x) ∧ x < w5.heap.size) := h2; omega)
      replace hp2 := hp2.upd hU15 (by intro hx; have hx2 : ((w2.heap.size ≤ pb1) ∧ pb1 < w5.heap.size) := hx; omega)
      replace hT7 := hT7.upd hU15 (by intro x h1 h2; have h3 : x < w.heap.size := h1; have h4 : ((w2.heap.size ≤ x) ∧ x < w5.heap.size) := h2; omega)
      replace hs14 := hs14.upd hU15 (by intro x h1 h2; have h3 : x = B14 := h1; have h4 : ((w2.heap.size ≤ x) ∧ x < w5.heap.size) := h2; omega)
      replace hO15 := hO15.tight
      have hl_hO15 := ilen hO15.sl
      have hc_hO15 := hO15.sl.cap.1
      refine Wl_call (r_call1 rfl Try.call21 rfl) (new_spec _ hO15.sl.any (by omega)) ?_
      rintro v w16 ⟨pb16, a16, c16, rfl, hp16, hO16, hpg_16, hU16⟩
      have hzw16 := hU16.size
      replace hb := hb.upd0 hU16
      replace HU := HU.trans0 hU16
      replace hO1 := hO1.upd0 hU16
      replace hp2 := hp2.upd0 hU16
      replace hT7 := hT7.upd0 hU16
      replace hs14 := hs14.upd0 hU16
      replace hO15 := hO15.upd0 hU16
      have hbl_hp16 := hp16.lt
      replace hO16 := hO16.tight
      have hl_hO16 := ilen hO16.sl
      have hc_hO16 := hO16.sl.cap.1
      refine Wl_call (r_call1 rfl Try.call22 rfl) (cvarint_spec (p := 0) _ hp16 (hO16.sl.cur (by intro h1; have h3 : ((w15.heap.size ≤ pb16 ∧ pb16 ≠ pb16) ∧ pb16 < w16.heap.size) := h1; first | omega | simp at h3)) (byt_app (byt_set (byt_app byt_nil (vi_byt (by omega))) (by omega)) (by intro x hx; simp at hx; omega)) (by omega) (by omega)) ?_
      rintro v w17 ⟨rfl, hp17, hU17⟩
      have hzw17 := hU17.size
      replace hb := hb.upd1 hU17 (by intro h1; have h3 : pb16 < w.heap.size := h1; omega)
      replace HU := HU.trans1 hU17 (by show (False) ∨ w.heap.size ≤ pb16; omega)
      replace hO1 := hO1.upd1 hU17 (by intro h1; have h3 : ((w.heap.size ≤ pb16 ∧ pb16 ≠ pb1) ∧ pb16 < w1.heap.size) := h1; omega)
      replace hp2 := hp2.upd1 hU17 (by omega)
      replace hT7 := hT7.upd1 hU17 (by intro h1; have h3 : pb16 < w.heap.size := h1; omega)
      replace hs14 := hs14.upd1 hU17 (by intro h1; have h3 : pb16 = B14 := h1; omega)
      replace hO15 := hO15.upd1 hU17 (by intro h1; have h3 : ((((((w2.heap.size ≤ pb16) ∧ pb16 < w5.heap.size)) ∨ pb16 = w14.heap.size)) ∧ pb16 < w15.heap.size) := h1; omega)
      replace hO16 := hO16.upd1 hU17 (by intro h1; have h3 : ((w15.heap.size ≤ pb16 ∧ pb16 ≠ pb16) ∧ pb16 < w16.heap.size) := h1; omega)
      have hbl_hp17 := hp17.lt
      refine Wl_v (r_mv (v := .tuple #[.int .u64 ((gvar (([] ++ vi ((gvar bs 0).1)).set (0 + (vi (gvar bs 0).1).length - 1) ((([] ++ vi ((gvar bs 0).1)).getD (0 + (vi (gvar bs 0).1).length - 1) 0) % 128 + 128) ++ [0]) 0).1), .int .i64 ((gvar (([] ++ vi ((gvar bs 0).1)).set (0 + (vi (gvar bs 0).1).length - 1) ((([] ++ vi ((gvar bs 0).1)).getD (0 + (vi (gvar bs 0).1).length - 1) 0) % 128 + 128) ++ [0]) 0).2.2)]) rfl) ?_
      refine Wl_v (r_ext (v := .int .u64 ((gvar (([] ++ vi ((gvar bs 0).1)).set (0 + (vi (gvar bs 0).1).length - 1) ((([] ++ vi ((gvar bs 0).1)).getD (0 + (vi (gvar bs 0).1).length - 1) 0) % 128 + 128) ++ [0]) 0).1)) rfl rfl) ?_
      refine Wl_v (r_ext (v := .int .i64 ((gvar (([] ++ vi ((gvar bs 0).1)).set (0 + (vi (gvar bs 0).1).length - 1) ((([] ++ vi ((gvar bs 0).1)).getD (0 + (vi (gvar bs 0).1).length - 1) 0) % 128 + 128) ++ [0]) 0).2.2)) rfl rfl) ?_
      refine Wl_v (r_as (v := .int .u64 ((gvar (([] ++ vi ((gvar bs 0).1)).set (0 + (vi (gvar bs 0).1).length - 1) ((([] ++ vi ((gvar bs 0).1)).getD (0 + (vi (gvar bs 0).1).length - 1) 0) % 128 + 128) ++ [0]) 0).1)) rfl) ?_
      refine Wl_v (r_as (v := .int .i64 ((gvar (([] ++ vi ((gvar bs 0).1)).set (0 + (vi (gvar bs 0).1).length - 1) ((([] ++ vi ((gvar bs 0).1)).getD (0 + (vi (gvar bs 0).1).length - 1) 0) % 128 + 128) ++ [0]) 0).2.2)) rfl) ?_
      refine Wl_nil ?_
      refine W_seq ?_
      refine W_region ?_
      refine Wl_v (r_mv (v := .int .i64 ((gvar (([] ++ vi ((gvar bs 0).1)).set (0 + (vi (gvar bs 0).1).length - 1) ((([] ++ vi ((gvar bs 0).1)).getD (0 + (vi (gvar bs 0).1).length - 1) 0) % 128 + 128) ++ [0]) 0).2.2)) rfl) ?_
      refine Wl_v (r_eq rfl rfl) ?_
      refine Wl_v (r_mv (v := .bool (decide (((gvar (([] ++ vi ((gvar bs 0).1)).set (0 + (vi (gvar bs 0).1).length - 1) ((([] ++ vi ((gvar bs 0).1)).getD (0 + (vi (gvar bs 0).1).length - 1) 0) % 128 + 128) ++ [0]) 0).2.2) = 5))) rfl) ?_
      have q11 : ((gvar (([] ++ vi ((gvar bs 0).1)).set (0 + (vi (gvar bs 0).1).length - 1) ((([] ++ vi ((gvar bs 0).1)).getD (0 + (vi (gvar bs 0).1).length - 1) 0) % 128 + 128) ++ [0]) 0).2.2) = 5 := (by rw [gvar_padded (n := (gvar bs 0).1) (x := (([] : List Int) ++ vi (gvar bs 0).1).getD (0 + (vi (gvar bs 0).1).length - 1) 0 % 128 + 128) (l := (([] : List Int) ++ vi (gvar bs 0).1).set (0 + (vi (gvar bs 0).1).length - 1) ((([] : List Int) ++ vi (gvar bs 0).1).getD (0 + (vi (gvar bs 0).1).length - 1) 0 % 128 + 128) ++ [0]) (by omega) (by omega) (by omega) (by simp) (by omega)])
      rw [decide_eq_true q11]
      refine Wl_guard_t rfl ?_
      refine Wl_call (r_call0 rfl Try.call19 ) (known_spec _ ) ?_
      rintro v w18 ⟨rfl, hU18⟩
      have hzw18 := hU18.size
      replace hb := hb.upd0 hU18
      replace HU := HU.trans0 hU18
      replace hO1 := hO1.upd0 hU18
      replace hp2 := hp2.upd0 hU18
      replace hT7 := hT7.upd0 hU18
      replace hs14 := hs14.upd0 hU18
      replace hO15 := hO15.upd0 hU18
      replace hO16 := hO16.upd0 hU18
      replace hp17 := hp17.upd0 hU18
      refine Wl_v (r_pick_t (v := .bool true) rfl rfl) ?_
      refine Wl_v (r_as (v := .bool true) rfl) ?_
      refine Wl_nil ?_
      refine W_ret ?_
      refine ret_end (v := .bool true) rfl (res1 Try.results6 rfl) ?_
      exact ⟨_, rfl, rfl, HU⟩
    · rw [decide_eq_false q10]
      refine W_cond_f rfl ?_
      refine W_skip ?_
      refine W_seq ?_
      refine W_region ?_
      refine Wl_call (r_call0 rfl Try.call19 ) (known_spec _ ) ?_
      rintro v w19 ⟨rfl, hU19⟩
      have hzw19 := hU19.size
      replace hb := hb.upd0 hU19
      replace HU := HU.trans0 hU19
      replace hO1 := hO1.upd0 hU19
      replace hp2 := hp2.upd0 hU19
      replace hO5 := hO5.upd0 hU19
      replace hT7 := hT7.upd0 hU19
      refine Wl_v (r_as (v := .bool true) rfl) ?_
      refine Wl_nil ?_
      refine W_ret ?_
      refine ret_end (v := .bool true) rfl (res1 Try.results6 rfl) ?_
      exact ⟨_, rfl, rfl, HU⟩

end Go.Proofs.Ytigojafhogjnfaa
