/-
  Walks, printed by a small program of this project (gen.py).
-/
import Derived.Test.YtkgjdcjpnfjofaaYg
set_option linter.unusedVariables false
set_option linter.unusedSimpArgs false
namespace Go.Proofs.Ytkgjdcjpnfjofaa
open Go.Fw

def wL : List Int := [2, 1, 0, 2]
def wT : List (Int × Int) := [(1, 1), (1, 1), (0, 2), (3, 2)]
def wW : List Int := [0, 2, 3]
theorem w_rt : Rt wL := by decide +kernel
theorem w_ord : (ord wL).length = 3 := by decide +kernel
theorem w_bt : bt wL = 2 := by decide +kernel
theorem w_rp : ∀ i, i < 3 → ((rp wL i : Nat) : Int) = wW.getD i 0 ∧ rp wL i < 4 ∧ wT.getD (rp wL i) (0, 0) = (os wL).getD i (0, 0) := by decide +kernel
theorem tat_four {tb ec lc n : Nat} {ea la : Option Addr} : ¬ (0 ≤ (4 : Int) ∧ (4 : Int) < ((2 ^ bt wL : Nat) : Int)) := by rw [w_bt]; decide
theorem two_lt {j : Nat} (h : j < 4) : 0 ≤ ((j : Nat) : Int) ∧ ((j : Nat) : Int) < ((2 ^ bt wL : Nat) : Int) := by rw [w_bt]; omega
theorem two_nat {tb : Nat} {ea la : Option Addr} {n ec lc : Nat} {l : List Int} {j : Nat} (w : World) (hT : Blk w tb [.slice ea (2 ^ bt l) ec, .int .i64 ((bt l : Nat) : Int), .slice la n lc]) (hE : Sl w (fun g => g < w.heap.size) 2 (.slice ea (2 ^ bt l) ec) (2 ^ bt l) (rows encE (tbl l))) (hr : Rt l) (hj : 0 ≤ ((j : Nat) : Int) ∧ ((j : Nat) : Int) < ((2 ^ bt l : Nat) : Int)) : Calls Try.prog 24 #[.pointer (some ⟨tb, 0, none⟩), .int .i64 ((j : Nat) : Int)] w (Ret fun v w' => v = .tuple #[.agg #[.int .i64 ((two l j).1), .int .i64 ((two l j).2.1), .int .i64 ((two l j).2.2.1), .int .i64 ((two l j).2.2.2)], .bool true] ∧ Upd No w w') := by
  have h := two_in w hT hE hr hj
  rw [Int.toNat_natCast] at h
  exact h

set_option maxHeartbeats 4000000 in
set_option maxRecDepth 100000 in
theorem works15  (w : World)  :
    Calls Try.prog 11 #[] w (Ret fun v w' => v = .bool true ∧ Upd No w w') := by
  have HU : Upd (fun b => False) w w := Upd.refl _ _
  have hwb := w_bt
  have hwr := w_rt
  have hwp4 : 2 ^ bt wL = 4 := by rw [w_bt]
  refine calls_of_W Try.func11 rfl Try.ntmps11 (by simp) ?_
  refine W_seq ?_
  refine W_region ?_
  refine Wl_alloc (cs := [.bool false]) Try.zeroValue4 rfl ?_
  intro B1 w1 hB1 hU1 hzz1 hb1
  have hzw1 := hU1.size
  replace HU := HU.trans0 hU1
  refine Wl_nil ?_
  refine W_seq ?_
  refine W_region ?_
  refine Wl_lit (pv := [(0, .int .i64 2), (1, .int .i64 1), (2, .int .i64 0), (3, .int .i64 2)]) (cs := [.int .i64 2, .int .i64 1, .int .i64 0, .int .i64 2]) Try.underlying22 Try.sizeOf3 Try.zeroValue3 (by decide) (by decide) (by simp only [List.map_toArray, List.map_cons, List.map_nil] <;> rfl) (by kernel_rfl) rfl (by decide) ?_
  intro B2 w2 hB2 hU2 hzz2 hs2
  have hzw2 := hU2.size
  replace HU := HU.trans0 hU2
  replace hb1 := hb1.upd0 hU2
  replace hs2 : Own w2 (Is B2) 3 1 (.slice (some ⟨B2, 0, none⟩) 4 4) 4 (ints .i64 [2, 1, 0, 2]) := hs2
  replace hs2 := hs2.icong (show _ = wL from rfl)
  refine Wl_v (r_as (v := .slice (some ⟨B2, 0, none⟩) 4 4) rfl) ?_
  refine Wl_nil ?_
  refine W_seq ?_
  refine W_region ?_
  refine Wl_v (r_build (pl := #[(0, 1), (1, 1)]) (pv := [(0, .int .i64 1), (1, .int .i64 1)]) (cs := #[.int .i64 1, .int .i64 1]) Try.zeroValue38 Try.underlying38 (fun w => by kernel_rfl) (by simp only [List.map_toArray, List.map_cons, List.map_nil] <;> rfl) (by kernel_rfl)) ?_
  refine Wl_v (r_build (pl := #[(0, 1), (1, 1)]) (pv := [(0, .int .i64 1), (1, .int .i64 1)]) (cs := #[.int .i64 1, .int .i64 1]) Try.zeroValue38 Try.underlying38 (fun w => by kernel_rfl) (by simp only [List.map_toArray, List.map_cons, List.map_nil] <;> rfl) (by kernel_rfl)) ?_
  refine Wl_v (r_build (pl := #[(0, 1), (1, 1)]) (pv := [(1, .int .i64 2)]) (cs := #[.int .i64 0, .int .i64 2]) Try.zeroValue38 Try.underlying38 (fun w => by kernel_rfl) (by simp only [List.map_toArray, List.map_cons, List.map_nil] <;> rfl) (by kernel_rfl)) ?_
  refine Wl_v (r_build (pl := #[(0, 1), (1, 1)]) (pv := [(0, .int .i64 3), (1, .int .i64 2)]) (cs := #[.int .i64 3, .int .i64 2]) Try.zeroValue38 Try.underlying38 (fun w => by kernel_rfl) (by simp only [List.map_toArray, List.map_cons, List.map_nil] <;> rfl) (by kernel_rfl)) ?_
  refine Wl_lit (pv := [(0, .agg #[.int .i64 1, .int .i64 1]), (1, .agg #[.int .i64 1, .int .i64 1]), (2, .agg #[.int .i64 0, .int .i64 2]), (3, .agg #[.int .i64 3, .int .i64 2])]) (cs := [.int .i64 1, .int .i64 1, .int .i64 1, .int .i64 1, .int .i64 0, .int .i64 2, .int .i64 3, .int .i64 2]) Try.underlying24 Try.sizeOf38 Try.zeroValue38 (by decide) (by decide) (by simp only [List.map_toArray, List.map_cons, List.map_nil] <;> rfl) (by kernel_rfl) rfl (by decide) ?_
  intro B3 w3 hB3 hU3 hzz3 hs3
  have hzw3 := hU3.size
  replace HU := HU.trans0 hU3
  replace hb1 := hb1.upd0 hU3
  replace hs2 := hs2.upd0 hU3
  replace hs3 : Own w3 (Is B3) 38 2 (.slice (some ⟨B3, 0, none⟩) 4 4) 4 (rows encE [(1, 1), (1, 1), (0, 2), (3, 2)]) := hs3
  refine Wl_alloc (cs := [.slice none 0 0]) Try.zeroValue24 rfl ?_
  intro B4 w4 hB4 hU4 hzz4 hb4
  have hzw4 := hU4.size
  replace HU := HU.trans0 hU4
  replace hb1 := hb1.upd0 hU4
  replace hs2 := hs2.upd0 hU4
  replace hs3 := hs3.upd0 hU4
  replace hs3 := hs3.rcong (show _ = wT from rfl)
  refine Wl_store (v := .slice (some ⟨B3, 0, none⟩) 4 4) (cs' := [.slice (some ⟨B3, 0, none⟩) 4 4]) Try.sizeOf24 rfl rfl rfl rfl hb4 rfl rfl ?_
  intro w5 hU5 hzz5 hb4n
  replace hb4 := hb4n; clear hb4n
  have hzw5 := hU5.size
  replace HU := HU.trans1 hU5 (by show (False) ∨ w.heap.size ≤ B4; omega)
  replace hb1 := hb1.upd1 hU5 (by omega)
  replace hs2 := hs2.upd1 hU5 (by intro h1; have h3 : B4 = B2 := h1; omega)
  replace hs3 := hs3.upd1 hU5 (by intro h1; have h3 : B4 = B3 := h1; omega)
  refine Wl_nil ?_
  refine W_seq ?_
  refine W_region ?_
  refine Wl_v (r_mv (v := .slice (some ⟨B2, 0, none⟩) 4 4) rfl) ?_
  have q1 : Rt wL := w_rt
  refine Wl_call (r_call1 rfl Try.call12 rfl) (entries_ok _ hs2.sl (by omega) q1) ?_
  rintro v w6 ⟨a6, c6, rfl, hO6, hU6⟩
  have hzw6 := hU6.size
  replace HU := HU.trans0 hU6
  replace hb1 := hb1.upd0 hU6
  replace hs2 := hs2.upd0 hU6
  replace hs3 := hs3.upd0 hU6
  replace hb4 := hb4.upd0 hU6
  replace hO6 := hO6.tight
  have hl_hO6 := rlen encE_len (by decide) hO6.sl
  have hc_hO6 := hO6.sl.cap.1
  refine Wl_v (r_mv (v := .tuple #[.slice a6 (2 ^ bt wL) c6, .int .i64 0]) rfl) ?_
  refine Wl_v (r_ext (v := .slice a6 (2 ^ bt wL) c6) rfl rfl) ?_
  refine Wl_v (r_ext (v := .int .i64 0) rfl rfl) ?_
  refine Wl_v (r_as (v := .slice a6 (2 ^ bt wL) c6) rfl) ?_
  refine Wl_v (r_as (v := .int .i64 0) rfl) ?_
  refine Wl_nil ?_
  refine W_seq ?_
  refine W_region ?_
  refine Wl_v (r_mv (v := .slice (some ⟨B2, 0, none⟩) 4 4) rfl) ?_
  have q2 : Rt wL := w_rt
  refine Wl_call (r_call1 rfl Try.call17 rfl) (new_ok _ hs2.sl (by omega) q2) ?_
  rintro v w7 ⟨tb7, ea7, ec7, la7, lc7, rfl, hT7, hE7, hL7, htg_7, hU7⟩
  have hzw7 := hU7.size
  replace HU := HU.trans0 hU7
  replace hb1 := hb1.upd0 hU7
  replace hs2 := hs2.upd0 hU7
  replace hs3 := hs3.upd0 hU7
  replace hb4 := hb4.upd0 hU7
  replace hO6 := hO6.upd0 hU7
  have hbl_hT7 := hT7.lt
  replace hE7 := hE7.tight
  have hl_hE7 := rlen encE_len (by decide) hE7.sl
  have hc_hE7 := hE7.sl.cap.1
  replace hL7 := hL7.tight
  have hl_hL7 := ilen hL7.sl
  have hc_hL7 := hL7.sl.cap.1
  refine Wl_v (r_mv (v := .tuple #[.pointer (some ⟨tb7, 0, none⟩), .int .i64 0]) rfl) ?_
  refine Wl_v (r_ext (v := .pointer (some ⟨tb7, 0, none⟩)) rfl rfl) ?_
  refine Wl_v (r_ext (v := .int .i64 0) rfl rfl) ?_
  refine Wl_v (r_as (v := .pointer (some ⟨tb7, 0, none⟩)) rfl) ?_
  refine Wl_v (r_as (v := .int .i64 0) rfl) ?_
  refine Wl_nil ?_
  refine W_seq ?_
  refine W_region ?_
  refine Wl_v (r_mv (v := .pointer (some ⟨tb7, 0, none⟩)) rfl) ?_
  refine Wl_call (r_call2 rfl Try.call18 rfl rfl) (tat_out _ hT7 hE7.sl.any (by omega) (by rw [w_bt]; decide)) ?_
  rintro v w8 ⟨rfl, hU8⟩
  have hzw8 := hU8.size
  replace HU := HU.trans0 hU8
  replace hb1 := hb1.upd0 hU8
  replace hs2 := hs2.upd0 hU8
  replace hs3 := hs3.upd0 hU8
  replace hb4 := hb4.upd0 hU8
  replace hO6 := hO6.upd0 hU8
  replace hT7 := hT7.upd0 hU8
  replace hE7 := hE7.upd0 hU8
  replace hL7 := hL7.upd0 hU8
  refine Wl_v (r_mv (v := .tuple #[.agg #[.int .i64 0, .int .i64 0], .bool false]) rfl) ?_
  refine Wl_v (r_ext (v := .agg #[.int .i64 0, .int .i64 0]) rfl rfl) ?_
  refine Wl_v (r_ext (v := .bool false) rfl rfl) ?_
  refine Wl_alloc (cs := [.int .i64 0, .int .i64 0]) Try.zeroValue38 rfl ?_
  intro B9 w9 hB9 hU9 hzz9 hb9
  have hzw9 := hU9.size
  replace HU := HU.trans0 hU9
  replace hb1 := hb1.upd0 hU9
  replace hs2 := hs2.upd0 hU9
  replace hs3 := hs3.upd0 hU9
  replace hb4 := hb4.upd0 hU9
  replace hO6 := hO6.upd0 hU9
  replace hT7 := hT7.upd0 hU9
  replace hE7 := hE7.upd0 hU9
  replace hL7 := hL7.upd0 hU9
  refine Wl_storea (off := 0) (vs := [.int .i64 0, .int .i64 0]) (cs' := [.int .i64 0, .int .i64 0]) Try.sizeOf38 rfl rfl rfl (by simp only [List.mem_cons, List.not_mem_nil, or_false, forall_eq_or_imp, forall_eq]; exact ⟨rfl, rfl⟩) hb9 (by simp) rfl ?_
  intro w10 hU10 hzz10 hb9n
  replace hb9 := hb9n; clear hb9n
  have hzw10 := hU10.size
  replace HU := HU.trans1 hU10 (by show (False) ∨ w.heap.size ≤ B9; omega)
  replace hb1 := hb1.upd1 hU10 (by omega)
  replace hs2 := hs2.upd1 hU10 (by intro h1; have h3 : B9 = B2 := h1; omega)
  replace hs3 := hs3.upd1 hU10 (by intro h1; have h3 : B9 = B3 := h1; omega)
  replace hb4 := hb4.upd1 hU10 (by omega)
  replace hO6 := hO6.upd1 hU10 (by intro h1; have h3 : ((w5.heap.size ≤ B9) ∧ B9 < w6.heap.size) := h1; omega)
  replace hT7 := hT7.upd1 hU10 (by omega)
  replace hE7 := hE7.upd1 hU10 (by intro h1; have h3 : ((w6.heap.size ≤ B9 ∧ B9 ≠ tb7) ∧ B9 < w7.heap.size) := h1; omega)
  replace hL7 := hL7.upd1 hU10 (by intro h1; have h3 : ((w6.heap.size ≤ B9 ∧ B9 ≠ tb7) ∧ B9 < w7.heap.size) := h1; omega)
  refine Wl_v (r_as (v := .bool false) rfl) ?_
  refine Wl_nil ?_
  refine W_seq ?_
  refine W_seq ?_
  refine W_region ?_
  refine Wl_v (r_mv (v := .slice a6 (2 ^ bt wL) c6) rfl) ?_
  refine Wl_load (v := .slice (some ⟨B3, 0, none⟩) 4 4) Try.isAgg24 rfl hb4 rfl ?_
  refine Wl_call (r_call2 rfl Try.call14 rfl rfl) (entries_eq _ hO6.sl hs3.sl (by omega)) ?_
  rintro v w11 ⟨rfl, hU11⟩
  have hzw11 := hU11.size
  replace HU := HU.trans0 hU11
  replace hb1 := hb1.upd0 hU11
  replace hs2 := hs2.upd0 hU11
  replace hs3 := hs3.upd0 hU11
  replace hb4 := hb4.upd0 hU11
  replace hO6 := hO6.upd0 hU11
  replace hT7 := hT7.upd0 hU11
  replace hE7 := hE7.upd0 hU11
  replace hL7 := hL7.upd0 hU11
  replace hb9 := hb9.upd0 hU11
  refine Wl_v (r_not rfl) ?_
  refine Wl_v (r_mv (v := .bool (!decide ((tbl wL) = wT))) rfl) ?_
  have q3 : (tbl wL) = wT := (by decide +kernel)
  rw [decide_eq_true q3]
  simp only [Bool.not_true, Bool.not_false]
  refine Wl_guard_t rfl ?_
  refine Wl_v (r_mv (v := .int .i64 0) rfl) ?_
  refine Wl_guard_t rfl ?_
  refine Wl_call (r_call1 rfl Try.call15 rfl) (num15 _ ) ?_
  rintro v w12 ⟨rfl, hU12⟩
  have hzw12 := hU12.size
  replace HU := HU.trans0 hU12
  replace hb1 := hb1.upd0 hU12
  replace hs2 := hs2.upd0 hU12
  replace hs3 := hs3.upd0 hU12
  replace hb4 := hb4.upd0 hU12
  replace hO6 := hO6.upd0 hU12
  replace hT7 := hT7.upd0 hU12
  replace hE7 := hE7.upd0 hU12
  replace hL7 := hL7.upd0 hU12
  replace hb9 := hb9.upd0 hU12
  refine Wl_guard_t rfl ?_
  refine Wl_v (r_mv (v := .int .i64 0) rfl) ?_
  refine Wl_guard_t rfl ?_
  refine Wl_call (r_call1 rfl Try.call15 rfl) (num15 _ ) ?_
  rintro v w13 ⟨rfl, hU13⟩
  have hzw13 := hU13.size
  replace HU := HU.trans0 hU13
  replace hb1 := hb1.upd0 hU13
  replace hs2 := hs2.upd0 hU13
  replace hs3 := hs3.upd0 hU13
  replace hb4 := hb4.upd0 hU13
  replace hO6 := hO6.upd0 hU13
  replace hT7 := hT7.upd0 hU13
  replace hE7 := hE7.upd0 hU13
  replace hL7 := hL7.upd0 hU13
  replace hb9 := hb9.upd0 hU13
  refine Wl_guard_t rfl ?_
  refine Wl_v (r_add rfl rfl (show IntKind.i64.wrap (0 + 0) = 0 by decide)) ?_
  refine Wl_guard_t rfl ?_
  refine Wl_v (v := .bool false) (r_ne (a := 0) (b := 0) rfl rfl) ?_
  refine Wl_v (r_pick_f (v := .bool false) rfl rfl) ?_
  refine Wl_v (r_mv (v := .bool false) rfl) ?_
  refine Wl_guard_t rfl ?_
  refine Wl_v (r_mv (v := .pointer (some ⟨tb7, 0, none⟩)) rfl) ?_
  refine Wl_guard_t rfl ?_
  refine Wl_call (r_call1 rfl Try.call20 rfl) (bits_ok _ hT7 (by omega)) ?_
  rintro v w14 ⟨rfl, hU14⟩
  have hzw14 := hU14.size
  replace HU := HU.trans0 hU14
  replace hb1 := hb1.upd0 hU14
  replace hs2 := hs2.upd0 hU14
  replace hs3 := hs3.upd0 hU14
  replace hb4 := hb4.upd0 hU14
  replace hO6 := hO6.upd0 hU14
  replace hT7 := hT7.upd0 hU14
  replace hE7 := hE7.upd0 hU14
  replace hL7 := hL7.upd0 hU14
  replace hb9 := hb9.upd0 hU14
  refine Wl_guard_t rfl ?_
  refine Wl_v (r_ne rfl rfl) ?_
  refine Wl_v (r_pick_f (v := .bool (decide (((bt wL : Nat) : Int) ≠ 2))) rfl rfl) ?_
  refine Wl_v (r_mv (v := .bool (decide (((bt wL : Nat) : Int) ≠ 2))) rfl) ?_
  have q4 : ¬ (((bt wL : Nat) : Int) ≠ 2) := (by decide +kernel)
  rw [decide_eq_false q4]
  refine Wl_guard_t rfl ?_
  refine Wl_v (r_mv (v := .bool false) rfl) ?_
  refine Wl_v (r_pick_f (v := .bool false) rfl rfl) ?_
  refine Wl_v (r_mv (v := .bool false) rfl) ?_
  refine Wl_guard_t rfl ?_
  refine Wl_v (r_mv (v := .pointer (some ⟨tb7, 0, none⟩)) rfl) ?_
  refine Wl_guard_t rfl ?_
  refine Wl_call (r_call1 rfl Try.call30 rfl) (lens_ok _ hT7 hL7.sl.any (by omega)) ?_
  rintro v w15 ⟨a15, c15, rfl, hO15, hU15⟩
  have hzw15 := hU15.size
  replace HU := HU.trans0 hU15
  replace hb1 := hb1.upd0 hU15
  replace hs2 := hs2.upd0 hU15
  replace hs3 := hs3.upd0 hU15
  replace hb4 := hb4.upd0 hU15
  replace hO6 := hO6.upd0 hU15
  replace hT7 := hT7.upd0 hU15
  replace hE7 := hE7.upd0 hU15
  replace hL7 := hL7.upd0 hU15
  replace hb9 := hb9.upd0 hU15
  replace hO15 := hO15.tight
  have hl_hO15 := ilen hO15.sl
  have hc_hO15 := hO15.sl.cap.1
  refine Wl_guard_t rfl ?_
  refine Wl_v (r_mv (v := .slice (some ⟨B2, 0, none⟩) 4 4) rfl) ?_
  refine Wl_guard_t rfl ?_
  refine Wl_call (r_call2 rfl Try.call16 rfl rfl) (same15 _ hO15.sl hs2.sl (by omega)) ?_
  rintro v w16 ⟨rfl, hU16⟩
  have hzw16 := hU16.size
  replace HU := HU.trans0 hU16
  replace hb1 := hb1.upd0 hU16
  replace hs2 := hs2.upd0 hU16
  replace hs3 := hs3.upd0 hU16
  replace hb4 := hb4.upd0 hU16
  replace hO6 := hO6.upd0 hU16
  replace hT7 := hT7.upd0 hU16
  replace hE7 := hE7.upd0 hU16
  replace hL7 := hL7.upd0 hU16
  replace hb9 := hb9.upd0 hU16
  replace hO15 := hO15.upd0 hU16
  refine Wl_guard_t rfl ?_
  refine Wl_v (r_not rfl) ?_
  refine Wl_v (r_pick_f (v := .bool (!decide (wL = wL))) rfl rfl) ?_
  refine Wl_nil ?_
  have q5 : wL = wL := (by decide +kernel)
  rw [decide_eq_true q5]
  simp only [Bool.not_true, Bool.not_false]
  refine W_cond_f rfl ?_
  refine W_skip ?_
  refine W_seq ?_
  refine W_region ?_
  refine Wl_v (r_mv (v := .pointer (some ⟨tb7, 0, none⟩)) rfl) ?_
  refine Wl_call (r_call3 rfl Try.call22 rfl rfl rfl) (tdec _ hT7 hE7.sl.any (by omega) (by omega) (by omega)) ?_
  rintro v w17 ⟨rfl, hU17⟩
  have hzw17 := hU17.size
  replace HU := HU.trans0 hU17
  replace hb1 := hb1.upd0 hU17
  replace hs2 := hs2.upd0 hU17
  replace hs3 := hs3.upd0 hU17
  replace hb4 := hb4.upd0 hU17
  replace hO6 := hO6.upd0 hU17
  replace hT7 := hT7.upd0 hU17
  replace hE7 := hE7.upd0 hU17
  replace hL7 := hL7.upd0 hU17
  replace hb9 := hb9.upd0 hU17
  replace hO15 := hO15.upd0 hU17
  refine Wl_v (r_mv (v := .tuple #[.int .i64 ((dec wL 13 4).1), .int .i64 ((dec wL 13 4).2.1), .int .i64 ((dec wL 13 4).2.2)]) rfl) ?_
  refine Wl_v (r_ext (v := .int .i64 ((dec wL 13 4).1)) rfl rfl) ?_
  refine Wl_v (r_ext (v := .int .i64 ((dec wL 13 4).2.1)) rfl rfl) ?_
  refine Wl_v (r_ext (v := .int .i64 ((dec wL 13 4).2.2)) rfl rfl) ?_
  refine Wl_v (r_as (v := .int .i64 ((dec wL 13 4).1)) rfl) ?_
  refine Wl_v (r_as (v := .int .i64 ((dec wL 13 4).2.1)) rfl) ?_
  refine Wl_v (r_as (v := .int .i64 ((dec wL 13 4).2.2)) rfl) ?_
  refine Wl_nil ?_
  refine W_seq ?_
  refine W_region ?_
  refine Wl_v (r_mv (v := .pointer (some ⟨tb7, 0, none⟩)) rfl) ?_
  refine Wl_call (r_call3 rfl Try.call22 rfl rfl rfl) (tdec _ hT7 hE7.sl.any (by omega) (by omega) (by omega)) ?_
  rintro v w18 ⟨rfl, hU18⟩
  have hzw18 := hU18.size
  replace HU := HU.trans0 hU18
  replace hb1 := hb1.upd0 hU18
  replace hs2 := hs2.upd0 hU18
  replace hs3 := hs3.upd0 hU18
  replace hb4 := hb4.upd0 hU18
  replace hO6 := hO6.upd0 hU18
  replace hT7 := hT7.upd0 hU18
  replace hE7 := hE7.upd0 hU18
  replace hL7 := hL7.upd0 hU18
  replace hb9 := hb9.upd0 hU18
  replace hO15 := hO15.upd0 hU18
  refine Wl_v (r_mv (v := .tuple #[.int .i64 ((dec wL 1 1).1), .int .i64 ((dec wL 1 1).2.1), .int .i64 ((dec wL 1 1).2.2)]) rfl) ?_
  refine Wl_v (r_ext (v := .int .i64 ((dec wL 1 1).1)) rfl rfl) ?_
  refine Wl_v (r_ext (v := .int .i64 ((dec wL 1 1).2.1)) rfl rfl) ?_
  refine Wl_v (r_ext (v := .int .i64 ((dec wL 1 1).2.2)) rfl rfl) ?_
  refine Wl_v (r_as (v := .int .i64 ((dec wL 1 1).1)) rfl) ?_
  refine Wl_v (r_as (v := .int .i64 ((dec wL 1 1).2.1)) rfl) ?_
  refine Wl_v (r_as (v := .int .i64 ((dec wL 1 1).2.2)) rfl) ?_
  refine Wl_nil ?_
  refine W_seq ?_
  refine W_region ?_
  refine Wl_v (r_mv (v := .pointer (some ⟨tb7, 0, none⟩)) rfl) ?_
  refine Wl_call (r_call2 rfl Try.call24 rfl rfl) (two_nat (j := 0) _ hT7 hE7.sl.any (by omega) (two_lt (by decide))) ?_
  rintro v w19 ⟨rfl, hU19⟩
  have hzw19 := hU19.size
  replace HU := HU.trans0 hU19
  replace hb1 := hb1.upd0 hU19
  replace hs2 := hs2.upd0 hU19
  replace hs3 := hs3.upd0 hU19
  replace hb4 := hb4.upd0 hU19
  replace hO6 := hO6.upd0 hU19
  replace hT7 := hT7.upd0 hU19
  replace hE7 := hE7.upd0 hU19
  replace hL7 := hL7.upd0 hU19
  replace hb9 := hb9.upd0 hU19
  replace hO15 := hO15.upd0 hU19
  refine Wl_v (r_mv (v := .tuple #[.agg #[.int .i64 ((two wL 0).1), .int .i64 ((two wL 0).2.1), .int .i64 ((two wL 0).2.2.1), .int .i64 ((two wL 0).2.2.2)], .bool true]) rfl) ?_
  refine Wl_v (r_ext (v := .agg #[.int .i64 ((two wL 0).1), .int .i64 ((two wL 0).2.1), .int .i64 ((two wL 0).2.2.1), .int .i64 ((two wL 0).2.2.2)]) rfl rfl) ?_
  refine Wl_v (r_ext (v := .bool true) rfl rfl) ?_
  refine Wl_alloc (cs := [.int .i64 0, .int .i64 0, .int .i64 0, .int .i64 0]) Try.zeroValue52 rfl ?_
  intro B20 w20 hB20 hU20 hzz20 hb20
  have hzw20 := hU20.size
  replace HU := HU.trans0 hU20
  replace hb1 := hb1.upd0 hU20
  replace hs2 := hs2.upd0 hU20
  replace hs3 := hs3.upd0 hU20
  replace hb4 := hb4.upd0 hU20
  replace hO6 := hO6.upd0 hU20
  replace hT7 := hT7.upd0 hU20
  replace hE7 := hE7.upd0 hU20
  replace hL7 := hL7.upd0 hU20
  replace hb9 := hb9.upd0 hU20
  replace hO15 := hO15.upd0 hU20
  refine Wl_storea (off := 0) (vs := [.int .i64 ((two wL 0).1), .int .i64 ((two wL 0).2.1), .int .i64 ((two wL 0).2.2.1), .int .i64 ((two wL 0).2.2.2)]) (cs' := [.int .i64 ((two wL 0).1), .int .i64 ((two wL 0).2.1), .int .i64 ((two wL 0).2.2.1), .int .i64 ((two wL 0).2.2.2)]) Try.sizeOf52 rfl rfl rfl (by simp only [List.mem_cons, List.not_mem_nil, or_false, forall_eq_or_imp, forall_eq]; exact ⟨rfl, rfl, rfl, rfl⟩) hb20 (by simp) rfl ?_
  intro w21 hU21 hzz21 hb20n
  replace hb20 := hb20n; clear hb20n
  have hzw21 := hU21.size
  replace HU := HU.trans1 hU21 (by show (False) ∨ w.heap.size ≤ B20; omega)
  replace hb1 := hb1.upd1 hU21 (by omega)
  replace hs2 := hs2.upd1 hU21 (by intro h1; have h3 : B20 = B2 := h1; omega)
  replace hs3 := hs3.upd1 hU21 (by intro h1; have h3 : B20 = B3 := h1; omega)
  replace hb4 := hb4.upd1 hU21 (by omega)
  replace hO6 := hO6.upd1 hU21 (by intro h1; have h3 : ((w5.heap.size ≤ B20) ∧ B20 < w6.heap.size) := h1; omega)
  replace hT7 := hT7.upd1 hU21 (by omega)
  replace hE7 := hE7.upd1 hU21 (by intro h1; have h3 : ((w6.heap.size ≤ B20 ∧ B20 ≠ tb7) ∧ B20 < w7.heap.size) := h1; omega)
  replace hL7 := hL7.upd1 hU21 (by intro h1; have h3 : ((w6.heap.size ≤ B20 ∧ B20 ≠ tb7) ∧ B20 < w7.heap.size) := h1; omega)
  replace hb9 := hb9.upd1 hU21 (by omega)
  replace hO15 := hO15.upd1 hU21 (by intro h1; have h3 : ((w14.heap.size ≤ B20) ∧ B20 < w15.heap.size) := h1; omega)
  refine Wl_v (r_as (v := .bool true) rfl) ?_
  refine Wl_nil ?_
  refine W_seq ?_
  refine W_region ?_
  refine Wl_v (r_mv (v := .pointer (some ⟨tb7, 0, none⟩)) rfl) ?_
  refine Wl_call (r_call2 rfl Try.call24 rfl rfl) (two_nat (j := 2) _ hT7 hE7.sl.any (by omega) (two_lt (by decide))) ?_
  rintro v w22 ⟨rfl, hU22⟩
  have hzw22 := hU22.size
  replace HU := HU.trans0 hU22
  replace hb1 := hb1.upd0 hU22
  replace hs2 := hs2.upd0 hU22
  replace hs3 := hs3.upd0 hU22
  replace hb4 := hb4.upd0 hU22
  replace hO6 := hO6.upd0 hU22
  replace hT7 := hT7.upd0 hU22
  replace hE7 := hE7.upd0 hU22
  replace hL7 := hL7.upd0 hU22
  replace hb9 := hb9.upd0 hU22
  replace hO15 := hO15.upd0 hU22
  replace hb20 := hb20.upd0 hU22
  refine Wl_v (r_mv (v := .tuple #[.agg #[.int .i64 ((two wL 2).1), .int .i64 ((two wL 2).2.1), .int .i64 ((two wL 2).2.2.1), .int .i64 ((two wL 2).2.2.2)], .bool true]) rfl) ?_
  refine Wl_v (r_ext (v := .agg #[.int .i64 ((two wL 2).1), .int .i64 ((two wL 2).2.1), .int .i64 ((two wL 2).2.2.1), .int .i64 ((two wL 2).2.2.2)]) rfl rfl) ?_
  refine Wl_v (r_ext (v := .bool true) rfl rfl) ?_
  refine Wl_alloc (cs := [.int .i64 0, .int .i64 0, .int .i64 0, .int .i64 0]) Try.zeroValue52 rfl ?_
  intro B23 w23 hB23 hU23 hzz23 hb23
  have hzw23 := hU23.size
  replace HU := HU.trans0 hU23
  replace hb1 := hb1.upd0 hU23
  replace hs2 := hs2.upd0 hU23
  replace hs3 := hs3.upd0 hU23
  replace hb4 := hb4.upd0 hU23
  replace hO6 := hO6.upd0 hU23
  replace hT7 := hT7.upd0 hU23
  replace hE7 := hE7.upd0 hU23
  replace hL7 := hL7.upd0 hU23
  replace hb9 := hb9.upd0 hU23
  replace hO15 := hO15.upd0 hU23
  replace hb20 := hb20.upd0 hU23
  refine Wl_storea (off := 0) (vs := [.int .i64 ((two wL 2).1), .int .i64 ((two wL 2).2.1), .int .i64 ((two wL 2).2.2.1), .int .i64 ((two wL 2).2.2.2)]) (cs' := [.int .i64 ((two wL 2).1), .int .i64 ((two wL 2).2.1), .int .i64 ((two wL 2).2.2.1), .int .i64 ((two wL 2).2.2.2)]) Try.sizeOf52 rfl rfl rfl (by simp only [List.mem_cons, List.not_mem_nil, or_false, forall_eq_or_imp, forall_eq]; exact ⟨rfl, rfl, rfl, rfl⟩) hb23 (by simp) rfl ?_
  intro w24 hU24 hzz24 hb23n
  replace hb23 := hb23n; clear hb23n
  have hzw24 := hU24.size
  replace HU := HU.trans1 hU24 (by show (False) ∨ w.heap.size ≤ B23; omega)
  replace hb1 := hb1.upd1 hU24 (by omega)
  replace hs2 := hs2.upd1 hU24 (by intro h1; have h3 : B23 = B2 := h1; omega)
  replace hs3 := hs3.upd1 hU24 (by intro h1; have h3 : B23 = B3 := h1; omega)
  replace hb4 := hb4.upd1 hU24 (by omega)
  replace hO6 := hO6.upd1 hU24 (by intro h1; have h3 : ((w5.heap.size ≤ B23) ∧ B23 < w6.heap.size) := h1; omega)
  replace hT7 := hT7.upd1 hU24 (by omega)
  replace hE7 := hE7.upd1 hU24 (by intro h1; have h3 : ((w6.heap.size ≤ B23 ∧ B23 ≠ tb7) ∧ B23 < w7.heap.size) := h1; omega)
  replace hL7 := hL7.upd1 hU24 (by intro h1; have h3 : ((w6.heap.size ≤ B23 ∧ B23 ≠ tb7) ∧ B23 < w7.heap.size) := h1; omega)
  replace hb9 := hb9.upd1 hU24 (by omega)
  replace hO15 := hO15.upd1 hU24 (by intro h1; have h3 : ((w14.heap.size ≤ B23) ∧ B23 < w15.heap.size) := h1; omega)
  replace hb20 := hb20.upd1 hU24 (by omega)
  refine Wl_v (r_as (v := .bool true) rfl) ?_
  refine Wl_nil ?_
  refine W_seq ?_
  refine W_region ?_
  refine Wl_v (r_mv (v := .pointer (some ⟨tb7, 0, none⟩)) rfl) ?_
  refine Wl_call (r_call2 rfl Try.call24 rfl rfl) (two_nat (j := 1) _ hT7 hE7.sl.any (by omega) (two_lt (by decide))) ?_
  rintro v w25 ⟨rfl, hU25⟩
  have hzw25 := hU25.size
  replace HU := HU.trans0 hU25
  replace hb1 := hb1.upd0 hU25
  replace hs2 := hs2.upd0 hU25
  replace hs3 := hs3.upd0 hU25
  replace hb4 := hb4.upd0 hU25
  replace hO6 := hO6.upd0 hU25
  replace hT7 := hT7.upd0 hU25
  replace hE7 := hE7.upd0 hU25
  replace hL7 := hL7.upd0 hU25
  replace hb9 := hb9.upd0 hU25
  replace hO15 := hO15.upd0 hU25
  replace hb20 := hb20.upd0 hU25
  replace hb23 := hb23.upd0 hU25
  refine Wl_v (r_mv (v := .tuple #[.agg #[.int .i64 ((two wL 1).1), .int .i64 ((two wL 1).2.1), .int .i64 ((two wL 1).2.2.1), .int .i64 ((two wL 1).2.2.2)], .bool true]) rfl) ?_
  refine Wl_v (r_ext (v := .agg #[.int .i64 ((two wL 1).1), .int .i64 ((two wL 1).2.1), .int .i64 ((two wL 1).2.2.1), .int .i64 ((two wL 1).2.2.2)]) rfl rfl) ?_
  refine Wl_v (r_ext (v := .bool true) rfl rfl) ?_
  refine Wl_alloc (cs := [.int .i64 0, .int .i64 0, .int .i64 0, .int .i64 0]) Try.zeroValue52 rfl ?_
  intro B26 w26 hB26 hU26 hzz26 hb26
  have hzw26 := hU26.size
  replace HU := HU.trans0 hU26
  replace hb1 := hb1.upd0 hU26
  replace hs2 := hs2.upd0 hU26
  replace hs3 := hs3.upd0 hU26
  replace hb4 := hb4.upd0 hU26
  replace hO6 := hO6.upd0 hU26
  replace hT7 := hT7.upd0 hU26
  replace hE7 := hE7.upd0 hU26
  replace hL7 := hL7.upd0 hU26
  replace hb9 := hb9.upd0 hU26
  replace hO15 := hO15.upd0 hU26
  replace hb20 := hb20.upd0 hU26
  replace hb23 := hb23.upd0 hU26
  refine Wl_storea (off := 0) (vs := [.int .i64 ((two wL 1).1), .int .i64 ((two wL 1).2.1), .int .i64 ((two wL 1).2.2.1), .int .i64 ((two wL 1).2.2.2)]) (cs' := [.int .i64 ((two wL 1).1), .int .i64 ((two wL 1).2.1), .int .i64 ((two wL 1).2.2.1), .int .i64 ((two wL 1).2.2.2)]) Try.sizeOf52 rfl rfl rfl (by simp only [List.mem_cons, List.not_mem_nil, or_false, forall_eq_or_imp, forall_eq]; exact ⟨rfl, rfl, rfl, rfl⟩) hb26 (by simp) rfl ?_
  intro w27 hU27 hzz27 hb26n
  replace hb26 := hb26n; clear hb26n
  have hzw27 := hU27.size
  replace HU := HU.trans1 hU27 (by show (False) ∨ w.heap.size ≤ B26; omega)
  replace hb1 := hb1.upd1 hU27 (by omega)
  replace hs2 := hs2.upd1 hU27 (by intro h1; have h3 : B26 = B2 := h1; omega)
  replace hs3 := hs3.upd1 hU27 (by intro h1; have h3 : B26 = B3 := h1; omega)
  replace hb4 := hb4.upd1 hU27 (by omega)
  replace hO6 := hO6.upd1 hU27 (by intro h1; have h3 : ((w5.heap.size ≤ B26) ∧ B26 < w6.heap.size) := h1; omega)
  replace hT7 := hT7.upd1 hU27 (by omega)
  replace hE7 := hE7.upd1 hU27 (by intro h1; have h3 : ((w6.heap.size ≤ B26 ∧ B26 ≠ tb7) ∧ B26 < w7.heap.size) := h1; omega)
  replace hL7 := hL7.upd1 hU27 (by intro h1; have h3 : ((w6.heap.size ≤ B26 ∧ B26 ≠ tb7) ∧ B26 < w7.heap.size) := h1; omega)
  replace hb9 := hb9.upd1 hU27 (by omega)
  replace hO15 := hO15.upd1 hU27 (by intro h1; have h3 : ((w14.heap.size ≤ B26) ∧ B26 < w15.heap.size) := h1; omega)
  replace hb20 := hb20.upd1 hU27 (by omega)
  replace hb23 := hb23.upd1 hU27 (by omega)
  refine Wl_v (r_as (v := .bool true) rfl) ?_
  refine Wl_nil ?_
  refine W_seq ?_
  refine W_region ?_
  refine Wl_lit (pv := [(0, .int .i64 1), (1, .int .i64 2)]) (cs := [.int .i64 1, .int .i64 2]) Try.underlying22 Try.sizeOf3 Try.zeroValue3 (by decide) (by decide) (by simp only [List.map_toArray, List.map_cons, List.map_nil] <;> rfl) (by kernel_rfl) rfl (by decide) ?_
  intro B28 w28 hB28 hU28 hzz28 hs28
  have hzw28 := hU28.size
  replace HU := HU.trans0 hU28
  replace hb1 := hb1.upd0 hU28
  replace hs2 := hs2.upd0 hU28
  replace hs3 := hs3.upd0 hU28
  replace hb4 := hb4.upd0 hU28
  replace hO6 := hO6.upd0 hU28
  replace hT7 := hT7.upd0 hU28
  replace hE7 := hE7.upd0 hU28
  replace hL7 := hL7.upd0 hU28
  replace hb9 := hb9.upd0 hU28
  replace hO15 := hO15.upd0 hU28
  replace hb20 := hb20.upd0 hU28
  replace hb23 := hb23.upd0 hU28
  replace hb26 := hb26.upd0 hU28
  replace hs28 : Own w28 (Is B28) 3 1 (.slice (some ⟨B28, 0, none⟩) 2 2) 2 (ints .i64 [1, 2]) := hs28
  have q6 : ¬ (Rt [1, 2]) := (by decide +kernel)
  refine Wl_call (r_call1 rfl Try.call12 rfl) (entries_no _ hs28.sl (by omega) q6) ?_
  rintro v w29 ⟨rfl, hU29⟩
  have hzw29 := hU29.size
  replace HU := HU.trans0 hU29
  replace hb1 := hb1.upd0 hU29
  replace hs2 := hs2.upd0 hU29
  replace hs3 := hs3.upd0 hU29
  replace hb4 := hb4.upd0 hU29
  replace hO6 := hO6.upd0 hU29
  replace hT7 := hT7.upd0 hU29
  replace hE7 := hE7.upd0 hU29
  replace hL7 := hL7.upd0 hU29
  replace hb9 := hb9.upd0 hU29
  replace hO15 := hO15.upd0 hU29
  replace hb20 := hb20.upd0 hU29
  replace hb23 := hb23.upd0 hU29
  replace hb26 := hb26.upd0 hU29
  replace hs28 := hs28.upd0 hU29
  refine Wl_v (r_mv (v := .tuple #[.slice none 0 0, .int .i64 12]) rfl) ?_
  refine Wl_v (r_ext (v := .slice none 0 0) rfl rfl) ?_
  refine Wl_v (r_ext (v := .int .i64 12) rfl rfl) ?_
  refine Wl_v (r_as (v := .slice none 0 0) rfl) ?_
  refine Wl_v (r_as (v := .int .i64 12) rfl) ?_
  refine Wl_nil ?_
  refine W_seq ?_
  refine W_seq ?_
  refine W_region ?_
  refine Wl_v (r_mv (v := .int .i64 ((dec wL 13 4).1)) rfl) ?_
  refine Wl_v (r_ne rfl rfl) ?_
  refine Wl_v (r_mv (v := .bool (decide (((dec wL 13 4).1) ≠ 3))) rfl) ?_
  have q7 : ¬ (((dec wL 13 4).1) ≠ 3) := (by decide +kernel)
  rw [decide_eq_false q7]
  refine Wl_guard_t rfl ?_
  refine Wl_v (r_mv (v := .int .i64 ((dec wL 13 4).2.1)) rfl) ?_
  refine Wl_guard_t rfl ?_
  refine Wl_v (r_ne rfl rfl) ?_
  refine Wl_v (r_pick_f (v := .bool (decide (((dec wL 13 4).2.1) ≠ 2))) rfl rfl) ?_
  refine Wl_v (r_mv (v := .bool (decide (((dec wL 13 4).2.1) ≠ 2))) rfl) ?_
  have q8 : ¬ (((dec wL 13 4).2.1) ≠ 2) := (by decide +kernel)
  rw [decide_eq_false q8]
  refine Wl_guard_t rfl ?_
  refine Wl_v (r_mv (v := .int .i64 ((dec wL 13 4).2.2)) rfl) ?_
  refine Wl_guard_t rfl ?_
  refine Wl_call (r_call1 rfl Try.call15 rfl) (num15 _ ) ?_
  rintro v w30 ⟨rfl, hU30⟩
  have hzw30 := hU30.size
  replace HU := HU.trans0 hU30
  replace hb1 := hb1.upd0 hU30
  replace hs2 := hs2.upd0 hU30
  replace hs3 := hs3.upd0 hU30
  replace hb4 := hb4.upd0 hU30
  replace hO6 := hO6.upd0 hU30
  replace hT7 := hT7.upd0 hU30
  replace hE7 := hE7.upd0 hU30
  replace hL7 := hL7.upd0 hU30
  replace hb9 := hb9.upd0 hU30
  replace hO15 := hO15.upd0 hU30
  replace hb20 := hb20.upd0 hU30
  replace hb23 := hb23.upd0 hU30
  replace hb26 := hb26.upd0 hU30
  replace hs28 := hs28.upd0 hU30
  refine Wl_guard_t rfl ?_
  refine Wl_v (r_ne rfl rfl) ?_
  refine Wl_v (r_pick_f (v := .bool (decide (((dec wL 13 4).2.2) ≠ 0))) rfl rfl) ?_
  refine Wl_v (r_mv (v := .bool (decide (((dec wL 13 4).2.2) ≠ 0))) rfl) ?_
  have q9 : ¬ (((dec wL 13 4).2.2) ≠ 0) := (by decide +kernel)
  rw [decide_eq_false q9]
  refine Wl_guard_t rfl ?_
  refine Wl_v (r_mv (v := .int .i64 ((dec wL 1 1).2.2)) rfl) ?_
  refine Wl_guard_t rfl ?_
  refine Wl_call (r_call1 rfl Try.call15 rfl) (num15 _ ) ?_
  rintro v w31 ⟨rfl, hU31⟩
  have hzw31 := hU31.size
  replace HU := HU.trans0 hU31
  replace hb1 := hb1.upd0 hU31
  replace hs2 := hs2.upd0 hU31
  replace hs3 := hs3.upd0 hU31
  replace hb4 := hb4.upd0 hU31
  replace hO6 := hO6.upd0 hU31
  replace hT7 := hT7.upd0 hU31
  replace hE7 := hE7.upd0 hU31
  replace hL7 := hL7.upd0 hU31
  replace hb9 := hb9.upd0 hU31
  replace hO15 := hO15.upd0 hU31
  replace hb20 := hb20.upd0 hU31
  replace hb23 := hb23.upd0 hU31
  replace hb26 := hb26.upd0 hU31
  replace hs28 := hs28.upd0 hU31
  refine Wl_guard_t rfl ?_
  refine Wl_v (r_ne rfl rfl) ?_
  refine Wl_v (r_pick_f (v := .bool (decide (((dec wL 1 1).2.2) ≠ 3))) rfl rfl) ?_
  refine Wl_v (r_mv (v := .bool (decide (((dec wL 1 1).2.2) ≠ 3))) rfl) ?_
  have q10 : ¬ (((dec wL 1 1).2.2) ≠ 3) := (by decide +kernel)
  rw [decide_eq_false q10]
  refine Wl_guard_t rfl ?_
  refine Wl_v (r_mv (v := .bool true) rfl) ?_
  refine Wl_guard_t rfl ?_
  refine Wl_v (r_not (b := true) rfl) ?_
  refine Wl_v (r_pick_f (v := .bool false) rfl rfl) ?_
  refine Wl_v (r_mv (v := .bool false) rfl) ?_
  refine Wl_guard_t rfl ?_
  refine Wl_v (r_mv (v := .bool true) rfl) ?_
  refine Wl_guard_t rfl ?_
  refine Wl_v (r_not (b := true) rfl) ?_
  refine Wl_v (r_pick_f (v := .bool false) rfl rfl) ?_
  refine Wl_v (r_mv (v := .bool false) rfl) ?_
  refine Wl_guard_t rfl ?_
  refine Wl_v (r_mv (v := .bool true) rfl) ?_
  refine Wl_guard_t rfl ?_
  refine Wl_v (r_not (b := true) rfl) ?_
  refine Wl_v (r_pick_f (v := .bool false) rfl rfl) ?_
  refine Wl_v (r_mv (v := .bool false) rfl) ?_
  refine Wl_guard_t rfl ?_
  refine Wl_v (r_loada (b := B20) (off := 0) (cs := [.int .i64 ((two wL 0).1), .int .i64 ((two wL 0).2.1), .int .i64 ((two wL 0).2.2.1), .int .i64 ((two wL 0).2.2.2)]) Try.isAgg52 Try.sizeOf52 rfl rfl (fun j hj => by rw [hb20.cell]; match j, hj with | 0, _ => rfl | 1, _ => rfl | 2, _ => rfl | 3, _ => rfl)) ?_
  refine Wl_guard_t rfl ?_
  refine Wl_v (r_build (pl := #[(0, 1), (1, 1), (2, 1), (3, 1)]) (pv := [(0, .int .i64 2), (1, .int .i64 1), (2, .int .i64 1), (3, .int .i64 2)]) (cs := #[.int .i64 2, .int .i64 1, .int .i64 1, .int .i64 2]) Try.zeroValue52 Try.underlying52 (fun w => by kernel_rfl) (by simp only [List.map_toArray, List.map_cons, List.map_nil] <;> rfl) (by kernel_rfl)) ?_
  refine Wl_guard_t rfl ?_
  refine Wl_v (r_neag (pp := ((two wL 0).1) = 2 ∧ ((two wL 0).2.1) = 1 ∧ ((two wL 0).2.2.1) = 1 ∧ ((two wL 0).2.2.2) = 2) Try.underlying52 (by kernel_rfl) (by kernel_rfl) rfl rfl (fun w => eqf_int (by decide) Try.underlying3 Try.isAgg3 rfl rfl (fun w => eqf_int (by decide) Try.underlying3 Try.isAgg3 rfl rfl (fun w => eqf_int (by decide) Try.underlying3 Try.isAgg3 rfl rfl (fun w => eqf_int (by decide) Try.underlying3 Try.isAgg3 rfl rfl (fun w => eqf_nil))))) (by simp [Bool.decide_and])) ?_
  refine Wl_v (r_pick_f (v := .bool (!decide (((two wL 0).1) = 2 ∧ ((two wL 0).2.1) = 1 ∧ ((two wL 0).2.2.1) = 1 ∧ ((two wL 0).2.2.2) = 2))) rfl rfl) ?_
  refine Wl_v (r_mv (v := .bool (!decide (((two wL 0).1) = 2 ∧ ((two wL 0).2.1) = 1 ∧ ((two wL 0).2.2.1) = 1 ∧ ((two wL 0).2.2.2) = 2))) rfl) ?_
  have q11 : ((two wL 0).1) = 2 ∧ ((two wL 0).2.1) = 1 ∧ ((two wL 0).2.2.1) = 1 ∧ ((two wL 0).2.2.2) = 2 := (by decide +kernel)
  rw [decide_eq_true q11]
  simp only [Bool.not_true, Bool.not_false]
  refine Wl_guard_t rfl ?_
  refine Wl_v (r_loada (b := B23) (off := 0) (cs := [.int .i64 ((two wL 2).1), .int .i64 ((two wL 2).2.1), .int .i64 ((two wL 2).2.2.1), .int .i64 ((two wL 2).2.2.2)]) Try.isAgg52 Try.sizeOf52 rfl rfl (fun j hj => by rw [hb23.cell]; match j, hj with | 0, _ => rfl | 1, _ => rfl | 2, _ => rfl | 3, _ => rfl)) ?_
  refine Wl_guard_t rfl ?_
  refine Wl_v (r_build (pl := #[(0, 1), (1, 1), (2, 1), (3, 1)]) (pv := [(0, .int .i64 1), (3, .int .i64 2)]) (cs := #[.int .i64 1, .int .i64 0, .int .i64 0, .int .i64 2]) Try.zeroValue52 Try.underlying52 (fun w => by kernel_rfl) (by simp only [List.map_toArray, List.map_cons, List.map_nil] <;> rfl) (by kernel_rfl)) ?_
  refine Wl_guard_t rfl ?_
  refine Wl_v (r_neag (pp := ((two wL 2).1) = 1 ∧ ((two wL 2).2.1) = 0 ∧ ((two wL 2).2.2.1) = 0 ∧ ((two wL 2).2.2.2) = 2) Try.underlying52 (by kernel_rfl) (by kernel_rfl) rfl rfl (fun w => eqf_int (by decide) Try.underlying3 Try.isAgg3 rfl rfl (fun w => eqf_int (by decide) Try.underlying3 Try.isAgg3 rfl rfl (fun w => eqf_int (by decide) Try.underlying3 Try.isAgg3 rfl rfl (fun w => eqf_int (by decide) Try.underlying3 Try.isAgg3 rfl rfl (fun w => eqf_nil))))) (by simp [Bool.decide_and])) ?_
  refine Wl_v (r_pick_f (v := .bool (!decide (((two wL 2).1) = 1 ∧ ((two wL 2).2.1) = 0 ∧ ((two wL 2).2.2.1) = 0 ∧ ((two wL 2).2.2.2) = 2))) rfl rfl) ?_
  refine Wl_v (r_mv (v := .bool (!decide (((two wL 2).1) = 1 ∧ ((two wL 2).2.1) = 0 ∧ ((two wL 2).2.2.1) = 0 ∧ ((two wL 2).2.2.2) = 2))) rfl) ?_
  have q12 : ((two wL 2).1) = 1 ∧ ((two wL 2).2.1) = 0 ∧ ((two wL 2).2.2.1) = 0 ∧ ((two wL 2).2.2.2) = 2 := (by decide +kernel)
  rw [decide_eq_true q12]
  simp only [Bool.not_true, Bool.not_false]
  refine Wl_guard_t rfl ?_
  refine Wl_v (r_loada (b := B26) (off := 0) (cs := [.int .i64 ((two wL 1).1), .int .i64 ((two wL 1).2.1), .int .i64 ((two wL 1).2.2.1), .int .i64 ((two wL 1).2.2.2)]) Try.isAgg52 Try.sizeOf52 rfl rfl (fun j hj => by rw [hb26.cell]; match j, hj with | 0, _ => rfl | 1, _ => rfl | 2, _ => rfl | 3, _ => rfl)) ?_
  refine Wl_guard_t rfl ?_
  refine Wl_v (r_build (pl := #[(0, 1), (1, 1), (2, 1), (3, 1)]) (pv := [(0, .int .i64 1), (1, .int .i64 1), (3, .int .i64 1)]) (cs := #[.int .i64 1, .int .i64 1, .int .i64 0, .int .i64 1]) Try.zeroValue52 Try.underlying52 (fun w => by kernel_rfl) (by simp only [List.map_toArray, List.map_cons, List.map_nil] <;> rfl) (by kernel_rfl)) ?_
  refine Wl_guard_t rfl ?_
  refine Wl_v (r_neag (pp := ((two wL 1).1) = 1 ∧ ((two wL 1).2.1) = 1 ∧ ((two wL 1).2.2.1) = 0 ∧ ((two wL 1).2.2.2) = 1) Try.underlying52 (by kernel_rfl) (by kernel_rfl) rfl rfl (fun w => eqf_int (by decide) Try.underlying3 Try.isAgg3 rfl rfl (fun w => eqf_int (by decide) Try.underlying3 Try.isAgg3 rfl rfl (fun w => eqf_int (by decide) Try.underlying3 Try.isAgg3 rfl rfl (fun w => eqf_int (by decide) Try.underlying3 Try.isAgg3 rfl rfl (fun w => eqf_nil))))) (by simp [Bool.decide_and])) ?_
  refine Wl_v (r_pick_f (v := .bool (!decide (((two wL 1).1) = 1 ∧ ((two wL 1).2.1) = 1 ∧ ((two wL 1).2.2.1) = 0 ∧ ((two wL 1).2.2.2) = 1))) rfl rfl) ?_
  refine Wl_v (r_mv (v := .bool (!decide (((two wL 1).1) = 1 ∧ ((two wL 1).2.1) = 1 ∧ ((two wL 1).2.2.1) = 0 ∧ ((two wL 1).2.2.2) = 1))) rfl) ?_
  have q13 : ((two wL 1).1) = 1 ∧ ((two wL 1).2.1) = 1 ∧ ((two wL 1).2.2.1) = 0 ∧ ((two wL 1).2.2.2) = 1 := (by decide +kernel)
  rw [decide_eq_true q13]
  simp only [Bool.not_true, Bool.not_false]
  refine Wl_guard_t rfl ?_
  refine Wl_v (r_mv (v := .int .i64 12) rfl) ?_
  refine Wl_guard_t rfl ?_
  refine Wl_call (r_call1 rfl Try.call15 rfl) (num15 _ ) ?_
  rintro v w32 ⟨rfl, hU32⟩
  have hzw32 := hU32.size
  replace HU := HU.trans0 hU32
  replace hb1 := hb1.upd0 hU32
  replace hs2 := hs2.upd0 hU32
  replace hs3 := hs3.upd0 hU32
  replace hb4 := hb4.upd0 hU32
  replace hO6 := hO6.upd0 hU32
  replace hT7 := hT7.upd0 hU32
  replace hE7 := hE7.upd0 hU32
  replace hL7 := hL7.upd0 hU32
  replace hb9 := hb9.upd0 hU32
  replace hO15 := hO15.upd0 hU32
  replace hb20 := hb20.upd0 hU32
  replace hb23 := hb23.upd0 hU32
  replace hb26 := hb26.upd0 hU32
  replace hs28 := hs28.upd0 hU32
  refine Wl_guard_t rfl ?_
  refine Wl_v (v := .bool false) (r_ne (a := 12) (b := 12) rfl rfl) ?_
  refine Wl_v (r_pick_f (v := .bool false) rfl rfl) ?_
  refine Wl_nil ?_
  refine W_cond_f rfl ?_
  refine W_skip ?_
  refine W_seq ?_
  refine W_region ?_
  refine Wl_v (r_mv (v := .pointer (some ⟨tb7, 0, none⟩)) rfl) ?_
  refine Wl_call (r_call1 rfl Try.call27 rfl) (runs_spec _ ) ?_
  rintro v w33 ⟨B33, rfl, hB33, hBg_33, hU33⟩
  have hzw33 := hU33.size
  replace HU := HU.trans0 hU33
  replace hb1 := hb1.upd0 hU33
  replace hs2 := hs2.upd0 hU33
  replace hs3 := hs3.upd0 hU33
  replace hb4 := hb4.upd0 hU33
  replace hO6 := hO6.upd0 hU33
  replace hT7 := hT7.upd0 hU33
  replace hE7 := hE7.upd0 hU33
  replace hL7 := hL7.upd0 hU33
  replace hb9 := hb9.upd0 hU33
  replace hO15 := hO15.upd0 hU33
  replace hb20 := hb20.upd0 hU33
  replace hb23 := hb23.upd0 hU33
  replace hb26 := hb26.upd0 hU33
  replace hs28 := hs28.upd0 hU33
  have hbl_hB33 := hB33.lt
  refine Wl_v (r_as (v := .func (.func 40) #[] #[.pointer (some ⟨B33, 0, none⟩)]) rfl) ?_
  refine Wl_nil ?_
  refine W_seq ?_
  refine W_seq ?_
  refine W_region ?_
  refine Wl_v (r_mv (v := .func (.func 40) #[] #[.pointer (some ⟨B33, 0, none⟩)]) rfl) ?_
  refine Wl_v (r_eqfn_s Try.underlying59 rfl rfl) ?_
  refine Wl_nil ?_
  refine W_cond_f rfl ?_
  refine W_skip ?_
  refine W_seq ?_
  refine W_region ?_
  refine Wl_lit (pv := [(0, .int .i64 0), (1, .int .i64 2), (2, .int .i64 3)]) (cs := [.int .i64 0, .int .i64 2, .int .i64 3]) Try.underlying22 Try.sizeOf3 Try.zeroValue3 (by decide) (by decide) (by simp only [List.map_toArray, List.map_cons, List.map_nil] <;> rfl) (by kernel_rfl) rfl (by decide) ?_
  intro B34 w34 hB34 hU34 hzz34 hs34
  have hzw34 := hU34.size
  replace HU := HU.trans0 hU34
  replace hb1 := hb1.upd0 hU34
  replace hs2 := hs2.upd0 hU34
  replace hs3 := hs3.upd0 hU34
  replace hb4 := hb4.upd0 hU34
  replace hO6 := hO6.upd0 hU34
  replace hT7 := hT7.upd0 hU34
  replace hE7 := hE7.upd0 hU34
  replace hL7 := hL7.upd0 hU34
  replace hb9 := hb9.upd0 hU34
  replace hO15 := hO15.upd0 hU34
  replace hb20 := hb20.upd0 hU34
  replace hb23 := hb23.upd0 hU34
  replace hb26 := hb26.upd0 hU34
  replace hs28 := hs28.upd0 hU34
  replace hB33 := hB33.upd0 hU34
  replace hs34 : Own w34 (Is B34) 3 1 (.slice (some ⟨B34, 0, none⟩) 3 3) 3 (ints .i64 [0, 2, 3]) := hs34
  replace hs34 := hs34.icong (show _ = wW from rfl)
  refine Wl_alloc (cs := [.slice none 0 0]) Try.zeroValue22 rfl ?_
  intro B35 w35 hB35 hU35 hzz35 hb35
  have hzw35 := hU35.size
  replace HU := HU.trans0 hU35
  replace hb1 := hb1.upd0 hU35
  replace hs2 := hs2.upd0 hU35
  replace hs3 := hs3.upd0 hU35
  replace hb4 := hb4.upd0 hU35
  replace hO6 := hO6.upd0 hU35
  replace hT7 := hT7.upd0 hU35
  replace hE7 := hE7.upd0 hU35
  replace hL7 := hL7.upd0 hU35
  replace hb9 := hb9.upd0 hU35
  replace hO15 := hO15.upd0 hU35
  replace hb20 := hb20.upd0 hU35
  replace hb23 := hb23.upd0 hU35
  replace hb26 := hb26.upd0 hU35
  replace hs28 := hs28.upd0 hU35
  replace hB33 := hB33.upd0 hU35
  replace hs34 := hs34.upd0 hU35
  refine Wl_alloc (cs := [.int .i64 0]) Try.zeroValue3 rfl ?_
  intro B36 w36 hB36 hU36 hzz36 hb36
  have hzw36 := hU36.size
  replace HU := HU.trans0 hU36
  replace hb1 := hb1.upd0 hU36
  replace hs2 := hs2.upd0 hU36
  replace hs3 := hs3.upd0 hU36
  replace hb4 := hb4.upd0 hU36
  replace hO6 := hO6.upd0 hU36
  replace hT7 := hT7.upd0 hU36
  replace hE7 := hE7.upd0 hU36
  replace hL7 := hL7.upd0 hU36
  replace hb9 := hb9.upd0 hU36
  replace hO15 := hO15.upd0 hU36
  replace hb20 := hb20.upd0 hU36
  replace hb23 := hb23.upd0 hU36
  replace hb26 := hb26.upd0 hU36
  replace hs28 := hs28.upd0 hU36
  replace hB33 := hB33.upd0 hU36
  replace hs34 := hs34.upd0 hU36
  replace hb35 := hb35.upd0 hU36
  refine Wl_store (v := .slice (some ⟨B34, 0, none⟩) 3 3) (cs' := [.slice (some ⟨B34, 0, none⟩) 3 3]) Try.sizeOf22 rfl rfl rfl rfl hb35 rfl rfl ?_
  intro w37 hU37 hzz37 hb35n
  replace hb35 := hb35n; clear hb35n
  have hzw37 := hU37.size
  replace HU := HU.trans1 hU37 (by show (False) ∨ w.heap.size ≤ B35; omega)
  replace hb1 := hb1.upd1 hU37 (by omega)
  replace hs2 := hs2.upd1 hU37 (by intro h1; have h3 : B35 = B2 := h1; omega)
  replace hs3 := hs3.upd1 hU37 (by intro h1; have h3 : B35 = B3 := h1; omega)
  replace hb4 := hb4.upd1 hU37 (by omega)
  replace hO6 := hO6.upd1 hU37 (by intro h1; have h3 : ((w5.heap.size ≤ B35) ∧ B35 < w6.heap.size) := h1; omega)
  replace hT7 := hT7.upd1 hU37 (by omega)
  replace hE7 := hE7.upd1 hU37 (by intro h1; have h3 : ((w6.heap.size ≤ B35 ∧ B35 ≠ tb7) ∧ B35 < w7.heap.size) := h1; omega)
  replace hL7 := hL7.upd1 hU37 (by intro h1; have h3 : ((w6.heap.size ≤ B35 ∧ B35 ≠ tb7) ∧ B35 < w7.heap.size) := h1; omega)
  replace hb9 := hb9.upd1 hU37 (by omega)
  replace hO15 := hO15.upd1 hU37 (by intro h1; have h3 : ((w14.heap.size ≤ B35) ∧ B35 < w15.heap.size) := h1; omega)
  replace hb20 := hb20.upd1 hU37 (by omega)
  replace hb23 := hb23.upd1 hU37 (by omega)
  replace hb26 := hb26.upd1 hU37 (by omega)
  replace hs28 := hs28.upd1 hU37 (by intro h1; have h3 : B35 = B28 := h1; omega)
  replace hB33 := hB33.upd1 hU37 (by omega)
  replace hs34 := hs34.upd1 hU37 (by intro h1; have h3 : B35 = B34 := h1; omega)
  replace hb36 := hb36.upd1 hU37 (by omega)
  refine Wl_store (v := .int .i64 0) (cs' := [.int .i64 0]) Try.sizeOf3 rfl rfl rfl rfl hb36 rfl rfl ?_
  intro w38 hU38 hzz38 hb36n
  replace hb36 := hb36n; clear hb36n
  have hzw38 := hU38.size
  replace HU := HU.trans1 hU38 (by show (False) ∨ w.heap.size ≤ B36; omega)
  replace hb1 := hb1.upd1 hU38 (by omega)
  replace hs2 := hs2.upd1 hU38 (by intro h1; have h3 : B36 = B2 := h1; omega)
  replace hs3 := hs3.upd1 hU38 (by intro h1; have h3 : B36 = B3 := h1; omega)
  replace hb4 := hb4.upd1 hU38 (by omega)
  replace hO6 := hO6.upd1 hU38 (by intro h1; have h3 : ((w5.heap.size ≤ B36) ∧ B36 < w6.heap.size) := h1; omega)
  replace hT7 := hT7.upd1 hU38 (by omega)
  replace hE7 := hE7.upd1 hU38 (by intro h1; have h3 : ((w6.heap.size ≤ B36 ∧ B36 ≠ tb7) ∧ B36 < w7.heap.size) := h1; omega)
  replace hL7 := hL7.upd1 hU38 (by intro h1; have h3 : ((w6.heap.size ≤ B36 ∧ B36 ≠ tb7) ∧ B36 < w7.heap.size) := h1; omega)
  replace hb9 := hb9.upd1 hU38 (by omega)
  replace hO15 := hO15.upd1 hU38 (by intro h1; have h3 : ((w14.heap.size ≤ B36) ∧ B36 < w15.heap.size) := h1; omega)
  replace hb20 := hb20.upd1 hU38 (by omega)
  replace hb23 := hb23.upd1 hU38 (by omega)
  replace hb26 := hb26.upd1 hU38 (by omega)
  replace hs28 := hs28.upd1 hU38 (by intro h1; have h3 : B36 = B28 := h1; omega)
  replace hB33 := hB33.upd1 hU38 (by omega)
  replace hs34 := hs34.upd1 hU38 (by intro h1; have h3 : B36 = B34 := h1; omega)
  replace hb35 := hb35.upd1 hU38 (by omega)
  refine Wl_nil ?_
  refine W_seq ?_
  refine W_seq ?_
  refine W_region ?_
  refine Wl_v (r_mv (v := .func (.func 40) #[] #[.pointer (some ⟨B33, 0, none⟩)]) rfl) ?_
  refine Wl_nil ?_
  refine W_block ?_
  refine W_range (gf := 40) (ar := fun y => #[y, .pointer (some ⟨B33, 0, none⟩)]) rfl Try.call40 (fun y => by simp) ?_
  intro D39 fn39 w39 hD39 hU39 hzz39 hdf39 hrc390
  have hzw39 := hU39.size
  replace HU := HU.trans0 hU39
  replace hb1 := hb1.upd0 hU39
  replace hs2 := hs2.upd0 hU39
  replace hs3 := hs3.upd0 hU39
  replace hb4 := hb4.upd0 hU39
  replace hO6 := hO6.upd0 hU39
  replace hT7 := hT7.upd0 hU39
  replace hE7 := hE7.upd0 hU39
  replace hL7 := hL7.upd0 hU39
  replace hb9 := hb9.upd0 hU39
  replace hO15 := hO15.upd0 hU39
  replace hb20 := hb20.upd0 hU39
  replace hb23 := hb23.upd0 hU39
  replace hb26 := hb26.upd0 hU39
  replace hs28 := hs28.upd0 hU39
  replace hB33 := hB33.upd0 hU39
  replace hs34 := hs34.upd0 hU39
  replace hb35 := hb35.upd0 hU39
  replace hb36 := hb36.upd0 hU39
  obtain ⟨r39, hr39, hrc39⟩ : ∃ r, r = _ ∧ Rec w39 (D39 + 1) r := ⟨_, rfl, hrc390⟩
  clear hrc390
  obtain ⟨J39, hJ39⟩ : ∃ J : Nat → World → Prop, ∀ i w', J i w' ↔ (Rec w' (D39 + 1) r39 ∧ Dfr w' D39 ∧ Blk w' B36 [.int .i64 ((i : Nat) : Int)] ∧ Blk w' B1 [.bool false] ∧ Blk w' B4 [.slice (some ⟨B3, 0, none⟩) 4 4] ∧ Blk w' B35 [.slice (some ⟨B34, 0, none⟩) 3 3] ∧ Own w' (fun g => g = B3) 38 2 (.slice (some ⟨B3, 0, none⟩) 4 4) 4 (rows encE wT) ∧ Own w' (fun g => g = B34) 3 1 (.slice (some ⟨B34, 0, none⟩) 3 3) 3 (ints .i64 wW) ∧ Upd No w w') := ⟨_, fun _ _ => Iff.rfl⟩
  obtain ⟨Jx39, hJx39⟩ : ∃ Jx : World → Prop, ∀ w', Jx w' ↔ (False) := ⟨_, fun _ => Iff.rfl⟩
  refine (runs1_spec (ly := (D39 + 1)) (l := wL) (J := J39) (Jx := Jx39) (Sb := (fun g => g = B36 ∨ g = D39 + 1)) (R := fun g => ((w6.heap.size ≤ g ∧ g ≠ tb7) ∧ g < w7.heap.size)) w39 hB33 hT7 hE7.sl w_rt (by intro g h1 h2; have h3 : ((w6.heap.size ≤ g ∧ g ≠ tb7) ∧ g < w7.heap.size) := h1; have h4 : g = B36 ∨ g = D39 + 1 := h2; omega) (by show ¬ (_ ∨ _); omega) (by show ¬ (_ ∨ _); omega) (by intro g h1 h2; have h3 : g = B36 ∨ g = D39 + 1 := h2; omega) (by intro g h1; have h3 : ((w6.heap.size ≤ g ∧ g ≠ tb7) ∧ g < w7.heap.size) := h1; omega) ?_ ?_ ?_).mono ?_
  · exact (hJ39 _ _).2 ⟨hrc39, hdf39, hb36, hb1, hb4, hb35, hs3, hs34, HU⟩
  · intro i wa wb hh hUs
    obtain ⟨hrc39, hdf39, hb36, hb1, hb4, hb35, hs3, hs34, HU⟩ := (hJ39 _ _).1 hh
    replace hrc39 := hrc39.upd0 hUs
    replace hdf39 := hdf39.upd0 hUs
    replace hb36 := hb36.upd0 hUs
    replace hb1 := hb1.upd0 hUs
    replace hb4 := hb4.upd0 hUs
    replace hb35 := hb35.upd0 hUs
    replace hs3 := hs3.upd0 hUs
    replace hs34 := hs34.upd0 hUs
    replace HU := HU.trans0 hUs
    exact (hJ39 _ _).2 ⟨hrc39, hdf39, hb36, hb1, hb4, hb35, hs3, hs34, HU⟩
  · intro i40 w40 hi40 hh
    obtain ⟨hrc39, hdf39, hb36, hb1, hb4, hb35, hs3, hs34, HU⟩ := (hJ39 _ _).1 hh
    have hrl39 := hrc39.lt
    rw [w_ord] at hi40
    have hwp := (w_rp i40 (by omega)).2.1
    have HB39 : Upd (fun g => g = B36 ∨ g = D39 + 1) w40 w40 := Upd.refl _ _
    refine yieldC_of_W (R := fun b c w' => (b = true ∧ Upd (fun g => g = B36 ∨ g = D39 + 1) w40 w' ∧ J39 (i40 + 1) w') ∨ (b = false ∧ Jx39 w')) hrc39 (by rw [hr39]; rfl) (by rw [hr39]; exact zip2 _ _ _ _ _ _) ?_ ?_
    · rw [hr39]
      refine W_seq ?_
      refine W_region ?_
      refine Wl_v (r_as (v := .int .i64 ((rp wL i40 : Nat) : Int)) rfl) ?_
      refine Wl_nil ?_
      refine W_region ?_
      refine Wl_alloc (cs := [.int .i64 0, .int .i64 0]) Try.zeroValue38 rfl ?_
      intro B41 w41 hB41 hU41 hzz41 hb41
      have hzw41 := hU41.size
      replace hrc39 := hrc39.upd0 hU41
      replace hdf39 := hdf39.upd0 hU41
      replace hb36 := hb36.upd0 hU41
      replace hb1 := hb1.upd0 hU41
      replace hb4 := hb4.upd0 hU41
      replace hb35 := hb35.upd0 hU41
      replace hs3 := hs3.upd0 hU41
      replace hs34 := hs34.upd0 hU41
      replace HU := HU.trans0 hU41
      replace HB39 := HB39.trans0 hU41
      refine Wl_storea (off := 0) (vs := [.int .i64 (((os wL).getD i40 (0, 0)).1), .int .i64 (((os wL).getD i40 (0, 0)).2)]) (cs' := [.int .i64 (((os wL).getD i40 (0, 0)).1), .int .i64 (((os wL).getD i40 (0, 0)).2)]) Try.sizeOf38 rfl rfl rfl (by simp only [List.mem_cons, List.not_mem_nil, or_false, forall_eq_or_imp, forall_eq]; exact ⟨rfl, rfl⟩) hb41 (by simp) rfl ?_
      intro w42 hU42 hzz42 hb41n
      replace hb41 := hb41n; clear hb41n
      have hzw42 := hU42.size
      replace hrc39 := hrc39.upd1 hU42 (by omega)
      replace hdf39 := hdf39.upd1 hU42 (by omega)
      replace hb36 := hb36.upd1 hU42 (by omega)
      replace hb1 := hb1.upd1 hU42 (by omega)
      replace hb4 := hb4.upd1 hU42 (by omega)
      replace hb35 := hb35.upd1 hU42 (by omega)
      replace hs3 := hs3.upd1 hU42 (by intro h1; have h3 : B41 = B3 := h1; omega)
      replace hs34 := hs34.upd1 hU42 (by intro h1; have h3 : B41 = B34 := h1; omega)
      replace HU := HU.trans1 hU42 (by show (False) ∨ w.heap.size ≤ B41; omega)
      replace HB39 := HB39.trans1 hU42 (by show (B41 = B36 ∨ B41 = D39 + 1) ∨ w40.heap.size ≤ B41; omega)
      refine Wl_nil ?_
      refine ⟨rfl, _, hrc39, (by rw [hr39]), ?_⟩
      intro w43 hU43 hzz43 hrc39b
      have hzw43 := hU43.size
      replace hdf39 := hdf39.upd1 hU43 (by omega)
      replace hb36 := hb36.upd1 hU43 (by omega)
      replace hb1 := hb1.upd1 hU43 (by omega)
      replace hb4 := hb4.upd1 hU43 (by omega)
      replace hb35 := hb35.upd1 hU43 (by omega)
      replace hs3 := hs3.upd1 hU43 (by intro h1; have h3 : (D39 + 1) = B3 := h1; omega)
      replace hs34 := hs34.upd1 hU43 (by intro h1; have h3 : (D39 + 1) = B34 := h1; omega)
      replace HU := HU.trans1 hU43 (by show (False) ∨ w.heap.size ≤ (D39 + 1); omega)
      replace HB39 := HB39.trans1 hU43 (by show ((D39 + 1) = B36 ∨ (D39 + 1) = D39 + 1) ∨ w40.heap.size ≤ (D39 + 1); omega)
      replace hb41 := hb41.upd1 hU43 (by omega)
      clear hrc39
      have hrc39 := hrc39b
      clear hrc39b
      refine W_block ?_
      refine W_seq ?_
      refine W_seq ?_
      refine W_drawt rfl (l0 := #[false, false, false, false, false, false, false, false, false, false, false, false, false, false, false, false, false, false]) (by kernel_rfl) ?_
      refine Wt_take (i := 0) (listed' := #[true, false, false, false, false, false, false, false, false, false, false, false, false, false, false, false, false, false]) (by kernel_rfl) rfl (by kernel_rfl) (by kernel_rfl) (by kernel_rfl) (by kernel_rfl) (YI_v (v := .int .i64 ((i40 : Nat) : Int)) rfl (fun w' hw' => r_load Try.isAgg3 rfl (by rw [(hb36.upd0 hw').cell]; rfl))) ?_
      refine Wt_take (i := 1) (listed' := #[true, true, false, false, false, false, false, false, false, false, false, false, false, false, false, false, false, false]) (by kernel_rfl) rfl (by kernel_rfl) (by kernel_rfl) (by kernel_rfl) (by kernel_rfl) (YI_v (v := .bool (decide (3 ≤ ((i40 : Nat) : Int)))) rfl (fun w' hw' => r_ge rfl rfl)) ?_
      refine Wt_take (i := 2) (listed' := #[true, true, true, false, false, false, false, false, false, false, false, false, false, false, false, false, false, false]) (by kernel_rfl) rfl (by kernel_rfl) (by kernel_rfl) (by kernel_rfl) (by kernel_rfl) (YI_v (v := .bool (decide (3 ≤ ((i40 : Nat) : Int)))) rfl (fun w' hw' => r_mv (v := .bool (decide (3 ≤ ((i40 : Nat) : Int)))) rfl)) ?_
      have q14 : ¬ (3 ≤ ((i40 : Nat) : Int)) := (by have := hi40; omega)
      rw [decide_eq_false q14]
      refine Wt_take (i := 3) (listed' := #[true, true, true, true, false, false, false, false, false, false, false, false, false, false, false, false, false, false]) (by kernel_rfl) rfl (by kernel_rfl) (by kernel_rfl) (by kernel_rfl) (by kernel_rfl) (YI_v (v := .int .i64 ((rp wL i40 : Nat) : Int)) rfl (fun w' hw' => r_mv (v := .int .i64 ((rp wL i40 : Nat) : Int)) rfl)) ?_
      refine Wt_take (i := 4) (listed' := #[true, true, true, true, true, false, false, false, false, false, false, false, false, false, false, false, false, false]) (by kernel_rfl) rfl (by kernel_rfl) (by kernel_rfl) (by kernel_rfl) (by kernel_rfl) (YI_v (v := .slice (some ⟨B34, 0, none⟩) 3 3) rfl (fun w' hw' => r_load Try.isAgg22 rfl (by rw [(hb35.upd0 hw').cell]; rfl))) ?_
      refine Wt_take (i := 5) (listed' := #[true, true, true, true, true, true, false, false, false, false, false, false, false, false, false, false, false, false]) (by kernel_rfl) rfl (by kernel_rfl) (by kernel_rfl) (by kernel_rfl) (by kernel_rfl) (YI_v (v := .int .i64 ((i40 : Nat) : Int)) rfl (fun w' hw' => r_load Try.isAgg3 rfl (by rw [(hb36.upd0 hw').cell]; rfl))) ?_
      obtain ⟨ib44, io44, ha44, hib44, hc44⟩ := (hs34.sl).iat (i := i40) (by omega)
      replace hib44 : ib44 = B34 := hib44
      refine Wt_take (i := 6) (listed' := #[true, true, true, true, true, true, true, false, false, false, false, false, false, false, false, false, false, false]) (by kernel_rfl) rfl (by kernel_rfl) (by kernel_rfl) (by kernel_rfl) (by kernel_rfl) (YI_v (v := .pointer (some ⟨ib44, io44 + i40, none⟩)) rfl (fun w' hw' => r_idx (b := ib44) (off := io44) (m := 3) (c := 3) (o' := io44 + i40) Try.underlying22 Try.sizeOf3 (by rw [← ha44]; rfl) rfl (by omega) (by omega) (by omega))) ?_
      refine Wt_take (i := 7) (listed' := #[true, true, true, true, true, true, true, true, false, false, false, false, false, false, false, false, false, false]) (by kernel_rfl) rfl (by kernel_rfl) (by kernel_rfl) (by kernel_rfl) (by kernel_rfl) (YI_v (v := .int .i64 (wW.getD i40 0)) rfl (fun w' hw' => r_load Try.isAgg3 rfl (hw'.cellk hc44))) ?_
      refine Wt_take (i := 8) (listed' := #[true, true, true, true, true, true, true, true, true, false, false, false, false, false, false, false, false, false]) (by kernel_rfl) rfl (by kernel_rfl) (by kernel_rfl) (by kernel_rfl) (by kernel_rfl) (YI_v (v := .bool (decide (((rp wL i40 : Nat) : Int) ≠ (wW.getD i40 0)))) rfl (fun w' hw' => r_ne rfl rfl)) ?_
      refine Wt_take (i := 9) (listed' := #[true, true, true, true, true, true, true, true, true, true, false, false, false, false, false, false, false, false]) (by kernel_rfl) rfl (by kernel_rfl) (by kernel_rfl) (by kernel_rfl) (by kernel_rfl) (YI_v rfl (fun w' hw' => r_pick_f (v := .bool (decide (((rp wL i40 : Nat) : Int) ≠ (wW.getD i40 0)))) rfl rfl)) ?_
      refine Wt_take (i := 10) (listed' := #[true, true, true, true, true, true, true, true, true, true, true, false, false, false, false, false, false, false]) (by kernel_rfl) rfl (by kernel_rfl) (by kernel_rfl) (by kernel_rfl) (by kernel_rfl) (YI_v (v := .bool (decide (((rp wL i40 : Nat) : Int) ≠ (wW.getD i40 0)))) rfl (fun w' hw' => r_mv (v := .bool (decide (((rp wL i40 : Nat) : Int) ≠ (wW.getD i40 0)))) rfl)) ?_
      have q15 : ¬ (((rp wL i40 : Nat) : Int) ≠ (wW.getD i40 0)) := (fun h => h (w_rp i40 (by have := hi40; omega)).1)
      rw [decide_eq_false q15]
      refine Wt_take (i := 11) (listed' := #[true, true, true, true, true, true, true, true, true, true, true, true, false, false, false, false, false, false]) (by kernel_rfl) rfl (by kernel_rfl) (by kernel_rfl) (by kernel_rfl) (by kernel_rfl) (YI_v (v := .agg #[.int .i64 (((os wL).getD i40 (0, 0)).1), .int .i64 (((os wL).getD i40 (0, 0)).2)]) rfl (fun w' hw' => r_loada (b := B41) (off := 0) (cs := [.int .i64 (((os wL).getD i40 (0, 0)).1), .int .i64 (((os wL).getD i40 (0, 0)).2)]) Try.isAgg38 Try.sizeOf38 rfl rfl (fun j hj => by rw [(hb41.upd0 hw').cell]; match j, hj with | 0, _ => rfl | 1, _ => rfl))) ?_
      refine Wt_take (i := 12) (listed' := #[true, true, true, true, true, true, true, true, true, true, true, true, true, false, false, false, false, false]) (by kernel_rfl) rfl (by kernel_rfl) (by kernel_rfl) (by kernel_rfl) (by kernel_rfl) (YI_v (v := .slice (some ⟨B3, 0, none⟩) 4 4) rfl (fun w' hw' => r_load Try.isAgg24 rfl (by rw [(hb4.upd0 hw').cell]; rfl))) ?_
      refine Wt_take (i := 13) (listed' := #[true, true, true, true, true, true, true, true, true, true, true, true, true, true, false, false, false, false]) (by kernel_rfl) rfl (by kernel_rfl) (by kernel_rfl) (by kernel_rfl) (by kernel_rfl) (YI_v (v := .int .i64 ((rp wL i40 : Nat) : Int)) rfl (fun w' hw' => r_mv (v := .int .i64 ((rp wL i40 : Nat) : Int)) rfl)) ?_
      obtain ⟨ib45, io45, ha45, hib45, hc45⟩ := Sl.rat (0, 0) encE_len (by decide) (hs3.sl) (i := (rp wL i40)) (by omega)
      refine Wt_take (i := 14) (listed' := #[true, true, true, true, true, true, true, true, true, true, true, true, true, true, true, false, false, false]) (by kernel_rfl) rfl (by kernel_rfl) (by kernel_rfl) (by kernel_rfl) (by kernel_rfl) (YI_v (v := .pointer (some ⟨ib45, io45 + (rp wL i40) * 2, none⟩)) rfl (fun w' hw' => r_idx (b := ib45) (off := io45) (m := 4) (c := 4) (o' := io45 + (rp wL i40) * 2) Try.underlying24 Try.sizeOf38 (by rw [← ha45]; rfl) rfl (by omega) (by omega) (by omega))) ?_
      refine Wt_take (i := 15) (listed' := #[true, true, true, true, true, true, true, true, true, true, true, true, true, true, true, true, false, false]) (by kernel_rfl) rfl (by kernel_rfl) (by kernel_rfl) (by kernel_rfl) (by kernel_rfl) (YI_v (v := .agg #[.int .i64 ((wT.getD (rp wL i40) (0, 0)).1), .int .i64 ((wT.getD (rp wL i40) (0, 0)).2)]) rfl (fun w' hw' => r_loada (cs := [.int .i64 ((wT.getD (rp wL i40) (0, 0)).1), .int .i64 ((wT.getD (rp wL i40) (0, 0)).2)]) Try.isAgg38 Try.sizeOf38 rfl rfl (hw'.cellsk rfl hc45))) ?_
      refine Wt_take (i := 16) (listed' := #[true, true, true, true, true, true, true, true, true, true, true, true, true, true, true, true, true, false]) (by kernel_rfl) rfl (by kernel_rfl) (by kernel_rfl) (by kernel_rfl) (by kernel_rfl) (YI_v (v := .bool (!decide ((((os wL).getD i40 (0, 0)).1) = ((wT.getD (rp wL i40) (0, 0)).1) ∧ (((os wL).getD i40 (0, 0)).2) = ((wT.getD (rp wL i40) (0, 0)).2)))) rfl (fun w' hw' => r_neag (pp := (((os wL).getD i40 (0, 0)).1) = ((wT.getD (rp wL i40) (0, 0)).1) ∧ (((os wL).getD i40 (0, 0)).2) = ((wT.getD (rp wL i40) (0, 0)).2)) Try.underlying38 (by kernel_rfl) (by kernel_rfl) rfl rfl (fun w => eqf_int (by decide) Try.underlying3 Try.isAgg3 rfl rfl (fun w => eqf_int (by decide) Try.underlying3 Try.isAgg3 rfl rfl (fun w => eqf_nil))) (by simp [Bool.decide_and]))) ?_
      refine Wt_take (i := 17) (listed' := #[true, true, true, true, true, true, true, true, true, true, true, true, true, true, true, true, true, true]) (by kernel_rfl) rfl (by kernel_rfl) (by kernel_rfl) (by kernel_rfl) (by kernel_rfl) (YI_v rfl (fun w' hw' => r_pick_f (v := .bool (!decide ((((os wL).getD i40 (0, 0)).1) = ((wT.getD (rp wL i40) (0, 0)).1) ∧ (((os wL).getD i40 (0, 0)).2) = ((wT.getD (rp wL i40) (0, 0)).2)))) rfl rfl)) ?_
      intro w46 hU46
      have hzw46 := hU46.size
      replace hrc39 := hrc39.upd0 hU46
      replace hdf39 := hdf39.upd0 hU46
      replace hb36 := hb36.upd0 hU46
      replace hb1 := hb1.upd0 hU46
      replace hb4 := hb4.upd0 hU46
      replace hb35 := hb35.upd0 hU46
      replace hs3 := hs3.upd0 hU46
      replace hs34 := hs34.upd0 hU46
      replace HU := HU.trans0 hU46
      replace HB39 := HB39.trans0 hU46
      replace hb41 := hb41.upd0 hU46
      replace hc44 := cell_upd0 hU46 hc44
      refine Wa_done (by kernel_rfl) ?_
      have q16 : (((os wL).getD i40 (0, 0)).1) = ((wT.getD (rp wL i40) (0, 0)).1) ∧ (((os wL).getD i40 (0, 0)).2) = ((wT.getD (rp wL i40) (0, 0)).2) := ⟨by rw [(w_rp i40 (by have := hi40; omega)).2.2], by rw [(w_rp i40 (by have := hi40; omega)).2.2]⟩
      rw [decide_eq_true q16]
      simp only [Bool.not_true, Bool.not_false]
      refine W_cond_f rfl ?_
      refine W_skip ?_
      refine W_region ?_
      refine Wl_load (v := .int .i64 ((i40 : Nat) : Int)) Try.isAgg3 rfl hb36 rfl ?_
      refine Wl_v (r_add rfl rfl (wi64 (by omega) (by omega))) ?_
      refine Wl_store (v := .int .i64 (((i40 : Nat) : Int) + 1)) (cs' := [.int .i64 (((i40 : Nat) : Int) + 1)]) Try.sizeOf3 rfl rfl rfl rfl hb36 rfl rfl ?_
      intro w47 hU47 hzz47 hb36n
      replace hb36 := hb36n; clear hb36n
      have hzw47 := hU47.size
      replace hrc39 := hrc39.upd1 hU47 (by omega)
      replace hdf39 := hdf39.upd1 hU47 (by omega)
      replace hb1 := hb1.upd1 hU47 (by omega)
      replace hb4 := hb4.upd1 hU47 (by omega)
      replace hb35 := hb35.upd1 hU47 (by omega)
      replace hs3 := hs3.upd1 hU47 (by intro h1; have h3 : B36 = B3 := h1; omega)
      replace hs34 := hs34.upd1 hU47 (by intro h1; have h3 : B36 = B34 := h1; omega)
      replace HU := HU.trans1 hU47 (by show (False) ∨ w.heap.size ≤ B36; omega)
      replace HB39 := HB39.trans1 hU47 (by show (B36 = B36 ∨ B36 = D39 + 1) ∨ w40.heap.size ≤ B36; omega)
      replace hb41 := hb41.upd1 hU47 (by omega)
      replace hc44 := cell_upd1 hU47 hc44 (by show ib44 ≠ B36; omega)
      refine Wl_nil ?_
      refine ⟨rfl, _, hrc39, ?_⟩
      intro w48 hU48 hzz48 hrz
      have hzw48 := hU48.size
      replace hdf39 := hdf39.upd1 hU48 (by omega)
      replace hb36 := hb36.upd1 hU48 (by omega)
      replace hb1 := hb1.upd1 hU48 (by omega)
      replace hb4 := hb4.upd1 hU48 (by omega)
      replace hb35 := hb35.upd1 hU48 (by omega)
      replace hs3 := hs3.upd1 hU48 (by intro h1; have h3 : (D39 + 1) = B3 := h1; omega)
      replace hs34 := hs34.upd1 hU48 (by intro h1; have h3 : (D39 + 1) = B34 := h1; omega)
      replace HU := HU.trans1 hU48 (by show (False) ∨ w.heap.size ≤ (D39 + 1); omega)
      replace HB39 := HB39.trans1 hU48 (by show ((D39 + 1) = B36 ∨ (D39 + 1) = D39 + 1) ∨ w40.heap.size ≤ (D39 + 1); omega)
      replace hb41 := hb41.upd1 hU48 (by omega)
      replace hc44 := cell_upd1 hU48 hc44 (by show ib44 ≠ (D39 + 1); omega)
      exact Or.inl ⟨rfl, HB39, (hJ39 _ _).2 ⟨(by rw [hr39]; rw [hr39] at hrz; exact hrz), hdf39, hb36, hb1, hb4, hb35, hs3, hs34, HU⟩⟩
    · rintro b c w9 (⟨rfl, h1, h2⟩ | ⟨rfl, h1⟩)
      · exact Or.inl ⟨rfl, h1, h2⟩
      · exact Or.inr ⟨rfl, h1⟩
  rintro e w49 ⟨v, rfl, hh | hh⟩
  · obtain ⟨hrc39, hdf39, hb36, hb1, hb4, hb35, hs3, hs34, HU⟩ := (hJ39 _ _).1 hh
    have hrl39 := hrc39.lt
    refine ⟨r39, hrc39, (by rw [hr39]; simp), ?_⟩
    intro w50 hU50 hzz50
    have hzw50 := hU50.size
    replace hdf39 := hdf39.upd1 hU50 (by omega)
    replace hb36 := hb36.upd1 hU50 (by omega)
    replace hb1 := hb1.upd1 hU50 (by omega)
    replace hb4 := hb4.upd1 hU50 (by omega)
    replace hb35 := hb35.upd1 hU50 (by omega)
    replace hs3 := hs3.upd1 hU50 (by intro h1; have h3 : (D39 + 1) = B3 := h1; omega)
    replace hs34 := hs34.upd1 hU50 (by intro h1; have h3 : (D39 + 1) = B34 := h1; omega)
    replace HU := HU.trans1 hU50 (by show (False) ∨ w.heap.size ≤ (D39 + 1); omega)
    rw [hr39]
    skip
    refine W_seq ?_
    refine W_region ?_
    refine Wl_load (v := .int .i64 (((ord wL).length : Nat) : Int)) Try.isAgg3 rfl hb36 rfl ?_
    refine Wl_v (r_eq rfl rfl) ?_
    refine Wl_store (v := .bool (decide ((((ord wL).length : Nat) : Int) = 3))) (cs' := [.bool (decide ((((ord wL).length : Nat) : Int) = 3))]) Try.sizeOf4 rfl rfl rfl rfl hb1 rfl rfl ?_
    intro w51 hU51 hzz51 hb1n
    replace hb1 := hb1n; clear hb1n
    have hzw51 := hU51.size
    replace hdf39 := hdf39.upd1 hU51 (by omega)
    replace hb36 := hb36.upd1 hU51 (by omega)
    replace hb4 := hb4.upd1 hU51 (by omega)
    replace hb35 := hb35.upd1 hU51 (by omega)
    replace hs3 := hs3.upd1 hU51 (by intro h1; have h3 : B1 = B3 := h1; omega)
    replace hs34 := hs34.upd1 hU51 (by intro h1; have h3 : B1 = B34 := h1; omega)
    replace HU := HU.trans1 hU51 (by show (False) ∨ w.heap.size ≤ B1; omega)
    refine Wl_nil ?_
    refine W_ret ?_
    refine ret_ds rfl ?_
    refine lv_mark (by simp) hdf39 ?_
    intro w52 hU52 hzz52
    have hzw52 := hU52.size
    replace hb36 := hb36.upd1 hU52 (by omega)
    replace hb1 := hb1.upd1 hU52 (by omega)
    replace hb4 := hb4.upd1 hU52 (by omega)
    replace hb35 := hb35.upd1 hU52 (by omega)
    replace hs3 := hs3.upd1 hU52 (by intro h1; have h3 : D39 = B3 := h1; omega)
    replace hs34 := hs34.upd1 hU52 (by intro h1; have h3 : D39 = B34 := h1; omega)
    replace HU := HU.trans1 hU52 (by show (False) ∨ w.heap.size ≤ D39; omega)
    refine lv_nil (v := .bool (decide ((((ord wL).length : Nat) : Int) = 3))) (rc1 Try.results11 rfl (cellIs Try.isAgg4 hb1)) ?_
    exact ⟨_, rfl, (by rw [decide_eq_true (show (((ord wL).length : Nat) : Int) = 3 from (by have := w_ord; omega))]), HU⟩
  · exact ((hJx39 _).1 hh).elim

end Go.Proofs.Ytkgjdcjpnfjofaa
