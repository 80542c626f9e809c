/-
 Walks, printed by a small program of this project (gen.py).
-/
import Derived.Test.YtilegaokfamfnaaYc
set_option linter.unusedVariables false
set_option linter.unusedSimpArgs false
namespace Go.Proofs.Ytilegaokfamfnaa
open Go.Fw

theorem idx_num {l : List Int} (hr : Rt l) {bits m : Int} (h0 : 0 ≤ bits) (h64 : bits < 18446744073709551616) (hva : Va bits m) :
  0 ≤ bits * 2 ^ (max 0 (((bt l : Nat) : Int) - m)).toNat ∧ bits * 2 ^ (max 0 (((bt l : Nat) : Int) - m)).toNat < 18446744073709551616 := by
 have hb := bt_bd hr
 have hlt := va_lt h0 h64 hva
 have hm := hva.1
 by_cases c : m ≤ bt l
 ·have e : (max 0 (((bt l : Nat) : Int) - m)).toNat = bt l - m.toNat := by omega
  have hp : (0 : Int) < 2 ^ (bt l - m.toNat) := Int.pow_pos (by decide)
  rw [e]
  have h1 : bits * 2 ^ (bt l - m.toNat) < 2 ^ m.toNat * 2 ^ (bt l - m.toNat) := Int.mul_lt_mul_of_pos_right hlt hp
  rw [← Int.pow_add, show m.toNat + (bt l - m.toNat) = bt l from by omega] at h1
  have h2 := (p2_le11 hb.2).2
  unfold p2 at h2
  exact ⟨Int.mul_nonneg h0 (Int.le_of_lt hp), by omega⟩
 ·rw [show (max 0 (((bt l : Nat) : Int) - m)).toNat = 0 from by omega]; simp; omega
theorem shl_idx {l : List Int} (hr : Rt l) {bits m : Int} (h0 : 0 ≤ bits) (h64 : bits < 18446744073709551616) (hva : Va bits m) :
  IntKind.u64.wrap (bits * 2 ^ (min (max 0 (((bt l : Nat) : Int) - m)).toNat IntKind.u64.bits)) = bits * 2 ^ (max 0 (((bt l : Nat) : Int) - m)).toNat := by
 have hb := bt_bd hr
 have hm := hva.1
 have := idx_num hr h0 h64 hva
 rw [show min (max 0 (((bt l : Nat) : Int) - m)).toNat IntKind.u64.bits = (max 0 (((bt l : Nat) : Int) - m)).toNat from by show min _ 64 = _; omega]
 exact wu64 this.1 this.2
theorem shr_idx {l : List Int} (hr : Rt l) {bits m : Int} (hva : Va bits m) :
  bits * 2 ^ (max 0 (((bt l : Nat) : Int) - m)).toNat / 2 ^ (min (max 0 (m - ((bt l : Nat) : Int))).toNat IntKind.u64.bits) = idx l bits m := by
 have hb := bt_bd hr
 have hm := hva.1
 rw [show min (max 0 (m - ((bt l : Nat) : Int))).toNat IntKind.u64.bits = (max 0 (m - ((bt l : Nat) : Int))).toNat from by show min _ 64 = _; omega]; rfl
theorem dec_tbl {l : List Int} (hr : Rt l) {bits m : Int} (h0 : 0 ≤ bits) (h64 : bits < 18446744073709551616) (hva : Va bits m) :
  (0 ≤ idx l bits m ∧ idx l bits m < ((2 ^ bt l : Nat) : Int)) ∧ dec l bits m = if ((tbl l).getD (idx l bits m).toNat (0, 0)).2 ≤ m then (((tbl l).getD (idx l bits m).toNat (0, 0)).1, ((tbl l).getD (idx l bits m).toNat (0, 0)).2, 0) else (0, 0, 3) := by
 obtain ⟨h1, h2, h3⟩ := idx_bd hr h0 h64 hva
 have h4 := p2_nat (bt l)
 refine ⟨⟨h1, by omega⟩, ?_⟩
 rw [dec_idx hr h0 h64 hva, tbl_get (by omega)]
theorem and_p2 {i : Int} {k : Nat} (h0 : 0 ≤ i) (h1 : i < 18446744073709551616) (hk : k ≤ 11) : IntKind.u64.wrap (((i % 2 ^ IntKind.u64.bits).toNat &&& ((((2 ^ k : Nat) : Int) - 1) % 2 ^ IntKind.u64.bits).toNat : Nat) : Int) = i % p2 k := by
 have e : (2 ^ IntKind.u64.bits : Int) = 18446744073709551616 := by decide
 have h2 := p2_le11 hk
 have h3 := p2_nat k
 have e3 : ((((2 ^ k : Nat) : Int) - 1) % 18446744073709551616).toNat = 2 ^ k - 1 := by omega
 have h4 := Int.emod_nonneg i (b := p2 k) (by omega)
 have h5 := Int.emod_lt_of_pos i (b := p2 k) (by omega)
 have e4 : ((i.toNat % 2 ^ k : Nat) : Int) = i % p2 k := by rw [Int.natCast_emod, h3]; congr 1; omega
 rw [e, e3, Nat.and_two_pow_sub_one_eq_mod, show (i % 18446744073709551616).toNat = i.toNat from by omega, e4]
 exact wu64 h4 (by omega)
theorem shlU {d : Int} (h0 : 0 ≤ d) (h1 : d ≤ 11) : IntKind.u64.wrap (1 * 2 ^ (min d.toNat IntKind.u64.bits)) = ((2 ^ d.toNat : Nat) : Int) := by
 have e : min d.toNat IntKind.u64.bits = d.toNat := by show min _ 64 = _; omega
 have h2 := p2_le11 (a := d.toNat) (by omega)
 rw [e, ← p2_nat] at *
 have h3 := p2_nat d.toNat
 unfold p2 at h3
 rw [← h3, Int.one_mul]
 exact wu64 (by omega) (by omega)
theorem ent_rng {l : List Int} (hr : Rt l) {i : Nat} (h : i < 2 ^ bt l) : 0 ≤ (ent l i).1 ∧ (ent l i).1 < 256 ∧ 1 ≤ (ent l i).2 ∧ (ent l i).2 ≤ bt l := by
 have h1 := p2_nat (bt l)
 obtain ⟨j, e, h2, h3, h4⟩ := ent_bd hr (i := i) (by omega)
 have := hr.2.1
 rw [e]; exact ⟨by show (0 : Int) ≤ (j : Int); omega, by show (j : Int) < 256; omega, h3, h4⟩
theorem ent_dec {l : List Int} {i : Int} (h : 0 ≤ i) : ent l i.toNat = ((dec l i (mx l)).1, (dec l i (mx l)).2.1) := by
 unfold ent; rw [mx_bt, show ((i.toNat : Nat) : Int) = i from by omega]
theorem dec_rng {l : List Int} (hr : Rt l) {bits m : Int} (h0 : 0 ≤ bits) (h64 : bits < 18446744073709551616) : 0 ≤ (dec l bits m).1 ∧ (dec l bits m).1 < 256 ∧ 0 ≤ (dec l bits m).2.1 ∧ (dec l bits m).2.1 ≤ 11 := by
 by_cases hva : Va bits m
 ·have hi := dec_tbl hr h0 h64 hva
  have hi2 : (idx l bits m).toNat < 2 ^ bt l := by omega
  have he := ent_rng hr hi2
  have hb := bt_bd hr
  rw [hi.2, tbl_get hi2]
  split
  ·exact ⟨he.1, he.2.1, by show 0 ≤ (ent l _).2; omega, by show (ent l _).2 ≤ 11; omega⟩
  ·simp
 ·rw [dec_arg hr hva]; simp

set_option maxHeartbeats 1000000 in
set_option maxRecDepth 100000 in
theorem tdec {tb : Nat} {ea la : Option Addr} {n ec lc : Nat} {l : List Int} {bits m : Int} (w : World) (hT : Blk w tb [.slice ea (2 ^ bt l) ec, .int .i64 ((bt l : Nat) : Int), .slice la n lc]) (hE : Sl w (fun g => g < w.heap.size) 2 (.slice ea (2 ^ bt l) ec) (2 ^ bt l) (rows encE (tbl l))) (hr : Rt l) (hbits : 0 ≤ bits ∧ bits < 18446744073709551616) (hm : -9223372036854775808 ≤ m ∧ m ≤ 9223372036854775807) :
  Calls Try.prog 75 #[.pointer (some ⟨tb, 0, none⟩), .int .u64 bits, .int .i64 m] w (Ret fun v w' => v = .tuple #[.int .i64 ((dec l bits m).1), .int .i64 ((dec l bits m).2.1), .int .i64 ((dec l bits m).2.2)] ∧ Upd No w w') := by
 have HU : Upd (fun b => False) w w := Upd.refl _ _
 have hbl_hT := hT.lt
 have hl_hE := rlen encE_len (by decide) hE
 have hc_hE := hE.cap.1
 have hbt := bt_bd hr
 refine calls_of_W Try.func75 rfl Try.ntmps75 (by simp) ?_
 refine W_seq ?_
 refine W_region ?_
 refine Wl_v (r_as (v := .int .i64 0) rfl) ?_
 refine Wl_v (r_as (v := .int .i64 0) rfl) ?_
 refine Wl_v (r_as (v := .int .i64 0) rfl) ?_
 refine Wl_nil ?_
 refine W_seq ?_
 refine W_block ?_
 refine W_seq ?_
 refine W_region ?_
 refine Wl_v (r_mv (v := .pointer (some ⟨tb, 0, none⟩)) rfl) ?_
 refine Wl_call (r_call1 rfl Try.call87 rfl) (none_ok _ hT (by omega)) ?_
 rintro v w1 ⟨rfl, hU1⟩
 have hzw1 := hU1.size
 replace hT := hT.upd0 hU1
 replace hE := hE.upd0 hU1
 replace HU := HU.trans0 hU1
 refine Wl_v (r_as (v := .bool false) rfl) ?_
 refine Wl_nil ?_
 refine W_cond_f rfl ?_
 refine W_seq ?_
 refine W_region ?_
 refine Wl_v (r_mv (v := .int .i64 m) rfl) ?_
 refine Wl_v (r_lt rfl rfl) ?_
 refine Wl_v (r_mv (v := .bool (decide (m < 0))) rfl) ?_
 by_cases q1 : m < 0
 ·rw [decide_eq_true q1]
  refine Wl_guard_f rfl ?_
  refine Wl_guard_f rfl ?_
  refine Wl_v (r_pick_t (v := .bool true) rfl rfl) ?_
  refine Wl_v (r_mv (v := .bool true) rfl) ?_
  refine Wl_guard_f rfl ?_
  refine Wl_guard_f rfl ?_
  refine Wl_guard_f rfl ?_
  refine Wl_skip rfl ?_
  refine Wl_skip rfl ?_
  refine Wl_skip rfl ?_
  refine Wl_skip rfl ?_
  refine Wl_guard_f rfl ?_
  refine Wl_v (r_pick_t (v := .bool true) rfl rfl) ?_
  refine Wl_v (r_as (v := .bool true) rfl) ?_
  refine Wl_nil ?_
  refine W_cond_t rfl ?_
  refine W_seq ?_
  refine W_region ?_
  refine Wl_v (r_as (v := .int .i64 0) rfl) ?_
  refine Wl_v (r_as (v := .int .i64 0) rfl) ?_
  refine Wl_v (r_as (v := .int .i64 2) rfl) ?_
  refine Wl_nil ?_
  refine W_ret ?_
  refine ret_end (v := .tuple #[.int .i64 0, .int .i64 0, .int .i64 2]) rfl (res3 Try.results75 rfl rfl rfl) ?_
  rw [dec_arg hr (fun h => by unfold Va at h; omega)]
  exact ⟨_, rfl, (vtup3 (by first | rfl | exact vint (by omega)) (by first | rfl | exact vint (by omega)) (by first | rfl | exact vint (by omega))), HU⟩
 ·rw [decide_eq_false q1]
  refine Wl_guard_t rfl ?_
  refine Wl_v (r_mv (v := .int .i64 m) rfl) ?_
  refine Wl_guard_t rfl ?_
  refine Wl_v (r_gt rfl rfl) ?_
  refine Wl_v (r_pick_f (v := .bool (decide (64 < m))) rfl rfl) ?_
  refine Wl_v (r_mv (v := .bool (decide (64 < m))) rfl) ?_
  by_cases q2 : 64 < m
  ·rw [decide_eq_true q2]
   refine Wl_guard_f rfl ?_
   refine Wl_guard_f rfl ?_
   refine Wl_guard_f rfl ?_
   refine Wl_skip rfl ?_
   refine Wl_skip rfl ?_
   refine Wl_skip rfl ?_
   refine Wl_skip rfl ?_
   refine Wl_guard_f rfl ?_
   refine Wl_v (r_pick_t (v := .bool true) rfl rfl) ?_
   refine Wl_v (r_as (v := .bool true) rfl) ?_
   refine Wl_nil ?_
   refine W_cond_t rfl ?_
   refine W_seq ?_
   refine W_region ?_
   refine Wl_v (r_as (v := .int .i64 0) rfl) ?_
   refine Wl_v (r_as (v := .int .i64 0) rfl) ?_
   refine Wl_v (r_as (v := .int .i64 2) rfl) ?_
   refine Wl_nil ?_
   refine W_ret ?_
   refine ret_end (v := .tuple #[.int .i64 0, .int .i64 0, .int .i64 2]) rfl (res3 Try.results75 rfl rfl rfl) ?_
   rw [dec_arg hr (fun h => by unfold Va at h; omega)]
   exact ⟨_, rfl, (vtup3 (by first | rfl | exact vint (by omega)) (by first | rfl | exact vint (by omega)) (by first | rfl | exact vint (by omega))), HU⟩
  ·rw [decide_eq_false q2]
   refine Wl_guard_t rfl ?_
   refine Wl_v (r_mv (v := .int .i64 m) rfl) ?_
   refine Wl_guard_t rfl ?_
   refine Wl_v (r_lt rfl rfl) ?_
   refine Wl_guard_t rfl ?_
   refine Wl_v (r_mv (v := .bool (decide (m < 64))) rfl) ?_
   by_cases q3 : m < 64
   ·rw [decide_eq_true q3]
    refine Wl_guard_t rfl ?_
    refine Wl_v (r_mv (v := .int .u64 bits) rfl) ?_
    refine Wl_guard_t rfl ?_
    refine Wl_v (r_mv (v := .int .i64 m) rfl) ?_
    refine Wl_guard_t rfl ?_
    refine Wl_v (r_shr rfl rfl (by omega) rfl) ?_
    refine Wl_guard_t rfl ?_
    refine Wl_v (r_gt rfl rfl) ?_
    refine Wl_guard_t rfl ?_
    refine Wl_v (r_pick_t (v := .bool (decide (0 < (bits / 2 ^ (min (m).toNat IntKind.u64.bits))))) rfl rfl) ?_
    refine Wl_v (r_pick_f (v := .bool (decide (0 < (bits / 2 ^ (min (m).toNat IntKind.u64.bits))))) rfl rfl) ?_
    refine Wl_v (r_as (v := .bool (decide (0 < (bits / 2 ^ (min (m).toNat IntKind.u64.bits))))) rfl) ?_
    refine Wl_nil ?_
    by_cases q4 : 0 < (bits / 2 ^ (min (m).toNat IntKind.u64.bits))
    ·rw [decide_eq_true q4]
     refine W_cond_t rfl ?_
     refine W_seq ?_
     refine W_region ?_
     refine Wl_v (r_as (v := .int .i64 0) rfl) ?_
     refine Wl_v (r_as (v := .int .i64 0) rfl) ?_
     refine Wl_v (r_as (v := .int .i64 2) rfl) ?_
     refine Wl_nil ?_
     refine W_ret ?_
     refine ret_end (v := .tuple #[.int .i64 0, .int .i64 0, .int .i64 2]) rfl (res3 Try.results75 rfl rfl rfl) ?_
     rw [dec_arg hr (fun h => by unfold Va at h; omega)]
     exact ⟨_, rfl, (vtup3 (by first | rfl | exact vint (by omega)) (by first | rfl | exact vint (by omega)) (by first | rfl | exact vint (by omega))), HU⟩
    ·rw [decide_eq_false q4]
     refine W_cond_f rfl ?_
     refine W_skip ?_
     refine W_seq ?_
     have hva : Va bits m := ⟨by omega, by have hp0 := pdiv0 bits m (by omega); omega⟩
     have hdt := dec_tbl hr hbits.1 hbits.2 hva
     refine W_drawt rfl (l0 := tf 0 25) (by kernel_rfl) ?_
     refine Tk 0 (tf 1 25) rfl (YI_v (v := .pointer (some ⟨tb, 0, none⟩)) rfl (fun w' hw' => r_mv (v := .pointer (some ⟨tb, 0, none⟩)) rfl)) ?_
     refine Tk 1 (tf 2 25) rfl (YI_v (v := .pointer (some ⟨tb, 0, none⟩)) rfl (fun w' hw' => r_nil rfl)) ?_
     refine Tk 2 (tf 3 25) rfl (YI_v (v := .pointer (some ⟨tb, 0, none⟩)) rfl (fun w' hw' => r_fld Try.underlying138 rfl Try.sizeOf136 rfl rfl)) ?_
     refine Tk 3 (tf 4 25) rfl (YI_v (v := .slice ea (2 ^ bt l) ec) rfl (fun w' hw' => r_load Try.isAgg136 rfl (by rw [(hT.upd0 hw').cell]; rfl))) ?_
     refine Tk 4 (tf 5 25) rfl (YI_v (v := .int .u64 bits) rfl (fun w' hw' => r_mv (v := .int .u64 bits) rfl)) ?_
     refine Tk 5 (tf 6 25) rfl (YI_v (v := .pointer (some ⟨tb, 0, none⟩)) rfl (fun w' hw' => r_mv (v := .pointer (some ⟨tb, 0, none⟩)) rfl)) ?_
     refine Tk 6 (tf 7 25) rfl (YI_v (v := .pointer (some ⟨tb, 0, none⟩)) rfl (fun w' hw' => r_nil rfl)) ?_
     refine Tk 7 (tf 8 25) rfl (YI_v (v := .pointer (some ⟨tb, 1, none⟩)) rfl (fun w' hw' => r_fld Try.underlying138 rfl Try.sizeOf3 rfl rfl)) ?_
     refine Tk 8 (tf 9 25) rfl (YI_v (v := .int .i64 ((bt l : Nat) : Int)) rfl (fun w' hw' => r_load Try.isAgg3 rfl (by rw [(hT.upd0 hw').cell]; rfl))) ?_
     refine Tk 9 (tf 10 25) rfl (YI_v (v := .int .i64 m) rfl (fun w' hw' => r_mv (v := .int .i64 m) rfl)) ?_
     refine Tk 10 (tf 11 25) rfl (YI_v (v := .int .i64 (((bt l : Nat) : Int) - m)) rfl (fun w' hw' => r_sub rfl rfl (wi64 (by omega) (by omega)))) ?_
     refine Tk 11 (tf 12 25) rfl (YI_v (v := .int .i64 (max 0 (((bt l : Nat) : Int) - m))) rfl (fun w' hw' => r_max rfl rfl)) ?_
     refine Tk 12 (tf 13 25) rfl (YI_v (v := .int .u64 (bits * 2 ^ (max 0 (((bt l : Nat) : Int) - m)).toNat)) rfl (fun w' hw' => r_shl rfl rfl (by omega) (shl_idx hr hbits.1 hbits.2 hva))) ?_
     refine Tk 13 (tf 14 25) rfl (YI_v (v := .int .i64 m) rfl (fun w' hw' => r_mv (v := .int .i64 m) rfl)) ?_
     refine Tk 14 (tf 15 25) rfl (YI_v (v := .pointer (some ⟨tb, 0, none⟩)) rfl (fun w' hw' => r_mv (v := .pointer (some ⟨tb, 0, none⟩)) rfl)) ?_
     refine Tk 15 (tf 16 25) rfl (YI_v (v := .pointer (some ⟨tb, 0, none⟩)) rfl (fun w' hw' => r_nil rfl)) ?_
     refine Tk 16 (tf 17 25) rfl (YI_v (v := .pointer (some ⟨tb, 1, none⟩)) rfl (fun w' hw' => r_fld Try.underlying138 rfl Try.sizeOf3 rfl rfl)) ?_
     refine Tk 17 (tf 18 25) rfl (YI_v (v := .int .i64 ((bt l : Nat) : Int)) rfl (fun w' hw' => r_load Try.isAgg3 rfl (by rw [(hT.upd0 hw').cell]; rfl))) ?_
     refine Tk 18 (tf 19 25) rfl (YI_v (v := .int .i64 (m - ((bt l : Nat) : Int))) rfl (fun w' hw' => r_sub rfl rfl (wi64 (by omega) (by omega)))) ?_
     refine Tk 19 (tf 20 25) rfl (YI_v (v := .int .i64 (max 0 (m - ((bt l : Nat) : Int)))) rfl (fun w' hw' => r_max rfl rfl)) ?_
     refine Tk 20 (tf 21 25) rfl (YI_v (v := .int .u64 (idx l bits m)) rfl (fun w' hw' => r_shr rfl rfl (by omega) (shr_idx hr hva))) ?_
     obtain ⟨ib2, io2, ha2, hib2, hc2⟩ := Sl.rat (0, 0) encE_len (by decide) (hE) (i := (idx l bits m).toNat) (by omega)
     refine Tk 21 (tf 22 25) rfl (YI_v (v := .pointer (some ⟨ib2, io2 + ((idx l bits m).toNat) * 2, none⟩)) rfl (fun w' hw' => r_idx (b := ib2) (off := io2) (m := 2 ^ bt l) (c := ec) (o' := io2 + ((idx l bits m).toNat) * 2) Try.underlying136 Try.sizeOf134 (by rw [← ha2]; rfl) rfl (by omega) (by omega) (by omega))) ?_
     refine Tk 22 (tf 23 25) rfl (YI_v (v := .agg #[.int .i64 (((tbl l).getD (idx l bits m).toNat (0, 0)).1), .int .i64 (((tbl l).getD (idx l bits m).toNat (0, 0)).2)]) rfl (fun w' hw' => r_loada (cs := [.int .i64 (((tbl l).getD (idx l bits m).toNat (0, 0)).1), .int .i64 (((tbl l).getD (idx l bits m).toNat (0, 0)).2)]) Try.isAgg134 Try.sizeOf134 rfl rfl (hw'.cellsk rfl hc2))) ?_
     intro w3 hU3
     have hzw3 := hU3.size
     replace HU := HU.trans0 hU3
     refine Wa_one (i := 23) (listed' := tf 24 25) (by kernel_rfl) rfl (by kernel_rfl) ?_
     refine Ws_of_Wl ?_
     have hW : Upd No w1 w3 := hU3
     refine Wl_alloc (cs := [.int .i64 0, .int .i64 0]) Try.zeroValue134 rfl ?_
     intro B4 w4 hB4 hU4 hzz4 hb4
     have hzw4 := hU4.size
     replace HU := HU.trans0 hU4
     try replace hW := hW.trans0 hU4
     refine Wl_nil ?_
     intro w5 hS5
     have hX : Upd No w1 w5 := hW.trans0 hS5.upd
     refine ⟨fun _ => ⟨hX, ?_⟩, fun h => absurd h (by rw [show barOp _ 23 = false from by kernel_rfl]; simp)⟩
     have hU5 := hS5.upd
     have hzw5 := hU5.size
     replace HU := HU.trans0 hU5
     replace hb4 := hb4.upd0 hU5
     try replace hW := hW.trans0 hU5
     refine Wt_base hX ?_
     intro w6 hU6
     have hzw6 := hU6.size
     replace HU := HU.trans0 hU6
     replace hb4 := hb4.upd0 hU6
     try replace hW := hW.trans0 hU6
     refine Wa_one (i := 24) (listed' := tf 25 25) (by kernel_rfl) rfl (by kernel_rfl) ?_
     refine Ws_of_Wl ?_
     have hW : Upd No w5 w6 := hU6
     refine Wl_storea (off := 0) (vs := [.int .i64 (((tbl l).getD (idx l bits m).toNat (0, 0)).1), .int .i64 (((tbl l).getD (idx l bits m).toNat (0, 0)).2)]) (cs' := [.int .i64 (((tbl l).getD (idx l bits m).toNat (0, 0)).1), .int .i64 (((tbl l).getD (idx l bits m).toNat (0, 0)).2)]) Try.sizeOf134 rfl rfl rfl (by simp only [List.mem_cons, List.not_mem_nil, or_false, forall_eq_or_imp, forall_eq]; exact ⟨rfl, rfl⟩) hb4 (by simp) rfl ?_
     intro w7 hU7 hzz7 hb4n
     replace hb4 := hb4n; clear hb4n
     have hzw7 := hU7.size
     replace HU := HU.trans1 hU7 (by show (False) ∨ w.heap.size ≤ B4; omega)
     refine Wl_nil ?_
     intro w8 hS8
     refine ⟨fun h => absurd h (by rw [show barOp _ 24 = true from by kernel_rfl]; simp), fun _ => ⟨Upd No w8, ?_⟩⟩
     have hU8 := hS8.upd
     have hzw8 := hU8.size
     replace HU := HU.trans0 hU8
     replace hb4 := hb4.upd0 hU8
     try replace hW := hW.trans0 hU8
     refine Wa_done (by kernel_rfl) ?_
     refine W_seq ?_
     refine W_seq ?_
     refine W_region ?_
     refine Wl_v (r_fld Try.underlying134 rfl Try.sizeOf3 rfl rfl) ?_
     refine Wl_load (v := .int .i64 (((tbl l).getD (idx l bits m).toNat (0, 0)).2)) Try.isAgg3 rfl hb4 rfl ?_
     refine Wl_v (r_mv (v := .int .i64 m) rfl) ?_
     refine Wl_v (r_gt rfl rfl) ?_
     refine Wl_nil ?_
     by_cases q5 : m < (((tbl l).getD (idx l bits m).toNat (0, 0)).2)
     ·rw [decide_eq_true q5]
      refine W_cond_t rfl ?_
      refine W_seq ?_
      refine W_region ?_
      refine Wl_v (r_as (v := .int .i64 0) rfl) ?_
      refine Wl_v (r_as (v := .int .i64 0) rfl) ?_
      refine Wl_v (r_as (v := .int .i64 3) rfl) ?_
      refine Wl_nil ?_
      refine W_ret ?_
      refine ret_end (v := .tuple #[.int .i64 0, .int .i64 0, .int .i64 3]) rfl (res3 Try.results75 rfl rfl rfl) ?_
      rw [hdt.2, if_neg (by omega)]
      exact ⟨_, rfl, (vtup3 (by first | rfl | exact vint (by omega)) (by first | rfl | exact vint (by omega)) (by first | rfl | exact vint (by omega))), HU⟩
     ·rw [decide_eq_false q5]
      refine W_cond_f rfl ?_
      refine W_skip ?_
      refine W_seq ?_
      refine W_drawt rfl (l0 := tf 0 7) (by kernel_rfl) ?_
      refine Tk 0 (tf 1 7) rfl (YI_v (v := .pointer (some ⟨B4, 0, none⟩)) rfl (fun w' hw' => r_fld Try.underlying134 rfl Try.sizeOf3 rfl rfl)) ?_
      refine Tk 1 (tf 2 7) rfl (YI_v (v := .int .i64 (((tbl l).getD (idx l bits m).toNat (0, 0)).1)) rfl (fun w' hw' => r_load Try.isAgg3 rfl (by rw [(hb4.upd0 hw').cell]; rfl))) ?_
      refine Tk 2 (tf 3 7) rfl (YI_v (v := .pointer (some ⟨B4, 1, none⟩)) rfl (fun w' hw' => r_fld Try.underlying134 rfl Try.sizeOf3 rfl rfl)) ?_
      refine Tk 3 (tf 4 7) rfl (YI_v (v := .int .i64 (((tbl l).getD (idx l bits m).toNat (0, 0)).2)) rfl (fun w' hw' => r_load Try.isAgg3 rfl (by rw [(hb4.upd0 hw').cell]; rfl))) ?_
      refine Tk 4 (tf 5 7) rfl (YI_v (v := .int .i64 (((tbl l).getD (idx l bits m).toNat (0, 0)).1)) rfl (fun w' hw' => r_as (v := .int .i64 (((tbl l).getD (idx l bits m).toNat (0, 0)).1)) rfl)) ?_
      refine Tk 5 (tf 6 7) rfl (YI_v (v := .int .i64 (((tbl l).getD (idx l bits m).toNat (0, 0)).2)) rfl (fun w' hw' => r_as (v := .int .i64 (((tbl l).getD (idx l bits m).toNat (0, 0)).2)) rfl)) ?_
      refine Tk 6 (tf 7 7) rfl (YI_v (v := .int .i64 0) rfl (fun w' hw' => r_as (v := .int .i64 0) rfl)) ?_
      intro w9 hU9
      have hzw9 := hU9.size
      replace HU := HU.trans0 hU9
      try replace hW := hW.trans0 hU9
      refine Wa_done (by kernel_rfl) ?_
      refine W_ret ?_
      refine ret_end (v := .tuple #[.int .i64 (((tbl l).getD (idx l bits m).toNat (0, 0)).1), .int .i64 (((tbl l).getD (idx l bits m).toNat (0, 0)).2), .int .i64 0]) rfl (res3 Try.results75 rfl rfl rfl) ?_
      rw [hdt.2, if_pos (by omega)]
      exact ⟨_, rfl, (vtup3 (by first | rfl | exact vint (by omega)) (by first | rfl | exact vint (by omega)) (by first | rfl | exact vint (by omega))), HU⟩
   ·rw [decide_eq_false q3]
    refine Wl_guard_f rfl ?_
    refine Wl_guard_f rfl ?_
    refine Wl_guard_f rfl ?_
    refine Wl_guard_f rfl ?_
    refine Wl_guard_t rfl ?_
    refine Wl_v (r_pick_f (v := .bool false) rfl rfl) ?_
    refine Wl_v (r_pick_f (v := .bool false) rfl rfl) ?_
    refine Wl_v (r_as (v := .bool false) rfl) ?_
    refine Wl_nil ?_
    refine W_cond_f rfl ?_
    refine W_skip ?_
    refine W_seq ?_
    have hva : Va bits m := ⟨by omega, by have hp0 := pdiv0 bits m (by omega); omega⟩
    have hdt := dec_tbl hr hbits.1 hbits.2 hva
    refine W_drawt rfl (l0 := tf 0 25) (by kernel_rfl) ?_
    refine Tk 0 (tf 1 25) rfl (YI_v (v := .pointer (some ⟨tb, 0, none⟩)) rfl (fun w' hw' => r_mv (v := .pointer (some ⟨tb, 0, none⟩)) rfl)) ?_
    refine Tk 1 (tf 2 25) rfl (YI_v (v := .pointer (some ⟨tb, 0, none⟩)) rfl (fun w' hw' => r_nil rfl)) ?_
    refine Tk 2 (tf 3 25) rfl (YI_v (v := .pointer (some ⟨tb, 0, none⟩)) rfl (fun w' hw' => r_fld Try.underlying138 rfl Try.sizeOf136 rfl rfl)) ?_
    refine Tk 3 (tf 4 25) rfl (YI_v (v := .slice ea (2 ^ bt l) ec) rfl (fun w' hw' => r_load Try.isAgg136 rfl (by rw [(hT.upd0 hw').cell]; rfl))) ?_
    refine Tk 4 (tf 5 25) rfl (YI_v (v := .int .u64 bits) rfl (fun w' hw' => r_mv (v := .int .u64 bits) rfl)) ?_
    refine Tk 5 (tf 6 25) rfl (YI_v (v := .pointer (some ⟨tb, 0, none⟩)) rfl (fun w' hw' => r_mv (v := .pointer (some ⟨tb, 0, none⟩)) rfl)) ?_
    refine Tk 6 (tf 7 25) rfl (YI_v (v := .pointer (some ⟨tb, 0, none⟩)) rfl (fun w' hw' => r_nil rfl)) ?_
    refine Tk 7 (tf 8 25) rfl (YI_v (v := .pointer (some ⟨tb, 1, none⟩)) rfl (fun w' hw' => r_fld Try.underlying138 rfl Try.sizeOf3 rfl rfl)) ?_
    refine Tk 8 (tf 9 25) rfl (YI_v (v := .int .i64 ((bt l : Nat) : Int)) rfl (fun w' hw' => r_load Try.isAgg3 rfl (by rw [(hT.upd0 hw').cell]; rfl))) ?_
    refine Tk 9 (tf 10 25) rfl (YI_v (v := .int .i64 m) rfl (fun w' hw' => r_mv (v := .int .i64 m) rfl)) ?_
    refine Tk 10 (tf 11 25) rfl (YI_v (v := .int .i64 (((bt l : Nat) : Int) - m)) rfl (fun w' hw' => r_sub rfl rfl (wi64 (by omega) (by omega)))) ?_
    refine Tk 11 (tf 12 25) rfl (YI_v (v := .int .i64 (max 0 (((bt l : Nat) : Int) - m))) rfl (fun w' hw' => r_max rfl rfl)) ?_
    refine Tk 12 (tf 13 25) rfl (YI_v (v := .int .u64 (bits * 2 ^ (max 0 (((bt l : Nat) : Int) - m)).toNat)) rfl (fun w' hw' => r_shl rfl rfl (by omega) (shl_idx hr hbits.1 hbits.2 hva))) ?_
    refine Tk 13 (tf 14 25) rfl (YI_v (v := .int .i64 m) rfl (fun w' hw' => r_mv (v := .int .i64 m) rfl)) ?_
    refine Tk 14 (tf 15 25) rfl (YI_v (v := .pointer (some ⟨tb, 0, none⟩)) rfl (fun w' hw' => r_mv (v := .pointer (some ⟨tb, 0, none⟩)) rfl)) ?_
    refine Tk 15 (tf 16 25) rfl (YI_v (v := .pointer (some ⟨tb, 0, none⟩)) rfl (fun w' hw' => r_nil rfl)) ?_
    refine Tk 16 (tf 17 25) rfl (YI_v (v := .pointer (some ⟨tb, 1, none⟩)) rfl (fun w' hw' => r_fld Try.underlying138 rfl Try.sizeOf3 rfl rfl)) ?_
    refine Tk 17 (tf 18 25) rfl (YI_v (v := .int .i64 ((bt l : Nat) : Int)) rfl (fun w' hw' => r_load Try.isAgg3 rfl (by rw [(hT.upd0 hw').cell]; rfl))) ?_
    refine Tk 18 (tf 19 25) rfl (YI_v (v := .int .i64 (m - ((bt l : Nat) : Int))) rfl (fun w' hw' => r_sub rfl rfl (wi64 (by omega) (by omega)))) ?_
    refine Tk 19 (tf 20 25) rfl (YI_v (v := .int .i64 (max 0 (m - ((bt l : Nat) : Int)))) rfl (fun w' hw' => r_max rfl rfl)) ?_
    refine Tk 20 (tf 21 25) rfl (YI_v (v := .int .u64 (idx l bits m)) rfl (fun w' hw' => r_shr rfl rfl (by omega) (shr_idx hr hva))) ?_
    obtain ⟨ib10, io10, ha10, hib10, hc10⟩ := Sl.rat (0, 0) encE_len (by decide) (hE) (i := (idx l bits m).toNat) (by omega)
    refine Tk 21 (tf 22 25) rfl (YI_v (v := .pointer (some ⟨ib10, io10 + ((idx l bits m).toNat) * 2, none⟩)) rfl (fun w' hw' => r_idx (b := ib10) (off := io10) (m := 2 ^ bt l) (c := ec) (o' := io10 + ((idx l bits m).toNat) * 2) Try.underlying136 Try.sizeOf134 (by rw [← ha10]; rfl) rfl (by omega) (by omega) (by omega))) ?_
    refine Tk 22 (tf 23 25) rfl (YI_v (v := .agg #[.int .i64 (((tbl l).getD (idx l bits m).toNat (0, 0)).1), .int .i64 (((tbl l).getD (idx l bits m).toNat (0, 0)).2)]) rfl (fun w' hw' => r_loada (cs := [.int .i64 (((tbl l).getD (idx l bits m).toNat (0, 0)).1), .int .i64 (((tbl l).getD (idx l bits m).toNat (0, 0)).2)]) Try.isAgg134 Try.sizeOf134 rfl rfl (hw'.cellsk rfl hc10))) ?_
    intro w11 hU11
    have hzw11 := hU11.size
    replace HU := HU.trans0 hU11
    refine Wa_one (i := 23) (listed' := tf 24 25) (by kernel_rfl) rfl (by kernel_rfl) ?_
    refine Ws_of_Wl ?_
    have hW : Upd No w1 w11 := hU11
    refine Wl_alloc (cs := [.int .i64 0, .int .i64 0]) Try.zeroValue134 rfl ?_
    intro B12 w12 hB12 hU12 hzz12 hb12
    have hzw12 := hU12.size
    replace HU := HU.trans0 hU12
    try replace hW := hW.trans0 hU12
    refine Wl_nil ?_
    intro w13 hS13
    have hX : Upd No w1 w13 := hW.trans0 hS13.upd
    refine ⟨fun _ => ⟨hX, ?_⟩, fun h => absurd h (by rw [show barOp _ 23 = false from by kernel_rfl]; simp)⟩
    have hU13 := hS13.upd
    have hzw13 := hU13.size
    replace HU := HU.trans0 hU13
    replace hb12 := hb12.upd0 hU13
    try replace hW := hW.trans0 hU13
    refine Wt_base hX ?_
    intro w14 hU14
    have hzw14 := hU14.size
    replace HU := HU.trans0 hU14
    replace hb12 := hb12.upd0 hU14
    try replace hW := hW.trans0 hU14
    refine Wa_one (i := 24) (listed' := tf 25 25) (by kernel_rfl) rfl (by kernel_rfl) ?_
    refine Ws_of_Wl ?_
    have hW : Upd No w13 w14 := hU14
    refine Wl_storea (off := 0) (vs := [.int .i64 (((tbl l).getD (idx l bits m).toNat (0, 0)).1), .int .i64 (((tbl l).getD (idx l bits m).toNat (0, 0)).2)]) (cs' := [.int .i64 (((tbl l).getD (idx l bits m).toNat (0, 0)).1), .int .i64 (((tbl l).getD (idx l bits m).toNat (0, 0)).2)]) Try.sizeOf134 rfl rfl rfl (by simp only [List.mem_cons, List.not_mem_nil, or_false, forall_eq_or_imp, forall_eq]; exact ⟨rfl, rfl⟩) hb12 (by simp) rfl ?_
    intro w15 hU15 hzz15 hb12n
    replace hb12 := hb12n; clear hb12n
    have hzw15 := hU15.size
    replace HU := HU.trans1 hU15 (by show (False) ∨ w.heap.size ≤ B12; omega)
    refine Wl_nil ?_
    intro w16 hS16
    refine ⟨fun h => absurd h (by rw [show barOp _ 24 = true from by kernel_rfl]; simp), fun _ => ⟨Upd No w16, ?_⟩⟩
    have hU16 := hS16.upd
    have hzw16 := hU16.size
    replace HU := HU.trans0 hU16
    replace hb12 := hb12.upd0 hU16
    try replace hW := hW.trans0 hU16
    refine Wa_done (by kernel_rfl) ?_
    refine W_seq ?_
    refine W_seq ?_
    refine W_region ?_
    refine Wl_v (r_fld Try.underlying134 rfl Try.sizeOf3 rfl rfl) ?_
    refine Wl_load (v := .int .i64 (((tbl l).getD (idx l bits m).toNat (0, 0)).2)) Try.isAgg3 rfl hb12 rfl ?_
    refine Wl_v (r_mv (v := .int .i64 m) rfl) ?_
    refine Wl_v (r_gt rfl rfl) ?_
    refine Wl_nil ?_
    by_cases q6 : m < (((tbl l).getD (idx l bits m).toNat (0, 0)).2)
    ·rw [decide_eq_true q6]
     refine W_cond_t rfl ?_
     refine W_seq ?_
     refine W_region ?_
     refine Wl_v (r_as (v := .int .i64 0) rfl) ?_
     refine Wl_v (r_as (v := .int .i64 0) rfl) ?_
     refine Wl_v (r_as (v := .int .i64 3) rfl) ?_
     refine Wl_nil ?_
     refine W_ret ?_
     refine ret_end (v := .tuple #[.int .i64 0, .int .i64 0, .int .i64 3]) rfl (res3 Try.results75 rfl rfl rfl) ?_
     rw [hdt.2, if_neg (by omega)]
     exact ⟨_, rfl, (vtup3 (by first | rfl | exact vint (by omega)) (by first | rfl | exact vint (by omega)) (by first | rfl | exact vint (by omega))), HU⟩
    ·rw [decide_eq_false q6]
     refine W_cond_f rfl ?_
     refine W_skip ?_
     refine W_seq ?_
     refine W_drawt rfl (l0 := tf 0 7) (by kernel_rfl) ?_
     refine Tk 0 (tf 1 7) rfl (YI_v (v := .pointer (some ⟨B12, 0, none⟩)) rfl (fun w' hw' => r_fld Try.underlying134 rfl Try.sizeOf3 rfl rfl)) ?_
     refine Tk 1 (tf 2 7) rfl (YI_v (v := .int .i64 (((tbl l).getD (idx l bits m).toNat (0, 0)).1)) rfl (fun w' hw' => r_load Try.isAgg3 rfl (by rw [(hb12.upd0 hw').cell]; rfl))) ?_
     refine Tk 2 (tf 3 7) rfl (YI_v (v := .pointer (some ⟨B12, 1, none⟩)) rfl (fun w' hw' => r_fld Try.underlying134 rfl Try.sizeOf3 rfl rfl)) ?_
     refine Tk 3 (tf 4 7) rfl (YI_v (v := .int .i64 (((tbl l).getD (idx l bits m).toNat (0, 0)).2)) rfl (fun w' hw' => r_load Try.isAgg3 rfl (by rw [(hb12.upd0 hw').cell]; rfl))) ?_
     refine Tk 4 (tf 5 7) rfl (YI_v (v := .int .i64 (((tbl l).getD (idx l bits m).toNat (0, 0)).1)) rfl (fun w' hw' => r_as (v := .int .i64 (((tbl l).getD (idx l bits m).toNat (0, 0)).1)) rfl)) ?_
     refine Tk 5 (tf 6 7) rfl (YI_v (v := .int .i64 (((tbl l).getD (idx l bits m).toNat (0, 0)).2)) rfl (fun w' hw' => r_as (v := .int .i64 (((tbl l).getD (idx l bits m).toNat (0, 0)).2)) rfl)) ?_
     refine Tk 6 (tf 7 7) rfl (YI_v (v := .int .i64 0) rfl (fun w' hw' => r_as (v := .int .i64 0) rfl)) ?_
     intro w17 hU17
     have hzw17 := hU17.size
     replace HU := HU.trans0 hU17
     try replace hW := hW.trans0 hU17
     refine Wa_done (by kernel_rfl) ?_
     refine W_ret ?_
     refine ret_end (v := .tuple #[.int .i64 (((tbl l).getD (idx l bits m).toNat (0, 0)).1), .int .i64 (((tbl l).getD (idx l bits m).toNat (0, 0)).2), .int .i64 0]) rfl (res3 Try.results75 rfl rfl rfl) ?_
     rw [hdt.2, if_pos (by omega)]
     exact ⟨_, rfl, (vtup3 (by first | rfl | exact vint (by omega)) (by first | rfl | exact vint (by omega)) (by first | rfl | exact vint (by omega))), HU⟩

end Go.Proofs.Ytilegaokfamfnaa
