/-
  Walks, printed by a small program of this project (gen.py).
-/
import Derived.Test.YtkgjdcjpnfjofaaYc
set_option linter.unusedVariables false
set_option linter.unusedSimpArgs false
namespace Go.Proofs.Ytkgjdcjpnfjofaa
open Go.Fw

theorem idx_num {l : List Int} (hr : Rt l) {bits m : Int} (h0 : 0 ≤ bits) (h64 : bits < 18446744073709551616) (hva : Va bits m) :
    0 ≤ bits * 2 ^ (max 0 (((bt l : Nat) : Int) - m)).toNat ∧ bits * 2 ^ (max 0 (((bt l : Nat) : Int) - m)).toNat < 18446744073709551616 := by
  have hb := bt_bd hr
  have hlt := va_lt h0 h64 hva
  have hm := hva.1
  by_cases c : m ≤ bt l
  · have e : (max 0 (((bt l : Nat) : Int) - m)).toNat = bt l - m.toNat := by omega
    have hp : (0 : Int) < 2 ^ (bt l - m.toNat) := Int.pow_pos (by decide)
    rw [e]
    have h1 : bits * 2 ^ (bt l - m.toNat) < 2 ^ m.toNat * 2 ^ (bt l - m.toNat) := Int.mul_lt_mul_of_pos_right hlt hp
    rw [← Int.pow_add, show m.toNat + (bt l - m.toNat) = bt l from by omega] at h1
    have h2 := (p2_le11 hb.2).2
    unfold p2 at h2
    exact ⟨Int.mul_nonneg h0 (Int.le_of_lt hp), by omega⟩
  · rw [show (max 0 (((bt l : Nat) : Int) - m)).toNat = 0 from by omega]; simp; omega
theorem shl_idx {l : List Int} (hr : Rt l) {bits m : Int} (h0 : 0 ≤ bits) (h64 : bits < 18446744073709551616) (hva : Va bits m) :
    IntKind.u64.wrap (bits * 2 ^ (min (max 0 (((bt l : Nat) : Int) - m)).toNat IntKind.u64.bits)) = bits * 2 ^ (max 0 (((bt l : Nat) : Int) - m)).toNat := by
  have hb := bt_bd hr
  have hm := hva.1
  have := idx_num hr h0 h64 hva
  rw [show min (max 0 (((bt l : Nat) : Int) - m)).toNat IntKind.u64.bits = (max 0 (((bt l : Nat) : Int) - m)).toNat from by show min _ 64 = _; omega]
  exact wu64 this.1 this.2
theorem shr_idx {l : List Int} (hr : Rt l) {bits m : Int} (hva : Va bits m) :
    bits * 2 ^ (max 0 (((bt l : Nat) : Int) - m)).toNat / 2 ^ (min (max 0 (m - ((bt l : Nat) : Int))).toNat IntKind.u64.bits) = idx l bits m := by
  have hb := bt_bd hr
  have hm := hva.1
  rw [show min (max 0 (m - ((bt l : Nat) : Int))).toNat IntKind.u64.bits = (max 0 (m - ((bt l : Nat) : Int))).toNat from by show min _ 64 = _; omega]; rfl
theorem dec_tbl {l : List Int} (hr : Rt l) {bits m : Int} (h0 : 0 ≤ bits) (h64 : bits < 18446744073709551616) (hva : Va bits m) :
    (0 ≤ idx l bits m ∧ idx l bits m < ((2 ^ bt l : Nat) : Int)) ∧ dec l bits m = if ((tbl l).getD (idx l bits m).toNat (0, 0)).2 ≤ m then (((tbl l).getD (idx l bits m).toNat (0, 0)).1, ((tbl l).getD (idx l bits m).toNat (0, 0)).2, 0) else (0, 0, 3) := by
  obtain ⟨h1, h2, h3⟩ := idx_bd hr h0 h64 hva
  have h4 := p2_nat (bt l)
  refine ⟨⟨h1, by omega⟩, ?_⟩
  rw [dec_idx hr h0 h64 hva, tbl_get (by omega)]
theorem and_p2 {i : Int} {k : Nat} (h0 : 0 ≤ i) (h1 : i < 18446744073709551616) (hk : k ≤ 11) : IntKind.u64.wrap (((i % 2 ^ IntKind.u64.bits).toNat &&& ((((2 ^ k : Nat) : Int) - 1) % 2 ^ IntKind.u64.bits).toNat : Nat) : Int) = i % p2 k := by
  have e : (2 ^ IntKind.u64.bits : Int) = 18446744073709551616 := by decide
  have h2 := p2_le11 hk
  have h3 := p2_nat k
  have e3 : ((((2 ^ k : Nat) : Int) - 1) % 18446744073709551616).toNat = 2 ^ k - 1 := by omega
  have h4 := Int.emod_nonneg i (b := p2 k) (by omega)
  have h5 := Int.emod_lt_of_pos i (b := p2 k) (by omega)
  have e4 : ((i.toNat % 2 ^ k : Nat) : Int) = i % p2 k := by rw [Int.natCast_emod, h3]; congr 1; omega
  rw [e, e3, Nat.and_two_pow_sub_one_eq_mod, show (i % 18446744073709551616).toNat = i.toNat from by omega, e4]
  exact wu64 h4 (by omega)
theorem shlU {d : Int} (h0 : 0 ≤ d) (h1 : d ≤ 11) : IntKind.u64.wrap (1 * 2 ^ (min d.toNat IntKind.u64.bits)) = ((2 ^ d.toNat : Nat) : Int) := by
  have e : min d.toNat IntKind.u64.bits = d.toNat := by show min _ 64 = _; omega
  have h2 := p2_le11 (a := d.toNat) (by omega)
  rw [e, ← p2_nat] at *
  have h3 := p2_nat d.toNat
  unfold p2 at h3
  rw [← h3, Int.one_mul]
  exact wu64 (by omega) (by omega)
theorem ent_rng {l : List Int} (hr : Rt l) {i : Nat} (h : i < 2 ^ bt l) : 0 ≤ (ent l i).1 ∧ (ent l i).1 < 256 ∧ 1 ≤ (ent l i).2 ∧ (ent l i).2 ≤ bt l := by
  have h1 := p2_nat (bt l)
  obtain ⟨j, e, h2, h3, h4⟩ := ent_bd hr (i := i) (by omega)
  have := hr.2.1
  rw [e]; exact ⟨by show (0 : Int) ≤ (j : Int); omega, by show (j : Int) < 256; omega, h3, h4⟩
theorem ent_dec {l : List Int} {i : Int} (h : 0 ≤ i) : ent l i.toNat = ((dec l i (mx l)).1, (dec l i (mx l)).2.1) := by
  unfold ent; rw [mx_bt, show ((i.toNat : Nat) : Int) = i from by omega]
theorem dec_rng {l : List Int} (hr : Rt l) {bits m : Int} (h0 : 0 ≤ bits) (h64 : bits < 18446744073709551616) : 0 ≤ (dec l bits m).1 ∧ (dec l bits m).1 < 256 ∧ 0 ≤ (dec l bits m).2.1 ∧ (dec l bits m).2.1 ≤ 11 := by
  by_cases hva : Va bits m
  · have hi := dec_tbl hr h0 h64 hva
    have hi2 : (idx l bits m).toNat < 2 ^ bt l := by omega
    have he := ent_rng hr hi2
    have hb := bt_bd hr
    rw [hi.2, tbl_get hi2]
    split
    · exact ⟨he.1, he.2.1, by show 0 ≤ (ent l _).2; omega, by show (ent l _).2 ≤ 11; omega⟩
    · simp
  · rw [dec_arg hr hva]; simp

set_option maxHeartbeats 1000000 in
set_option maxRecDepth 100000 in
theorem tdec {tb : Nat} {ea la : Option Addr} {n ec lc : Nat} {l : List Int} {bits m : Int} (w : World) (hT : Blk w tb [.slice ea (2 ^ bt l) ec, .int .i64 ((bt l : Nat) : Int), .slice la n lc]) (hE : Sl w (fun g => g < w.heap.size) 2 (.slice ea (2 ^ bt l) ec) (2 ^ bt l) (rows encE (tbl l))) (hr : Rt l) (hbits : 0 ≤ bits ∧ bits < 18446744073709551616) (hm : -9223372036854775808 ≤ m ∧ m ≤ 9223372036854775807) :
    Calls Try.prog 22 #[.pointer (some ⟨tb, 0, none⟩), .int .u64 bits, .int .i64 m] w (Ret fun v w' => v = .tuple #[.int .i64 ((dec l bits m).1), .int .i64 ((dec l bits m).2.1), .int .i64 ((dec l bits m).2.2)] ∧ Upd No w w') := by
  have HU : Upd (fun b => False) w w := Upd.refl _ _
  have hbl_hT := hT.lt
  have hl_hE := rlen encE_len (by decide) hE
  have hc_hE := hE.cap.1
  have hbt := bt_bd hr
  refine calls_of_W Try.func22 rfl Try.ntmps22 (by simp) ?_
  refine W_seq ?_
  refine W_region ?_
  refine Wl_v (r_as (v := .int .i64 0) rfl) ?_
  refine Wl_v (r_as (v := .int .i64 0) rfl) ?_
  refine Wl_v (r_as (v := .int .i64 0) rfl) ?_
  refine Wl_nil ?_
  refine W_seq ?_
  refine W_block ?_
  refine W_seq ?_
  refine W_region ?_
  refine Wl_v (r_mv (v := .pointer (some ⟨tb, 0, none⟩)) rfl) ?_
  refine Wl_call (r_call1 rfl Try.call37 rfl) (none_ok _ hT (by omega)) ?_
  rintro v w1 ⟨rfl, hU1⟩
  have hzw1 := hU1.size
  replace hT := hT.upd0 hU1
  replace hE := hE.upd0 hU1
  replace HU := HU.trans0 hU1
  refine Wl_v (r_as (v := .bool false) rfl) ?_
  refine Wl_nil ?_
  refine W_cond_f rfl ?_
  refine W_seq ?_
  refine W_region ?_
  refine Wl_v (r_mv (v := .int .i64 m) rfl) ?_
  refine Wl_v (r_lt rfl rfl) ?_
  refine Wl_v (r_mv (v := .bool (decide (m < 0))) rfl) ?_
  by_cases q1 : m < 0
  · rw [decide_eq_true q1]
    refine Wl_guard_f rfl ?_
    refine Wl_guard_f rfl ?_
    refine Wl_v (r_pick_t (v := .bool true) rfl rfl) ?_
    refine Wl_v (r_mv (v := .bool true) rfl) ?_
    refine Wl_guard_f rfl ?_
    refine Wl_guard_f rfl ?_
    refine Wl_guard_f rfl ?_
    refine Wl_skip rfl ?_
    refine Wl_skip rfl ?_
    refine Wl_skip rfl ?_
    refine Wl_skip rfl ?_
    refine Wl_guard_f rfl ?_
    refine Wl_v (r_pick_t (v := .bool true) rfl rfl) ?_
    refine Wl_v (r_as (v := .bool true) rfl) ?_
    refine Wl_nil ?_
    refine W_cond_t rfl ?_
    refine W_seq ?_
    refine W_region ?_
    refine Wl_v (r_as (v := .int .i64 0) rfl) ?_
    refine Wl_v (r_as (v := .int .i64 0) rfl) ?_
    refine Wl_v (r_as (v := .int .i64 2) rfl) ?_
    refine Wl_nil ?_
    refine W_ret ?_
    refine ret_end (v := .tuple #[.int .i64 0, .int .i64 0, .int .i64 2]) rfl (res3 Try.results22 rfl rfl rfl) ?_
    rw [dec_arg hr (fun h => by unfold Va at h; omega)]
    exact ⟨_, rfl, (vtup3 (by first | rfl | exact vint (by omega)) (by first | rfl | exact vint (by omega)) (by first | rfl | exact vint (by omega))), HU⟩
  · rw [decide_eq_false q1]
    refine Wl_guard_t rfl ?_
    refine Wl_v (r_mv (v := .int .i64 m) rfl) ?_
    refine Wl_guard_t rfl ?_
    refine Wl_v (r_gt rfl rfl) ?_
    refine Wl_v (r_pick_f (v := .bool (decide (64 < m))) rfl rfl) ?_
    refine Wl_v (r_mv (v := .bool (decide (64 < m))) rfl) ?_
    by_cases q2 : 64 < m
    · rw [decide_eq_true q2]
      refine Wl_guard_f rfl ?_
      refine Wl_guard_f rfl ?_
      refine Wl_guard_f rfl ?_
      refine Wl_skip rfl ?_
      refine Wl_skip rfl ?_
      refine Wl_skip rfl ?_
      refine Wl_skip rfl ?_
      refine Wl_guard_f rfl ?_
      refine Wl_v (r_pick_t (v := .bool true) rfl rfl) ?_
      refine Wl_v (r_as (v := .bool true) rfl) ?_
      refine Wl_nil ?_
      refine W_cond_t rfl ?_
      refine W_seq ?_
      refine W_region ?_
      refine Wl_v (r_as (v := .int .i64 0) rfl) ?_
      refine Wl_v (r_as (v := .int .i64 0) rfl) ?_
      refine Wl_v (r_as (v := .int .i64 2) rfl) ?_
      refine Wl_nil ?_
      refine W_ret ?_
      refine ret_end (v := .tuple #[.int .i64 0, .int .i64 0, .int .i64 2]) rfl (res3 Try.results22 rfl rfl rfl) ?_
      rw [dec_arg hr (fun h => by unfold Va at h; omega)]
      exact ⟨_, rfl, (vtup3 (by first | rfl | exact vint (by omega)) (by first | rfl | exact vint (by omega)) (by first | rfl | exact vint (by omega))), HU⟩
    · rw [decide_eq_false q2]
      refine Wl_guard_t rfl ?_
      refine Wl_v (r_mv (v := .int .i64 m) rfl) ?_
      refine Wl_guard_t rfl ?_
      refine Wl_v (r_lt rfl rfl) ?_
      refine Wl_guard_t rfl ?_
      refine Wl_v (r_mv (v := .bool (decide (m < 64))) rfl) ?_
      by_cases q3 : m < 64
      · rw [decide_eq_true q3]
        refine Wl_guard_t rfl ?_
        refine Wl_v (r_mv (v := .int .u64 bits) rfl) ?_
        refine Wl_guard_t rfl ?_
        refine Wl_v (r_mv (v := .int .i64 m) rfl) ?_
        refine Wl_guard_t rfl ?_
        refine Wl_v (r_shr rfl rfl (by omega) rfl) ?_
        refine Wl_guard_t rfl ?_
        refine Wl_v (r_gt rfl rfl) ?_
        refine Wl_guard_t rfl ?_
        refine Wl_v (r_pick_t (v := .bool (decide (0 < (bits / 2 ^ (min (m).toNat IntKind.u64.bits))))) rfl rfl) ?_
        refine Wl_v (r_pick_f (v := .bool (decide (0 < (bits / 2 ^ (min (m).toNat IntKind.u64.bits))))) rfl rfl) ?_
        refine Wl_v (r_as (v := .bool (decide (0 < (bits / 2 ^ (min (m).toNat IntKind.u64.bits))))) rfl) ?_
        refine Wl_nil ?_
        by_cases q4 : 0 < (bits / 2 ^ (min (m).toNat IntKind.u64.bits))
        · rw [decide_eq_true q4]
          refine W_cond_t rfl ?_
          refine W_seq ?_
          refine W_region ?_
          refine Wl_v (r_as (v := .int .i64 0) rfl) ?_
          refine Wl_v (r_as (v := .int .i64 0) rfl) ?_
          refine Wl_v (r_as (v := .int .i64 2) rfl) ?_
          refine Wl_nil ?_
          refine W_ret ?_
          refine ret_end (v := .tuple #[.int .i64 0, .int .i64 0, .int .i64 2]) rfl (res3 Try.results22 rfl rfl rfl) ?_
          rw [dec_arg hr (fun h => by unfold Va at h; omega)]
          exact ⟨_, rfl, (vtup3 (by first | rfl | exact vint (by omega)) (by first | rfl | exact vint (by omega)) (by first | rfl | exact vint (by omega))), HU⟩
        · rw [decide_eq_false q4]
          refine W_cond_f rfl ?_
          refine W_skip ?_
          refine W_seq ?_
          have hva : Va bits m := ⟨by omega, by have hp0 := pdiv0 bits m (by omega); omega⟩
          have hdt := dec_tbl hr hbits.1 hbits.2 hva
          refine W_drawt rfl (l0 := #[false, false, false, false, false, false, false, false, false, false, false, false, false, false, false, false, false, false, false, false, false, false, false, false, false]) (by kernel_rfl) ?_
          refine Wt_take (i := 0) (listed' := #[true, false, false, false, false, false, false, false, false, false, false, false, false, false, false, false, false, false, false, false, false, false, false, false, false]) (by kernel_rfl) rfl (by kernel_rfl) (by kernel_rfl) (by kernel_rfl) (by kernel_rfl) (YI_v (v := .pointer (some ⟨tb, 0, none⟩)) rfl (fun w' hw' => r_mv (v := .pointer (some ⟨tb, 0, none⟩)) rfl)) ?_
          refine Wt_take (i := 1) (listed' := #[true, true, false, false, false, false, false, false, false, false, false, false, false, false, false, false, false, false, false, false, false, false, false, false, false]) (by kernel_rfl) rfl (by kernel_rfl) (by kernel_rfl) (by kernel_rfl) (by kernel_rfl) (YI_v (v := .pointer (some ⟨tb, 0, none⟩)) rfl (fun w' hw' => r_nil rfl)) ?_
          refine Wt_take (i := 2) (listed' := #[true, true, true, false, false, false, false, false, false, false, false, false, false, false, false, false, false, false, false, false, false, false, false, false, false]) (by kernel_rfl) rfl (by kernel_rfl) (by kernel_rfl) (by kernel_rfl) (by kernel_rfl) (YI_v (v := .pointer (some ⟨tb, 0, none⟩)) rfl (fun w' hw' => r_fld Try.underlying67 rfl Try.sizeOf65 rfl rfl)) ?_
          refine Wt_take (i := 3) (listed' := #[true, true, true, true, false, false, false, false, false, false, false, false, false, false, false, false, false, false, false, false, false, false, false, false, false]) (by kernel_rfl) rfl (by kernel_rfl) (by kernel_rfl) (by kernel_rfl) (by kernel_rfl) (YI_v (v := .slice ea (2 ^ bt l) ec) rfl (fun w' hw' => r_load Try.isAgg65 rfl (by rw [(hT.upd0 hw').cell]; rfl))) ?_
          refine Wt_take (i := 4) (listed' := #[true, true, true, true, true, false, false, false, false, false, false, false, false, false, false, false, false, false, false, false, false, false, false, false, false]) (by kernel_rfl) rfl (by kernel_rfl) (by kernel_rfl) (by kernel_rfl) (by kernel_rfl) (YI_v (v := .int .u64 bits) rfl (fun w' hw' => r_mv (v := .int .u64 bits) rfl)) ?_
          refine Wt_take (i := 5) (listed' := #[true, true, true, true, true, true, false, false, false, false, false, false, false, false, false, false, false, false, false, false, false, false, false, false, false]) (by kernel_rfl) rfl (by kernel_rfl) (by kernel_rfl) (by kernel_rfl) (by kernel_rfl) (YI_v (v := .pointer (some ⟨tb, 0, none⟩)) rfl (fun w' hw' => r_mv (v := .pointer (some ⟨tb, 0, none⟩)) rfl)) ?_
          refine Wt_take (i := 6) (listed' := #[true, true, true, true, true, true, true, false, false, false, false, false, false, false, false, false, false, false, false, false, false, false, false, false, false]) (by kernel_rfl) rfl (by kernel_rfl) (by kernel_rfl) (by kernel_rfl) (by kernel_rfl) (YI_v (v := .pointer (some ⟨tb, 0, none⟩)) rfl (fun w' hw' => r_nil rfl)) ?_
          refine Wt_take (i := 7) (listed' := #[true, true, true, true, true, true, true, true, false, false, false, false, false, false, false, false, false, false, false, false, false, false, false, false, false]) (by kernel_rfl) rfl (by kernel_rfl) (by kernel_rfl) (by kernel_rfl) (by kernel_rfl) (YI_v (v := .pointer (some ⟨tb, 1, none⟩)) rfl (fun w' hw' => r_fld Try.underlying67 rfl Try.sizeOf3 rfl rfl)) ?_
          refine Wt_take (i := 8) (listed' := #[true, true, true, true, true, true, true, true, true, false, false, false, false, false, false, false, false, false, false, false, false, false, false, false, false]) (by kernel_rfl) rfl (by kernel_rfl) (by kernel_rfl) (by kernel_rfl) (by kernel_rfl) (YI_v (v := .int .i64 ((bt l : Nat) : Int)) rfl (fun w' hw' => r_load Try.isAgg3 rfl (by rw [(hT.upd0 hw').cell]; rfl))) ?_
          refine Wt_take (i := 9) (listed' := #[true, true, true, true, true, true, true, true, true, true, false, false, false, false, false, false, false, false, false, false, false, false, false, false, false]) (by kernel_rfl) rfl (by kernel_rfl) (by kernel_rfl) (by kernel_rfl) (by kernel_rfl) (YI_v (v := .int .i64 m) rfl (fun w' hw' => r_mv (v := .int .i64 m) rfl)) ?_
          refine Wt_take (i := 10) (listed' := #[true, true, true, true, true, true, true, true, true, true, true, false, false, false, false, false, false, false, false, false, false, false, false, false, false]) (by kernel_rfl) rfl (by kernel_rfl) (by kernel_rfl) (by kernel_rfl) (by kernel_rfl) (YI_v (v := .int .i64 (((bt l : Nat) : Int) - m)) rfl (fun w' hw' => r_sub rfl rfl (wi64 (by omega) (by omega)))) ?_
          refine Wt_take (i := 11) (listed' := #[true, true, true, true, true, true, true, true, true, true, true, true, false, false, false, false, false, false, false, false, false, false, false, false, false]) (by kernel_rfl) rfl (by kernel_rfl) (by kernel_rfl) (by kernel_rfl) (by kernel_rfl) (YI_v (v := .int .i64 (max 0 (((bt l : Nat) : Int) - m))) rfl (fun w' hw' => r_max rfl rfl)) ?_
          refine Wt_take (i := 12) (listed' := #[true, true, true, true, true, true, true, true, true, true, true, true, true, false, false, false, false, false, false, false, false, false, false, false, false]) (by kernel_rfl) rfl (by kernel_rfl) (by kernel_rfl) (by kernel_rfl) (by kernel_rfl) (YI_v (v := .int .u64 (bits * 2 ^ (max 0 (((bt l : Nat) : Int) - m)).toNat)) rfl (fun w' hw' => r_shl rfl rfl (by omega) (shl_idx hr hbits.1 hbits.2 hva))) ?_
          refine Wt_take (i := 13) (listed' := #[true, true, true, true, true, true, true, true, true, true, true, true, true, true, false, false, false, false, false, false, false, false, false, false, false]) (by kernel_rfl) rfl (by kernel_rfl) (by kernel_rfl) (by kernel_rfl) (by kernel_rfl) (YI_v (v := .int .i64 m) rfl (fun w' hw' => r_mv (v := .int .i64 m) rfl)) ?_
          refine Wt_take (i := 14) (listed' := #[true, true, true, true, true, true, true, true, true, true, true, true, true, true, true, false, false, false, false, false, false, false, false, false, false]) (by kernel_rfl) rfl (by kernel_rfl) (by kernel_rfl) (by kernel_rfl) (by kernel_rfl) (YI_v (v := .pointer (some ⟨tb, 0, none⟩)) rfl (fun w' hw' => r_mv (v := .pointer (some ⟨tb, 0, none⟩)) rfl)) ?_
          refine Wt_take (i := 15) (listed' := #[true, true, true, true, true, true, true, true, true, true, true, true, true, true, true, true, false, false, false, false, false, false, false, false, false]) (by kernel_rfl) rfl (by kernel_rfl) (by kernel_rfl) (by kernel_rfl) (by kernel_rfl) (YI_v (v := .pointer (some ⟨tb, 0, none⟩)) rfl (fun w' hw' => r_nil rfl)) ?_
          refine Wt_take (i := 16) (listed' := #[true, true, true, true, true, true, true, true, true, true, true, true, true, true, true, true, true, false, false, false, false, false, false, false, false]) (by kernel_rfl) rfl (by kernel_rfl) (by kernel_rfl) (by kernel_rfl) (by kernel_rfl) (YI_v (v := .pointer (some ⟨tb, 1, none⟩)) rfl (fun w' hw' => r_fld Try.underlying67 rfl Try.sizeOf3 rfl rfl)) ?_
          refine Wt_take (i := 17) (listed' := #[true, true, true, true, true, true, true, true, true, true, true, true, true, true, true, true, true, true, false, false, false, false, false, false, false]) (by kernel_rfl) rfl (by kernel_rfl) (by kernel_rfl) (by kernel_rfl) (by kernel_rfl) (YI_v (v := .int .i64 ((bt l : Nat) : Int)) rfl (fun w' hw' => r_load Try.isAgg3 rfl (by rw [(hT.upd0 hw').cell]; rfl))) ?_
          refine Wt_take (i := 18) (listed' := #[true, true, true, true, true, true, true, true, true, true, true, true, true, true, true, true, true, true, true, false, false, false, false, false, false]) (by kernel_rfl) rfl (by kernel_rfl) (by kernel_rfl) (by kernel_rfl) (by kernel_rfl) (YI_v (v := .int .i64 (m - ((bt l : Nat) : Int))) rfl (fun w' hw' => r_sub rfl rfl (wi64 (by omega) (by omega)))) ?_
          refine Wt_take (i := 19) (listed' := #[true, true, true, true, true, true, true, true, true, true, true, true, true, true, true, true, true, true, true, true, false, false, false, false, false]) (by kernel_rfl) rfl (by kernel_rfl) (by kernel_rfl) (by kernel_rfl) (by kernel_rfl) (YI_v (v := .int .i64 (max 0 (m - ((bt l : Nat) : Int)))) rfl (fun w' hw' => r_max rfl rfl)) ?_
          refine Wt_take (i := 20) (listed' := #[true, true, true, true, true, true, true, true, true, true, true, true, true, true, true, true, true, true, true, true, true, false, false, false, false]) (by kernel_rfl) rfl (by kernel_rfl) (by kernel_rfl) (by kernel_rfl) (by kernel_rfl) (YI_v (v := .int .u64 (idx l bits m)) rfl (fun w' hw' => r_shr rfl rfl (by omega) (shr_idx hr hva))) ?_
          obtain ⟨ib2, io2, ha2, hib2, hc2⟩ := Sl.rat (0, 0) encE_len (by decide) (hE) (i := (idx l bits m).toNat) (by omega)
          refine Wt_take (i := 21) (listed' := #[true, true, true, true, true, true, true, true, true, true, true, true, true, true, true, true, true, true, true, true, true, true, false, false, false]) (by kernel_rfl) rfl (by kernel_rfl) (by kernel_rfl) (by kernel_rfl) (by kernel_rfl) (YI_v (v := .pointer (some ⟨ib2, io2 + ((idx l bits m).toNat) * 2, none⟩)) rfl (fun w' hw' => r_idx (b := ib2) (off := io2) (m := 2 ^ bt l) (c := ec) (o' := io2 + ((idx l bits m).toNat) * 2) Try.underlying65 Try.sizeOf38 (by rw [← ha2]; rfl) rfl (by omega) (by omega) (by omega))) ?_
          refine Wt_take (i := 22) (listed' := #[true, true, true, true, true, true, true, true, true, true, true, true, true, true, true, true, true, true, true, true, true, true, true, false, false]) (by kernel_rfl) rfl (by kernel_rfl) (by kernel_rfl) (by kernel_rfl) (by kernel_rfl) (YI_v (v := .agg #[.int .i64 (((tbl l).getD (idx l bits m).toNat (0, 0)).1), .int .i64 (((tbl l).getD (idx l bits m).toNat (0, 0)).2)]) rfl (fun w' hw' => r_loada (cs := [.int .i64 (((tbl l).getD (idx l bits m).toNat (0, 0)).1), .int .i64 (((tbl l).getD (idx l bits m).toNat (0, 0)).2)]) Try.isAgg38 Try.sizeOf38 rfl rfl (hw'.cellsk rfl hc2))) ?_
          intro w3 hU3
          have hzw3 := hU3.size
          replace hT := hT.upd0 hU3
          replace hE := hE.upd0 hU3
          replace HU := HU.trans0 hU3
          refine Wa_one (i := 23) (listed' := #[true, true, true, true, true, true, true, true, true, true, true, true, true, true, true, true, true, true, true, true, true, true, true, true, false]) (by kernel_rfl) rfl (by kernel_rfl) ?_
          refine Ws_of_Wl ?_
          have hW : Upd No w1 w3 := hU3
          refine Wl_alloc (cs := [.int .i64 0, .int .i64 0]) Try.zeroValue38 rfl ?_
          intro B4 w4 hB4 hU4 hzz4 hb4
          have hzw4 := hU4.size
          replace hT := hT.upd0 hU4
          replace hE := hE.upd0 hU4
          replace HU := HU.trans0 hU4
          try replace hW := hW.trans0 hU4
          refine Wl_nil ?_
          intro w5 hS5
          have hX : Upd No w1 w5 := hW.trans0 hS5.upd
          refine ⟨fun _ => ⟨hX, ?_⟩, fun h => absurd h (by rw [show barOp _ 23 = false from by kernel_rfl]; simp)⟩
          have hU5 := hS5.upd
          have hzw5 := hU5.size
          replace hT := hT.upd0 hU5
          replace hE := hE.upd0 hU5
          replace HU := HU.trans0 hU5
          replace hb4 := hb4.upd0 hU5
          try replace hW := hW.trans0 hU5
          refine Wt_base hX ?_
          intro w6 hU6
          have hzw6 := hU6.size
          replace hT := hT.upd0 hU6
          replace hE := hE.upd0 hU6
          replace HU := HU.trans0 hU6
          replace hb4 := hb4.upd0 hU6
          try replace hW := hW.trans0 hU6
          refine Wa_one (i := 24) (listed' := #[true, true, true, true, true, true, true, true, true, true, true, true, true, true, true, true, true, true, true, true, true, true, true, true, true]) (by kernel_rfl) rfl (by kernel_rfl) ?_
          refine Ws_of_Wl ?_
          have hW : Upd No w5 w6 := hU6
          refine Wl_storea (off := 0) (vs := [.int .i64 (((tbl l).getD (idx l bits m).toNat (0, 0)).1), .int .i64 (((tbl l).getD (idx l bits m).toNat (0, 0)).2)]) (cs' := [.int .i64 (((tbl l).getD (idx l bits m).toNat (0, 0)).1), .int .i64 (((tbl l).getD (idx l bits m).toNat (0, 0)).2)]) Try.sizeOf38 rfl rfl rfl (by simp only [List.mem_cons, List.not_mem_nil, or_false, forall_eq_or_imp, forall_eq]; exact ⟨rfl, rfl⟩) hb4 (by simp) rfl ?_
          intro w7 hU7 hzz7 hb4n
          replace hb4 := hb4n; clear hb4n
          have hzw7 := hU7.size
          replace hT := hT.upd1 hU7 (by omega)
          replace hE := hE.upd1 hU7 (by intro h1; have h3 : B4 < w.heap.size := h1; omega)
          replace HU := HU.trans1 hU7 (by show (False) ∨ w.heap.size ≤ B4; omega)
          refine Wl_nil ?_
          intro w8 hS8
          refine ⟨fun h => absurd h (by rw [show barOp _ 24 = true from by kernel_rfl]; simp), fun _ => ⟨Upd No w8, ?_⟩⟩
          have hU8 := hS8.upd
          have hzw8 := hU8.size
          replace hT := hT.upd0 hU8
          replace hE := hE.upd0 hU8
          replace HU := HU.trans0 hU8
          replace hb4 := hb4.upd0 hU8
          try replace hW := hW.trans0 hU8
          refine Wa_done (by kernel_rfl) ?_
          refine W_seq ?_
          refine W_seq ?_
          refine W_region ?_
          refine Wl_v (r_fld Try.underlying38 rfl Try.sizeOf3 rfl rfl) ?_
          refine Wl_load (v := .int .i64 (((tbl l).getD (idx l bits m).toNat (0, 0)).2)) Try.isAgg3 rfl hb4 rfl ?_
          refine Wl_v (r_mv (v := .int .i64 m) rfl) ?_
          refine Wl_v (r_gt rfl rfl) ?_
          refine Wl_nil ?_
          by_cases q5 : m < (((tbl l).getD (idx l bits m).toNat (0, 0)).2)
          · rw [decide_eq_true q5]
            refine W_cond_t rfl ?_
            refine W_seq ?_
            refine W_region ?_
            refine Wl_v (r_as (v := .int .i64 0) rfl) ?_
            refine Wl_v (r_as (v := .int .i64 0) rfl) ?_
            refine Wl_v (r_as (v := .int .i64 3) rfl) ?_
            refine Wl_nil ?_
            refine W_ret ?_
            refine ret_end (v := .tuple #[.int .i64 0, .int .i64 0, .int .i64 3]) rfl (res3 Try.results22 rfl rfl rfl) ?_
            rw [hdt.2, if_neg (by omega)]
            exact ⟨_, rfl, (vtup3 (by first | rfl | exact vint (by omega)) (by first | rfl | exact vint (by omega)) (by first | rfl | exact vint (by omega))), HU⟩
          · rw [decide_eq_false q5]
            refine W_cond_f rfl ?_
            refine W_skip ?_
            refine W_seq ?_
            refine W_drawt rfl (l0 := #[false, false, false, false, false, false, false]) (by kernel_rfl) ?_
            refine Wt_take (i := 0) (listed' := #[true, false, false, false, false, false, false]) (by kernel_rfl) rfl (by kernel_rfl) (by kernel_rfl) (by kernel_rfl) (by kernel_rfl) (YI_v (v := .pointer (some ⟨B4, 0, none⟩)) rfl (fun w' hw' => r_fld Try.underlying38 rfl Try.sizeOf3 rfl rfl)) ?_
            refine Wt_take (i := 1) (listed' := #[true, true, false, false, false, false, false]) (by kernel_rfl) rfl (by kernel_rfl) (by kernel_rfl) (by kernel_rfl) (by kernel_rfl) (YI_v (v := .int .i64 (((tbl l).getD (idx l bits m).toNat (0, 0)).1)) rfl (fun w' hw' => r_load Try.isAgg3 rfl (by rw [(hb4.upd0 hw').cell]; rfl))) ?_
            refine Wt_take (i := 2) (listed' := #[true, true, true, false, false, false, false]) (by kernel_rfl) rfl (by kernel_rfl) (by kernel_rfl) (by kernel_rfl) (by kernel_rfl) (YI_v (v := .pointer (some ⟨B4, 1, none⟩)) rfl (fun w' hw' => r_fld Try.underlying38 rfl Try.sizeOf3 rfl rfl)) ?_
            refine Wt_take (i := 3) (listed' := #[true, true, true, true, false, false, false]) (by kernel_rfl) rfl (by kernel_rfl) (by kernel_rfl) (by kernel_rfl) (by kernel_rfl) (YI_v (v := .int .i64 (((tbl l).getD (idx l bits m).toNat (0, 0)).2)) rfl (fun w' hw' => r_load Try.isAgg3 rfl (by rw [(hb4.upd0 hw').cell]; rfl))) ?_
            refine Wt_take (i := 4) (listed' := #[true, true, true, true, true, false, false]) (by kernel_rfl) rfl (by kernel_rfl) (by kernel_rfl) (by kernel_rfl) (by kernel_rfl) (YI_v (v := .int .i64 (((tbl l).getD (idx l bits m).toNat (0, 0)).1)) rfl (fun w' hw' => r_as (v := .int .i64 (((tbl l).getD (idx l bits m).toNat (0, 0)).1)) rfl)) ?_
            refine Wt_take (i := 5) (listed' := #[true, true, true, true, true, true, false]) (by kernel_rfl) rfl (by kernel_rfl) (by kernel_rfl) (by kernel_rfl) (by kernel_rfl) (YI_v (v := .int .i64 (((tbl l).getD (idx l bits m).toNat (0, 0)).2)) rfl (fun w' hw' => r_as (v := .int .i64 (((tbl l).getD (idx l bits m).toNat (0, 0)).2)) rfl)) ?_
            refine Wt_take (i := 6) (listed' := #[true, true, true, true, true, true, true]) (by kernel_rfl) rfl (by kernel_rfl) (by kernel_rfl) (by kernel_rfl) (by kernel_rfl) (YI_v (v := .int .i64 0) rfl (fun w' hw' => r_as (v := .int .i64 0) rfl)) ?_
            intro w9 hU9
            have hzw9 := hU9.size
            replace hT := hT.upd0 hU9
            replace hE := hE.upd0 hU9
            replace HU := HU.trans0 hU9
            replace hb4 := hb4.upd0 hU9
            try replace hW := hW.trans0 hU9
            refine Wa_done (by kernel_rfl) ?_
            refine W_ret ?_
            refine ret_end (v := .tuple #[.int .i64 (((tbl l).getD (idx l bits m).toNat (0, 0)).1), .int .i64 (((tbl l).getD (idx l bits m).toNat (0, 0)).2), .int .i64 0]) rfl (res3 Try.results22 rfl rfl rfl) ?_
            rw [hdt.2, if_pos (by omega)]
            exact ⟨_, rfl, (vtup3 (by first | rfl | exact vint (by omega)) (by first | rfl | exact vint (by omega)) (by first | rfl | exact vint (by omega))), HU⟩
      · rw [decide_eq_false q3]
        refine Wl_guard_f rfl ?_
        refine Wl_guard_f rfl ?_
        refine Wl_guard_f rfl ?_
        refine Wl_guard_f rfl ?_
        refine Wl_guard_t rfl ?_
        refine Wl_v (r_pick_f (v := .bool false) rfl rfl) ?_
        refine Wl_v (r_pick_f (v := .bool false) rfl rfl) ?_
        refine Wl_v (r_as (v := .bool false) rfl) ?_
        refine Wl_nil ?_
        refine W_cond_f rfl ?_
        refine W_skip ?_
        refine W_seq ?_
        have hva : Va bits m := ⟨by omega, by have hp0 := pdiv0 bits m (by omega); omega⟩
        have hdt := dec_tbl hr hbits.1 hbits.2 hva
        refine W_drawt rfl (l0 := #[false, false, false, false, false, false, false, false, false, false, false, false, false, false, false, false, false, false, false, false, false, false, false, false, false]) (by kernel_rfl) ?_
        refine Wt_take (i := 0) (listed' := #[true, false, false, false, false, false, false, false, false, false, false, false, false, false, false, false, false, false, false, false, false, false, false, false, false]) (by kernel_rfl) rfl (by kernel_rfl) (by kernel_rfl) (by kernel_rfl) (by kernel_rfl) (YI_v (v := .pointer (some ⟨tb, 0, none⟩)) rfl (fun w' hw' => r_mv (v := .pointer (some ⟨tb, 0, none⟩)) rfl)) ?_
        refine Wt_take (i := 1) (listed' := #[true, true, false, false, false, false, false, false, false, false, false, false, false, false, false, false, false, false, false, false, false, false, false, false, false]) (by kernel_rfl) rfl (by kernel_rfl) (by kernel_rfl) (by kernel_rfl) (by kernel_rfl) (YI_v (v := .pointer (some ⟨tb, 0, none⟩)) rfl (fun w' hw' => r_nil rfl)) ?_
        refine Wt_take (i := 2) (listed' := #[true, true, true, false, false, false, false, false, false, false, false, false, false, false, false, false, false, false, false, false, false, false, false, false, false]) (by kernel_rfl) rfl (by kernel_rfl) (by kernel_rfl) (by kernel_rfl) (by kernel_rfl) (YI_v (v := .pointer (some ⟨tb, 0, none⟩)) rfl (fun w' hw' => r_fld Try.underlying67 rfl Try.sizeOf65 rfl rfl)) ?_
        refine Wt_take (i := 3) (listed' := #[true, true, true, true, false, false, false, false, false, false, false, false, false, false, false, false, false, false, false, false, false, false, false, false, false]) (by kernel_rfl) rfl (by kernel_rfl) (by kernel_rfl) (by kernel_rfl) (by kernel_rfl) (YI_v (v := .slice ea (2 ^ bt l) ec) rfl (fun w' hw' => r_load Try.isAgg65 rfl (by rw [(hT.upd0 hw').cell]; rfl))) ?_
        refine Wt_take (i := 4) (listed' := #[true, true, true, true, true, false, false, false, false, false, false, false, false, false, false, false, false, false, false, false, false, false, false, false, false]) (by kernel_rfl) rfl (by kernel_rfl) (by kernel_rfl) (by kernel_rfl) (by kernel_rfl) (YI_v (v := .int .u64 bits) rfl (fun w' hw' => r_mv (v := .int .u64 bits) rfl)) ?_
        refine Wt_take (i := 5) (listed' := #[true, true, true, true, true, true, false, false, false, false, false, false, false, false, false, false, false, false, false, false, false, false, false, false, false]) (by kernel_rfl) rfl (by kernel_rfl) (by kernel_rfl) (by kernel_rfl) (by kernel_rfl) (YI_v (v := .pointer (some ⟨tb, 0, none⟩)) rfl (fun w' hw' => r_mv (v := .pointer (some ⟨tb, 0, none⟩)) rfl)) ?_
        refine Wt_take (i := 6) (listed' := #[true, true, true, true, true, true, true, false, false, false, false, false, false, false, false, false, false, false, false, false, false, false, false, false, false]) (by kernel_rfl) rfl (by kernel_rfl) (by kernel_rfl) (by kernel_rfl) (by kernel_rfl) (YI_v (v := .pointer (some ⟨tb, 0, none⟩)) rfl (fun w' hw' => r_nil rfl)) ?_
        refine Wt_take (i := 7) (listed' := #[true, true, true, true, true, true, true, true, false, false, false, false, false, false, false, false, false, false, false, false, false, false, false, false, false]) (by kernel_rfl) rfl (by kernel_rfl) (by kernel_rfl) (by kernel_rfl) (by kernel_rfl) (YI_v (v := .pointer (some ⟨tb, 1, none⟩)) rfl (fun w' hw' => r_fld Try.underlying67 rfl Try.sizeOf3 rfl rfl)) ?_
        refine Wt_take (i := 8) (listed' := #[true, true, true, true, true, true, true, true, true, false, false, false, false, false, false, false, false, false, false, false, false, false, false, false, false]) (by kernel_rfl) rfl (by kernel_rfl) (by kernel_rfl) (by kernel_rfl) (by kernel_rfl) (YI_v (v := .int .i64 ((bt l : Nat) : Int)) rfl (fun w' hw' => r_load Try.isAgg3 rfl (by rw [(hT.upd0 hw').cell]; rfl))) ?_
        refine Wt_take (i := 9) (listed' := #[true, true, true, true, true, true, true, true, true, true, false, false, false, false, false, false, false, false, false, false, false, false, false, false, false]) (by kernel_rfl) rfl (by kernel_rfl) (by kernel_rfl) (by kernel_rfl) (by kernel_rfl) (YI_v (v := .int .i64 m) rfl (fun w' hw' => r_mv (v := .int .i64 m) rfl)) ?_
        refine Wt_take (i := 10) (listed' := #[true, true, true, true, true, true, true, true, true, true, true, false, false, false, false, false, false, false, false, false, false, false, false, false, false]) (by kernel_rfl) rfl (by kernel_rfl) (by kernel_rfl) (by kernel_rfl) (by kernel_rfl) (YI_v (v := .int .i64 (((bt l : Nat) : Int) - m)) rfl (fun w' hw' => r_sub rfl rfl (wi64 (by omega) (by omega)))) ?_
        refine Wt_take (i := 11) (listed' := #[true, true, true, true, true, true, true, true, true, true, true, true, false, false, false, false, false, false, false, false, false, false, false, false, false]) (by kernel_rfl) rfl (by kernel_rfl) (by kernel_rfl) (by kernel_rfl) (by kernel_rfl) (YI_v (v := .int .i64 (max 0 (((bt l : Nat) : Int) - m))) rfl (fun w' hw' => r_max rfl rfl)) ?_
        refine Wt_take (i := 12) (listed' := #[true, true, true, true, true, true, true, true, true, true, true, true, true, false, false, false, false, false, false, false, false, false, false, false, false]) (by kernel_rfl) rfl (by kernel_rfl) (by kernel_rfl) (by kernel_rfl) (by kernel_rfl) (YI_v (v := .int .u64 (bits * 2 ^ (max 0 (((bt l : Nat) : Int) - m)).toNat)) rfl (fun w' hw' => r_shl rfl rfl (by omega) (shl_idx hr hbits.1 hbits.2 hva))) ?_
        refine Wt_take (i := 13) (listed' := #[true, true, true, true, true, true, true, true, true, true, true, true, true, true, false, false, false, false, false, false, false, false, false, false, false]) (by kernel_rfl) rfl (by kernel_rfl) (by kernel_rfl) (by kernel_rfl) (by kernel_rfl) (YI_v (v := .int .i64 m) rfl (fun w' hw' => r_mv (v := .int .i64 m) rfl)) ?_
        refine Wt_take (i := 14) (listed' := #[true, true, true, true, true, true, true, true, true, true, true, true, true, true, true, false, false, false, false, false, false, false, false, false, false]) (by kernel_rfl) rfl (by kernel_rfl) (by kernel_rfl) (by kernel_rfl) (by kernel_rfl) (YI_v (v := .pointer (some ⟨tb, 0, none⟩)) rfl (fun w' hw' => r_mv (v := .pointer (some ⟨tb, 0, none⟩)) rfl)) ?_
        refine Wt_take (i := 15) (listed' := #[true, true, true, true, true, true, true, true, true, true, true, true, true, true, true, true, false, false, false, false, false, false, false, false, false]) (by kernel_rfl) rfl (by kernel_rfl) (by kernel_rfl) (by kernel_rfl) (by kernel_rfl) (YI_v (v := .pointer (some ⟨tb, 0, none⟩)) rfl (fun w' hw' => r_nil rfl)) ?_
        refine Wt_take (i := 16) (listed' := #[true, true, true, true, true, true, true, true, true, true, true, true, true, true, true, true, true, false, false, false, false, false, false, false, false]) (by kernel_rfl) rfl (by kernel_rfl) (by kernel_rfl) (by kernel_rfl) (by kernel_rfl) (YI_v (v := .pointer (some ⟨tb, 1, none⟩)) rfl (fun w' hw' => r_fld Try.underlying67 rfl Try.sizeOf3 rfl rfl)) ?_
        refine Wt_take (i := 17) (listed' := #[true, true, true, true, true, true, true, true, true, true, true, true, true, true, true, true, true, true, false, false, false, false, false, false, false]) (by kernel_rfl) rfl (by kernel_rfl) (by kernel_rfl) (by kernel_rfl) (by kernel_rfl) (YI_v (v := .int .i64 ((bt l : Nat) : Int)) rfl (fun w' hw' => r_load Try.isAgg3 rfl (by rw [(hT.upd0 hw').cell]; rfl))) ?_
        refine Wt_take (i := 18) (listed' := #[true, true, true, true, true, true, true, true, true, true, true, true, true, true, true, true, true, true, true, false, false, false, false, false, false]) (by kernel_rfl) rfl (by kernel_rfl) (by kernel_rfl) (by kernel_rfl) (by kernel_rfl) (YI_v (v := .int .i64 (m - ((bt l : Nat) : Int))) rfl (fun w' hw' => r_sub rfl rfl (wi64 (by omega) (by omega)))) ?_
        refine Wt_take (i := 19) (listed' := #[true, true, true, true, true, true, true, true, true, true, true, true, true, true, true, true, true, true, true, true, false, false, false, false, false]) (by kernel_rfl) rfl (by kernel_rfl) (by kernel_rfl) (by kernel_rfl) (by kernel_rfl) (YI_v (v := .int .i64 (max 0 (m - ((bt l : Nat) : Int)))) rfl (fun w' hw' => r_max rfl rfl)) ?_
        refine Wt_take (i := 20) (listed' := #[true, true, true, true, true, true, true, true, true, true, true, true, true, true, true, true, true, true, true, true, true, false, false, false, false]) (by kernel_rfl) rfl (by kernel_rfl) (by kernel_rfl) (by kernel_rfl) (by kernel_rfl) (YI_v (v := .int .u64 (idx l bits m)) rfl (fun w' hw' => r_shr rfl rfl (by omega) (shr_idx hr hva))) ?_
        obtain ⟨ib10, io10, ha10, hib10, hc10⟩ := Sl.rat (0, 0) encE_len (by decide) (hE) (i := (idx l bits m).toNat) (by omega)
        refine Wt_take (i := 21) (listed' := #[true, true, true, true, true, true, true, true, true, true, true, true, true, true, true, true, true, true, true, true, true, true, false, false, false]) (by kernel_rfl) rfl (by kernel_rfl) (by kernel_rfl) (by kernel_rfl) (by kernel_rfl) (YI_v (v := .pointer (some ⟨ib10, io10 + ((idx l bits m).toNat) * 2, none⟩)) rfl (fun w' hw' => r_idx (b := ib10) (off := io10) (m := 2 ^ bt l) (c := ec) (o' := io10 + ((idx l bits m).toNat) * 2) Try.underlying65 Try.sizeOf38 (by rw [← ha10]; rfl) rfl (by omega) (by omega) (by omega))) ?_
        refine Wt_take (i := 22) (listed' := #[true, true, true, true, true, true, true, true, true, true, true, true, true, true, true, true, true, true, true, true, true, true, true, false, false]) (by kernel_rfl) rfl (by kernel_rfl) (by kernel_rfl) (by kernel_rfl) (by kernel_rfl) (YI_v (v := .agg #[.int .i64 (((tbl l).getD (idx l bits m).toNat (0, 0)).1), .int .i64 (((tbl l).getD (idx l bits m).toNat (0, 0)).2)]) rfl (fun w' hw' => r_loada (cs := [.int .i64 (((tbl l).getD (idx l bits m).toNat (0, 0)).1), .int .i64 (((tbl l).getD (idx l bits m).toNat (0, 0)).2)]) Try.isAgg38 Try.sizeOf38 rfl rfl (hw'.cellsk rfl hc10))) ?_
        intro w11 hU11
        have hzw11 := hU11.size
        replace hT := hT.upd0 hU11
        replace hE := hE.upd0 hU11
        replace HU := HU.trans0 hU11
        refine Wa_one (i := 23) (listed' := #[true, true, true, true, true, true, true, true, true, true, true, true, true, true, true, true, true, true, true, true, true, true, true, true, false]) (by kernel_rfl) rfl (by kernel_rfl) ?_
        refine Ws_of_Wl ?_
        have hW : Upd No w1 w11 := hU11
        refine Wl_alloc (cs := [.int .i64 0, .int .i64 0]) Try.zeroValue38 rfl ?_
        intro B12 w12 hB12 hU12 hzz12 hb12
        have hzw12 := hU12.size
        replace hT := hT.upd0 hU12
        replace hE := hE.upd0 hU12
        replace HU := HU.trans0 hU12
        try replace hW := hW.trans0 hU12
        refine Wl_nil ?_
        intro w13 hS13
        have hX : Upd No w1 w13 := hW.trans0 hS13.upd
        refine ⟨fun _ => ⟨hX, ?_⟩, fun h => absurd h (by rw [show barOp _ 23 = false from by kernel_rfl]; simp)⟩
        have hU13 := hS13.upd
        have hzw13 := hU13.size
        replace hT := hT.upd0 hU13
        replace hE := hE.upd0 hU13
        replace HU := HU.trans0 hU13
        replace hb12 := hb12.upd0 hU13
        try replace hW := hW.trans0 hU13
        refine Wt_base hX ?_
        intro w14 hU14
        have hzw14 := hU14.size
        replace hT := hT.upd0 hU14
        replace hE := hE.upd0 hU14
        replace HU := HU.trans0 hU14
        replace hb12 := hb12.upd0 hU14
        try replace hW := hW.trans0 hU14
        refine Wa_one (i := 24) (listed' := #[true, true, true, true, true, true, true, true, true, true, true, true, true, true, true, true, true, true, true, true, true, true, true, true, true]) (by kernel_rfl) rfl (by kernel_rfl) ?_
        refine Ws_of_Wl ?_
        have hW : Upd No w13 w14 := hU14
        refine Wl_storea (off := 0) (vs := [.int .i64 (((tbl l).getD (idx l bits m).toNat (0, 0)).1), .int .i64 (((tbl l).getD (idx l bits m).toNat (0, 0)).2)]) (cs' := [.int .i64 (((tbl l).getD (idx l bits m).toNat (0, 0)).1), .int .i64 (((tbl l).getD (idx l bits m).toNat (0, 0)).2)]) Try.sizeOf38 rfl rfl rfl (by simp only [List.mem_cons, List.not_mem_nil, or_false, forall_eq_or_imp, forall_eq]; exact ⟨rfl, rfl⟩) hb12 (by simp) rfl ?_
        intro w15 hU15 hzz15 hb12n
        replace hb12 := hb12n; clear hb12n
        have hzw15 := hU15.size
        replace hT := hT.upd1 hU15 (by omega)
        replace hE := hE.upd1 hU15 (by intro h1; have h3 : B12 < w.heap.size := h1; omega)
        replace HU := HU.trans1 hU15 (by show (False) ∨ w.heap.size ≤ B12; omega)
        refine Wl_nil ?_
        intro w16 hS16
        refine ⟨fun h => absurd h (by rw [show barOp _ 24 = true from by kernel_rfl]; simp), fun _ => ⟨Upd No w16, ?_⟩⟩
        have hU16 := hS16.upd
        have hzw16 := hU16.size
        replace hT := hT.upd0 hU16
        replace hE := hE.upd0 hU16
        replace HU := HU.trans0 hU16
        replace hb12 := hb12.upd0 hU16
        try replace hW := hW.trans0 hU16
        refine Wa_done (by kernel_rfl) ?_
        refine W_seq ?_
        refine W_seq ?_
        refine W_region ?_
        refine Wl_v (r_fld Try.underlying38 rfl Try.sizeOf3 rfl rfl) ?_
        refine Wl_load (v := .int .i64 (((tbl l).getD (idx l bits m).toNat (0, 0)).2)) Try.isAgg3 rfl hb12 rfl ?_
        refine Wl_v (r_mv (v := .int .i64 m) rfl) ?_
        refine Wl_v (r_gt rfl rfl) ?_
        refine Wl_nil ?_
        by_cases q6 : m < (((tbl l).getD (idx l bits m).toNat (0, 0)).2)
        · rw [decide_eq_true q6]
          refine W_cond_t rfl ?_
          refine W_seq ?_
          refine W_region ?_
          refine Wl_v (r_as (v := .int .i64 0) rfl) ?_
          refine Wl_v (r_as (v := .int .i64 0) rfl) ?_
          refine Wl_v (r_as (v := .int .i64 3) rfl) ?_
          refine Wl_nil ?_
          refine W_ret ?_
          refine ret_end (v := .tuple #[.int .i64 0, .int .i64 0, .int .i64 3]) rfl (res3 Try.results22 rfl rfl rfl) ?_
          rw [hdt.2, if_neg (by omega)]
          exact ⟨_, rfl, (vtup3 (by first | rfl | exact vint (by omega)) (by first | rfl | exact vint (by omega)) (by first | rfl | exact vint (by omega))), HU⟩
        · rw [decide_eq_false q6]
          refine W_cond_f rfl ?_
          refine W_skip ?_
          refine W_seq ?_
          refine W_drawt rfl (l0 := #[false, false, false, false, false, false, false]) (by kernel_rfl) ?_
          refine Wt_take (i := 0) (listed' := #[true, false, false, false, false, false, false]) (by kernel_rfl) rfl (by kernel_rfl) (by kernel_rfl) (by kernel_rfl) (by kernel_rfl) (YI_v (v := .pointer (some ⟨B12, 0, none⟩)) rfl (fun w' hw' => r_fld Try.underlying38 rfl Try.sizeOf3 rfl rfl)) ?_
          refine Wt_take (i := 1) (listed' := #[true, true, false, false, false, false, false]) (by kernel_rfl) rfl (by kernel_rfl) (by kernel_rfl) (by kernel_rfl) (by kernel_rfl) (YI_v (v := .int .i64 (((tbl l).getD (idx l bits m).toNat (0, 0)).1)) rfl (fun w' hw' => r_load Try.isAgg3 rfl (by rw [(hb12.upd0 hw').cell]; rfl))) ?_
          refine Wt_take (i := 2) (listed' := #[true, true, true, false, false, false, false]) (by kernel_rfl) rfl (by kernel_rfl) (by kernel_rfl) (by kernel_rfl) (by kernel_rfl) (YI_v (v := .pointer (some ⟨B12, 1, none⟩)) rfl (fun w' hw' => r_fld Try.underlying38 rfl Try.sizeOf3 rfl rfl)) ?_
          refine Wt_take (i := 3) (listed' := #[true, true, true, true, false, false, false]) (by kernel_rfl) rfl (by kernel_rfl) (by kernel_rfl) (by kernel_rfl) (by kernel_rfl) (YI_v (v := .int .i64 (((tbl l).getD (idx l bits m).toNat (0, 0)).2)) rfl (fun w' hw' => r_load Try.isAgg3 rfl (by rw [(hb12.upd0 hw').cell]; rfl))) ?_
          refine Wt_take (i := 4) (listed' := #[true, true, true, true, true, false, false]) (by kernel_rfl) rfl (by kernel_rfl) (by kernel_rfl) (by kernel_rfl) (by kernel_rfl) (YI_v (v := .int .i64 (((tbl l).getD (idx l bits m).toNat (0, 0)).1)) rfl (fun w' hw' => r_as (v := .int .i64 (((tbl l).getD (idx l bits m).toNat (0, 0)).1)) rfl)) ?_
          refine Wt_take (i := 5) (listed' := #[true, true, true, true, true, true, false]) (by kernel_rfl) rfl (by kernel_rfl) (by kernel_rfl) (by kernel_rfl) (by kernel_rfl) (YI_v (v := .int .i64 (((tbl l).getD (idx l bits m).toNat (0, 0)).2)) rfl (fun w' hw' => r_as (v := .int .i64 (((tbl l).getD (idx l bits m).toNat (0, 0)).2)) rfl)) ?_
          refine Wt_take (i := 6) (listed' := #[true, true, true, true, true, true, true]) (by kernel_rfl) rfl (by kernel_rfl) (by kernel_rfl) (by kernel_rfl) (by kernel_rfl) (YI_v (v := .int .i64 0) rfl (fun w' hw' => r_as (v := .int .i64 0) rfl)) ?_
          intro w17 hU17
          have hzw17 := hU17.size
          replace hT := hT.upd0 hU17
          replace hE := hE.upd0 hU17
          replace HU := HU.trans0 hU17
          replace hb12 := hb12.upd0 hU17
          try replace hW := hW.trans0 hU17
          refine Wa_done (by kernel_rfl) ?_
          refine W_ret ?_
          refine ret_end (v := .tuple #[.int .i64 (((tbl l).getD (idx l bits m).toNat (0, 0)).1), .int .i64 (((tbl l).getD (idx l bits m).toNat (0, 0)).2), .int .i64 0]) rfl (res3 Try.results22 rfl rfl rfl) ?_
          rw [hdt.2, if_pos (by omega)]
          exact ⟨_, rfl, (vtup3 (by first | rfl | exact vint (by omega)) (by first | rfl | exact vint (by omega)) (by first | rfl | exact vint (by omega))), HU⟩

set_option maxHeartbeats 2000000 in
set_option maxRecDepth 100000 in
theorem two_in {tb : Nat} {ea la : Option Addr} {n ec lc : Nat} {l : List Int} {i : Int} (w : World) (hT : Blk w tb [.slice ea (2 ^ bt l) ec, .int .i64 ((bt l : Nat) : Int), .slice la n lc]) (hE : Sl w (fun g => g < w.heap.size) 2 (.slice ea (2 ^ bt l) ec) (2 ^ bt l) (rows encE (tbl l))) (hr : Rt l) (hi : 0 ≤ i ∧ i < ((2 ^ bt l : Nat) : Int)) :
    Calls Try.prog 24 #[.pointer (some ⟨tb, 0, none⟩), .int .i64 i] w (Ret fun v w' => v = .tuple #[.agg #[.int .i64 ((two l i.toNat).1), .int .i64 ((two l i.toNat).2.1), .int .i64 ((two l i.toNat).2.2.1), .int .i64 ((two l i.toNat).2.2.2)], .bool true] ∧ Upd No w w') := by
  have HU : Upd (fun b => False) w w := Upd.refl _ _
  have hbl_hT := hT.lt
  have hl_hE := rlen encE_len (by decide) hE
  have hc_hE := hE.cap.1
  have hbt := bt_bd hr
  have h11 := (p2_le11 hbt.2).2
  have hpn := p2_nat (bt l)
  have her := ent_rng hr (i := i.toNat) (by omega)
  refine calls_of_W Try.func24 rfl Try.ntmps24 (by simp) ?_
  refine W_seq ?_
  refine W_region ?_
  refine Wl_alloc (cs := [.int .i64 0, .int .i64 0, .int .i64 0, .int .i64 0]) Try.zeroValue52 rfl ?_
  intro B1 w1 hB1 hU1 hzz1 hb1
  have hzw1 := hU1.size
  replace hT := hT.upd0 hU1
  replace hE := hE.upd0 hU1
  replace HU := HU.trans0 hU1
  refine Wl_v (r_as (v := .bool false) rfl) ?_
  refine Wl_nil ?_
  refine W_seq ?_
  refine W_region ?_
  refine Wl_v (r_mv (v := .pointer (some ⟨tb, 0, none⟩)) rfl) ?_
  refine Wl_v (r_mv (v := .int .i64 i) rfl) ?_
  refine Wl_call (r_call2 rfl Try.call18 rfl rfl) (tat_in _ hT hE.any (by omega) (by omega)) ?_
  rintro v w2 ⟨rfl, hU2⟩
  have hzw2 := hU2.size
  replace hT := hT.upd0 hU2
  replace hE := hE.upd0 hU2
  replace HU := HU.trans0 hU2
  replace hb1 := hb1.upd0 hU2
  refine Wl_v (r_mv (v := .tuple #[.agg #[.int .i64 ((ent l i.toNat).1), .int .i64 ((ent l i.toNat).2)], .bool true]) rfl) ?_
  refine Wl_v (r_ext (v := .agg #[.int .i64 ((ent l i.toNat).1), .int .i64 ((ent l i.toNat).2)]) rfl rfl) ?_
  refine Wl_v (r_ext (v := .bool true) rfl rfl) ?_
  refine Wl_alloc (cs := [.int .i64 0, .int .i64 0]) Try.zeroValue38 rfl ?_
  intro B3 w3 hB3 hU3 hzz3 hb3
  have hzw3 := hU3.size
  replace hT := hT.upd0 hU3
  replace hE := hE.upd0 hU3
  replace HU := HU.trans0 hU3
  replace hb1 := hb1.upd0 hU3
  refine Wl_storea (off := 0) (vs := [.int .i64 ((ent l i.toNat).1), .int .i64 ((ent l i.toNat).2)]) (cs' := [.int .i64 ((ent l i.toNat).1), .int .i64 ((ent l i.toNat).2)]) Try.sizeOf38 rfl rfl rfl (by simp only [List.mem_cons, List.not_mem_nil, or_false, forall_eq_or_imp, forall_eq]; exact ⟨rfl, rfl⟩) hb3 (by simp) rfl ?_
  intro w4 hU4 hzz4 hb3n
  replace hb3 := hb3n; clear hb3n
  have hzw4 := hU4.size
  replace hT := hT.upd1 hU4 (by omega)
  replace hE := hE.upd1 hU4 (by intro h1; have h3 : B3 < w.heap.size := h1; omega)
  replace HU := HU.trans1 hU4 (by show (False) ∨ w.heap.size ≤ B3; omega)
  replace hb1 := hb1.upd1 hU4 (by omega)
  refine Wl_v (r_as (v := .bool true) rfl) ?_
  refine Wl_nil ?_
  refine W_seq ?_
  refine W_seq ?_
  refine W_region ?_
  refine Wl_v (r_mv (v := .bool true) rfl) ?_
  refine Wl_v (r_not (b := true) rfl) ?_
  refine Wl_nil ?_
  refine W_cond_f rfl ?_
  refine W_skip ?_
  refine W_seq ?_
  refine W_region ?_
  refine Wl_v (r_fld Try.underlying38 rfl Try.sizeOf3 rfl rfl) ?_
  refine Wl_load (v := .int .i64 ((ent l i.toNat).1)) Try.isAgg3 rfl hb3 rfl ?_
  refine Wl_v (r_fld Try.underlying38 rfl Try.sizeOf3 rfl rfl) ?_
  refine Wl_load (v := .int .i64 ((ent l i.toNat).2)) Try.isAgg3 rfl hb3 rfl ?_
  refine Wl_v (r_build (pl := #[(0, 1), (1, 1), (2, 1), (3, 1)]) (pv := [(0, .int .i64 1), (1, .int .i64 ((ent l i.toNat).1)), (3, .int .i64 ((ent l i.toNat).2))]) (cs := #[.int .i64 1, .int .i64 ((ent l i.toNat).1), .int .i64 0, .int .i64 ((ent l i.toNat).2)]) Try.zeroValue52 Try.underlying52 (fun w => by kernel_rfl) (by simp only [List.map_toArray, List.map_cons, List.map_nil] <;> rfl) (by kernel_rfl)) ?_
  refine Wl_v (r_fld Try.underlying38 rfl Try.sizeOf3 rfl rfl) ?_
  refine Wl_load (v := .int .i64 ((ent l i.toNat).1)) Try.isAgg3 rfl hb3 rfl ?_
  refine Wl_v (r_fld Try.underlying38 rfl Try.sizeOf3 rfl rfl) ?_
  refine Wl_load (v := .int .i64 ((ent l i.toNat).2)) Try.isAgg3 rfl hb3 rfl ?_
  refine Wl_v (r_build (pl := #[(0, 1), (1, 1), (2, 1), (3, 1)]) (pv := [(0, .int .i64 2), (1, .int .i64 ((ent l i.toNat).1)), (3, .int .i64 ((ent l i.toNat).2))]) (cs := #[.int .i64 2, .int .i64 ((ent l i.toNat).1), .int .i64 0, .int .i64 ((ent l i.toNat).2)]) Try.zeroValue52 Try.underlying52 (fun w => by kernel_rfl) (by simp only [List.map_toArray, List.map_cons, List.map_nil] <;> rfl) (by kernel_rfl)) ?_
  refine Wl_v (r_builda (pv := [(0, .agg #[.int .i64 1, .int .i64 ((ent l i.toNat).1), .int .i64 0, .int .i64 ((ent l i.toNat).2)]), (1, .agg #[.int .i64 2, .int .i64 ((ent l i.toNat).1), .int .i64 0, .int .i64 ((ent l i.toNat).2)])]) (cs := #[.int .i64 1, .int .i64 ((ent l i.toNat).1), .int .i64 0, .int .i64 ((ent l i.toNat).2), .int .i64 2, .int .i64 ((ent l i.toNat).1), .int .i64 0, .int .i64 ((ent l i.toNat).2)]) Try.zeroValue83 Try.underlying83 Try.sizeOf52 (by simp only [List.map_toArray, List.map_cons, List.map_nil] <;> rfl) (by kernel_rfl)) ?_
  refine Wl_alloc (cs := [.int .i64 0, .int .i64 0, .int .i64 0, .int .i64 0, .int .i64 0, .int .i64 0, .int .i64 0, .int .i64 0]) Try.zeroValue83 rfl ?_
  intro B5 w5 hB5 hU5 hzz5 hb5
  have hzw5 := hU5.size
  replace hT := hT.upd0 hU5
  replace hE := hE.upd0 hU5
  replace HU := HU.trans0 hU5
  replace hb1 := hb1.upd0 hU5
  replace hb3 := hb3.upd0 hU5
  refine Wl_storea (off := 0) (vs := [.int .i64 1, .int .i64 ((ent l i.toNat).1), .int .i64 0, .int .i64 ((ent l i.toNat).2), .int .i64 2, .int .i64 ((ent l i.toNat).1), .int .i64 0, .int .i64 ((ent l i.toNat).2)]) (cs' := [.int .i64 1, .int .i64 ((ent l i.toNat).1), .int .i64 0, .int .i64 ((ent l i.toNat).2), .int .i64 2, .int .i64 ((ent l i.toNat).1), .int .i64 0, .int .i64 ((ent l i.toNat).2)]) Try.sizeOf83 rfl rfl rfl (by simp only [List.mem_cons, List.not_mem_nil, or_false, forall_eq_or_imp, forall_eq]; exact ⟨rfl, rfl, rfl, rfl, rfl, rfl, rfl, rfl⟩) hb5 (by simp) rfl ?_
  intro w6 hU6 hzz6 hb5n
  replace hb5 := hb5n; clear hb5n
  have hzw6 := hU6.size
  replace hT := hT.upd1 hU6 (by omega)
  replace hE := hE.upd1 hU6 (by intro h1; have h3 : B5 < w.heap.size := h1; omega)
  replace HU := HU.trans1 hU6 (by show (False) ∨ w.heap.size ≤ B5; omega)
  replace hb1 := hb1.upd1 hU6 (by omega)
  replace hb3 := hb3.upd1 hU6 (by omega)
  refine Wl_nil ?_
  refine W_seq ?_
  refine W_drawt rfl (l0 := #[false, false, false, false, false, false, false, false]) (by kernel_rfl) ?_
  refine Wt_take (i := 0) (listed' := #[true, false, false, false, false, false, false, false]) (by kernel_rfl) rfl (by kernel_rfl) (by kernel_rfl) (by kernel_rfl) (by kernel_rfl) (YI_v (v := .pointer (some ⟨tb, 0, none⟩)) rfl (fun w' hw' => r_mv (v := .pointer (some ⟨tb, 0, none⟩)) rfl)) ?_
  refine Wt_take (i := 1) (listed' := #[true, true, false, false, false, false, false, false]) (by kernel_rfl) rfl (by kernel_rfl) (by kernel_rfl) (by kernel_rfl) (by kernel_rfl) (YI_v (v := .pointer (some ⟨tb, 0, none⟩)) rfl (fun w' hw' => r_nil rfl)) ?_
  refine Wt_take (i := 2) (listed' := #[true, true, true, false, false, false, false, false]) (by kernel_rfl) rfl (by kernel_rfl) (by kernel_rfl) (by kernel_rfl) (by kernel_rfl) (YI_v (v := .pointer (some ⟨tb, 1, none⟩)) rfl (fun w' hw' => r_fld Try.underlying67 rfl Try.sizeOf3 rfl rfl)) ?_
  refine Wt_take (i := 3) (listed' := #[true, true, true, true, false, false, false, false]) (by kernel_rfl) rfl (by kernel_rfl) (by kernel_rfl) (by kernel_rfl) (by kernel_rfl) (YI_v (v := .int .i64 ((bt l : Nat) : Int)) rfl (fun w' hw' => r_load Try.isAgg3 rfl (by rw [(hT.upd0 hw').cell]; rfl))) ?_
  refine Wt_take (i := 4) (listed' := #[true, true, true, true, true, false, false, false]) (by kernel_rfl) rfl (by kernel_rfl) (by kernel_rfl) (by kernel_rfl) (by kernel_rfl) (YI_v (v := .pointer (some ⟨B3, 1, none⟩)) rfl (fun w' hw' => r_fld Try.underlying38 rfl Try.sizeOf3 rfl rfl)) ?_
  refine Wt_take (i := 5) (listed' := #[true, true, true, true, true, true, false, false]) (by kernel_rfl) rfl (by kernel_rfl) (by kernel_rfl) (by kernel_rfl) (by kernel_rfl) (YI_v (v := .int .i64 ((ent l i.toNat).2)) rfl (fun w' hw' => r_load Try.isAgg3 rfl (by rw [(hb3.upd0 hw').cell]; rfl))) ?_
  refine Wt_take (i := 6) (listed' := #[true, true, true, true, true, true, true, false]) (by kernel_rfl) rfl (by kernel_rfl) (by kernel_rfl) (by kernel_rfl) (by kernel_rfl) (YI_v (v := .int .i64 (((bt l : Nat) : Int) - ((ent l i.toNat).2))) rfl (fun w' hw' => r_sub rfl rfl (wi64 (by omega) (by omega)))) ?_
  refine Wt_take (i := 7) (listed' := #[true, true, true, true, true, true, true, true]) (by kernel_rfl) rfl (by kernel_rfl) (by kernel_rfl) (by kernel_rfl) (by kernel_rfl) (YI_v (v := .int .i64 (((bt l : Nat) : Int) - ((ent l i.toNat).2))) rfl (fun w' hw' => r_as (v := .int .i64 (((bt l : Nat) : Int) - ((ent l i.toNat).2))) rfl)) ?_
  intro w7 hU7
  have hzw7 := hU7.size
  replace hT := hT.upd0 hU7
  replace hE := hE.upd0 hU7
  replace HU := HU.trans0 hU7
  replace hb1 := hb1.upd0 hU7
  replace hb3 := hb3.upd0 hU7
  replace hb5 := hb5.upd0 hU7
  refine Wa_done (by kernel_rfl) ?_
  refine W_seq ?_
  refine W_region ?_
  refine Wl_v (r_mv (v := .pointer (some ⟨tb, 0, none⟩)) rfl) ?_
  refine Wl_v (r_mv (v := .int .i64 i) rfl) ?_
  refine Wl_v (r_cvt Try.underlying3 Try.underlying45 rfl (wu64 (by omega) (by omega))) ?_
  refine Wl_v (r_mv (v := .int .i64 (((bt l : Nat) : Int) - ((ent l i.toNat).2))) rfl) ?_
  refine Wl_v (r_shl rfl rfl (by omega) (shlU (by omega) (by omega))) ?_
  have hp2b := p2n_le (d := ((bt l : Nat) : Int) - (ent l i.toNat).2) (by omega)
  refine Wl_v (r_sub rfl rfl (wu64 (by omega) (by omega))) ?_
  refine Wl_v (r_and rfl rfl (show _ = i % p2 (bt l - (ent l i.toNat).2.toNat) from by rw [show (((bt l : Nat) : Int) - (ent l i.toNat).2).toNat = bt l - (ent l i.toNat).2.toNat from by omega]; exact and_p2 (by omega) (by omega) (by omega))) ?_
  have hlow := Int.emod_nonneg i (b := p2 (bt l - (ent l i.toNat).2.toNat)) (by have := p2_pos (bt l - (ent l i.toNat).2.toNat); omega)
  have hlow2 := Int.emod_lt_of_pos i (b := p2 (bt l - (ent l i.toNat).2.toNat)) (p2_pos _)
  have hp11 := p2_le11 (a := bt l - (ent l i.toNat).2.toNat) (by omega)
  refine Wl_v (r_mv (v := .int .i64 (((bt l : Nat) : Int) - ((ent l i.toNat).2))) rfl) ?_
  refine Wl_call (r_call3 rfl Try.call22 rfl rfl rfl) (tdec _ hT hE.any (by omega) (by omega) (by omega)) ?_
  rintro v w8 ⟨rfl, hU8⟩
  have hzw8 := hU8.size
  replace hT := hT.upd0 hU8
  replace hE := hE.upd0 hU8
  replace HU := HU.trans0 hU8
  replace hb1 := hb1.upd0 hU8
  replace hb3 := hb3.upd0 hU8
  replace hb5 := hb5.upd0 hU8
  have hdr := dec_rng hr (bits := i % p2 (bt l - (ent l i.toNat).2.toNat)) (m := ((bt l : Nat) : Int) - (ent l i.toNat).2) (by omega) (by omega)
  refine Wl_v (r_mv (v := .tuple #[.int .i64 ((dec l (i % p2 (bt l - (ent l i.toNat).2.toNat)) (((bt l : Nat) : Int) - ((ent l i.toNat).2))).1), .int .i64 ((dec l (i % p2 (bt l - (ent l i.toNat).2.toNat)) (((bt l : Nat) : Int) - ((ent l i.toNat).2))).2.1), .int .i64 ((dec l (i % p2 (bt l - (ent l i.toNat).2.toNat)) (((bt l : Nat) : Int) - ((ent l i.toNat).2))).2.2)]) rfl) ?_
  refine Wl_v (r_ext (v := .int .i64 ((dec l (i % p2 (bt l - (ent l i.toNat).2.toNat)) (((bt l : Nat) : Int) - ((ent l i.toNat).2))).1)) rfl rfl) ?_
  refine Wl_v (r_ext (v := .int .i64 ((dec l (i % p2 (bt l - (ent l i.toNat).2.toNat)) (((bt l : Nat) : Int) - ((ent l i.toNat).2))).2.1)) rfl rfl) ?_
  refine Wl_v (r_ext (v := .int .i64 ((dec l (i % p2 (bt l - (ent l i.toNat).2.toNat)) (((bt l : Nat) : Int) - ((ent l i.toNat).2))).2.2)) rfl rfl) ?_
  refine Wl_v (r_as (v := .int .i64 ((dec l (i % p2 (bt l - (ent l i.toNat).2.toNat)) (((bt l : Nat) : Int) - ((ent l i.toNat).2))).1)) rfl) ?_
  refine Wl_v (r_as (v := .int .i64 ((dec l (i % p2 (bt l - (ent l i.toNat).2.toNat)) (((bt l : Nat) : Int) - ((ent l i.toNat).2))).2.1)) rfl) ?_
  refine Wl_v (r_as (v := .int .i64 ((dec l (i % p2 (bt l - (ent l i.toNat).2.toNat)) (((bt l : Nat) : Int) - ((ent l i.toNat).2))).2.2)) rfl) ?_
  refine Wl_nil ?_
  refine W_seq ?_
  refine W_seq ?_
  refine W_region ?_
  refine Wl_v (r_mv (v := .int .i64 ((dec l (i % p2 (bt l - (ent l i.toNat).2.toNat)) (((bt l : Nat) : Int) - ((ent l i.toNat).2))).2.2)) rfl) ?_
  refine Wl_v (r_ne rfl rfl) ?_
  refine Wl_nil ?_
  by_cases q1 : ((dec l (i % p2 (bt l - (ent l i.toNat).2.toNat)) (((bt l : Nat) : Int) - ((ent l i.toNat).2))).2.2) ≠ 0
  · rw [decide_eq_true q1]
    refine W_cond_t rfl ?_
    refine W_seq ?_
    refine W_region ?_
    refine Wl_v (r_idxa (len := 2) (i' := 0) (o' := 0) Try.underlying83 Try.sizeOf52 rfl rfl (by decide) (by decide) (by decide)) ?_
    refine Wl_v (r_loada (b := B5) (off := 0) (cs := [.int .i64 1, .int .i64 ((ent l i.toNat).1), .int .i64 0, .int .i64 ((ent l i.toNat).2)]) Try.isAgg52 Try.sizeOf52 rfl rfl (fun j hj => by rw [hb5.cell]; match j, hj with | 0, _ => rfl | 1, _ => rfl | 2, _ => rfl | 3, _ => rfl)) ?_
    refine Wl_storea (off := 0) (vs := [.int .i64 1, .int .i64 ((ent l i.toNat).1), .int .i64 0, .int .i64 ((ent l i.toNat).2)]) (cs' := [.int .i64 1, .int .i64 ((ent l i.toNat).1), .int .i64 0, .int .i64 ((ent l i.toNat).2)]) Try.sizeOf52 rfl rfl rfl (by simp only [List.mem_cons, List.not_mem_nil, or_false, forall_eq_or_imp, forall_eq]; exact ⟨rfl, rfl, rfl, rfl⟩) hb1 (by simp) rfl ?_
    intro w9 hU9 hzz9 hb1n
    replace hb1 := hb1n; clear hb1n
    have hzw9 := hU9.size
    replace hT := hT.upd1 hU9 (by omega)
    replace hE := hE.upd1 hU9 (by intro h1; have h3 : B1 < w.heap.size := h1; omega)
    replace HU := HU.trans1 hU9 (by show (False) ∨ w.heap.size ≤ B1; omega)
    replace hb3 := hb3.upd1 hU9 (by omega)
    replace hb5 := hb5.upd1 hU9 (by omega)
    refine Wl_v (r_as (v := .bool true) rfl) ?_
    refine Wl_nil ?_
    refine W_ret ?_
    refine ret_end (v := .tuple #[.agg #[.int .i64 1, .int .i64 ((ent l i.toNat).1), .int .i64 0, .int .i64 ((ent l i.toNat).2)], .bool true]) rfl (rm_ct Try.results24 rfl rfl (cellAgg Try.isAgg52 Try.sizeOf52 rfl hb1)) ?_
    have htw : two l i.toNat = (1, (ent l i.toNat).1, 0, (ent l i.toNat).2) := by unfold two; rw [show ((i.toNat : Nat) : Int) = i from by omega, if_pos q1]
    exact ⟨_, rfl, (vtup2 (by rw [htw]) rfl), HU⟩
  · rw [decide_eq_false q1]
    refine W_cond_f rfl ?_
    refine W_skip ?_
    refine W_seq ?_
    refine W_drawS (T := fun g => g = B5) rfl (l0 := #[false, false, false, false, false, false, false, false, false, false, false]) (by kernel_rfl) ?_
    refine WtS_take (i := 0) (listed' := #[true, false, false, false, false, false, false, false, false, false, false]) (Upd.refl _ _) (by kernel_rfl) rfl (by kernel_rfl) (by kernel_rfl) (by kernel_rfl) (by kernel_rfl) (YS_v (v := .int .i64 ((dec l (i % p2 (bt l - (ent l i.toNat).2.toNat)) (((bt l : Nat) : Int) - ((ent l i.toNat).2))).1)) rfl (fun w' hw' => r_mv (v := .int .i64 ((dec l (i % p2 (bt l - (ent l i.toNat).2.toNat)) (((bt l : Nat) : Int) - ((ent l i.toNat).2))).1)) rfl)) ?_
    refine WtS_take (i := 1) (listed' := #[true, true, false, false, false, false, false, false, false, false, false]) (Upd.refl _ _) (by kernel_rfl) rfl (by kernel_rfl) (by kernel_rfl) (by kernel_rfl) (by kernel_rfl) (YS_v (v := .pointer (some ⟨B3, 1, none⟩)) rfl (fun w' hw' => r_fld Try.underlying38 rfl Try.sizeOf3 rfl rfl)) ?_
    refine WtS_take (i := 2) (listed' := #[true, true, true, false, false, false, false, false, false, false, false]) (Upd.refl _ _) (by kernel_rfl) rfl (by kernel_rfl) (by kernel_rfl) (by kernel_rfl) (by kernel_rfl) (YS_v (v := .int .i64 ((ent l i.toNat).2)) rfl (fun w' hw' => r_load Try.isAgg3 rfl (by rw [(hb3.upd1 hw' (by omega)).cell]; rfl))) ?_
    refine WtS_take (i := 3) (listed' := #[true, true, true, true, false, false, false, false, false, false, false]) (Upd.refl _ _) (by kernel_rfl) rfl (by kernel_rfl) (by kernel_rfl) (by kernel_rfl) (by kernel_rfl) (YS_v (v := .int .i64 ((dec l (i % p2 (bt l - (ent l i.toNat).2.toNat)) (((bt l : Nat) : Int) - ((ent l i.toNat).2))).2.1)) rfl (fun w' hw' => r_mv (v := .int .i64 ((dec l (i % p2 (bt l - (ent l i.toNat).2.toNat)) (((bt l : Nat) : Int) - ((ent l i.toNat).2))).2.1)) rfl)) ?_
    refine WtS_take (i := 4) (listed' := #[true, true, true, true, true, false, false, false, false, false, false]) (Upd.refl _ _) (by kernel_rfl) rfl (by kernel_rfl) (by kernel_rfl) (by kernel_rfl) (by kernel_rfl) (YS_v (v := .int .i64 (((ent l i.toNat).2) + ((dec l (i % p2 (bt l - (ent l i.toNat).2.toNat)) (((bt l : Nat) : Int) - ((ent l i.toNat).2))).2.1))) rfl (fun w' hw' => r_add rfl rfl (wi64 (by omega) (by omega)))) ?_
    refine WtS_take (i := 5) (listed' := #[true, true, true, true, true, true, false, false, false, false, false]) (Upd.refl _ _) (by kernel_rfl) rfl (by kernel_rfl) (by kernel_rfl) (by kernel_rfl) (by kernel_rfl) (YS_v (v := .pointer (some ⟨B5, 4, none⟩)) rfl (fun w' hw' => r_idxa (len := 2) (i' := 1) (o' := 4) Try.underlying83 Try.sizeOf52 rfl rfl (by decide) (by decide) (by decide))) ?_
    refine WtS_take (i := 6) (listed' := #[true, true, true, true, true, true, true, false, false, false, false]) (Upd.refl _ _) (by kernel_rfl) rfl (by kernel_rfl) (by kernel_rfl) (by kernel_rfl) (by kernel_rfl) (YS_v (v := .pointer (some ⟨B5, 6, none⟩)) rfl (fun w' hw' => r_fld Try.underlying52 rfl Try.sizeOf3 rfl rfl)) ?_
    intro w10 hU10
    have hzw10 := hU10.size
    replace hT := hT.upd0 hU10
    replace hE := hE.upd0 hU10
    replace HU := HU.trans0 hU10
    replace hb1 := hb1.upd0 hU10
    replace hb3 := hb3.upd0 hU10
    replace hb5 := hb5.upd0 hU10
    refine Wa_one (i := 7) (listed' := #[true, true, true, true, true, true, true, true, false, false, false]) (by kernel_rfl) rfl (by kernel_rfl) ?_
    refine Ws_of_Wl ?_
    have hW : Upd (fun g => g = B5) w8 w8 := (Upd.refl _ _)
    replace hW := hW.trans0 hU10
    refine Wl_store (v := .int .i64 ((dec l (i % p2 (bt l - (ent l i.toNat).2.toNat)) (((bt l : Nat) : Int) - ((ent l i.toNat).2))).1)) (cs' := [.int .i64 1, .int .i64 ((ent l i.toNat).1), .int .i64 0, .int .i64 ((ent l i.toNat).2), .int .i64 2, .int .i64 ((ent l i.toNat).1), .int .i64 ((dec l (i % p2 (bt l - (ent l i.toNat).2.toNat)) (((bt l : Nat) : Int) - ((ent l i.toNat).2))).1), .int .i64 ((ent l i.toNat).2)]) Try.sizeOf3 rfl rfl rfl rfl hb5 rfl rfl ?_
    intro w11 hU11 hzz11 hb5n
    replace hb5 := hb5n; clear hb5n
    have hzw11 := hU11.size
    replace hT := hT.upd1 hU11 (by omega)
    replace hE := hE.upd1 hU11 (by intro h1; have h3 : B5 < w.heap.size := h1; omega)
    replace HU := HU.trans1 hU11 (by show (False) ∨ w.heap.size ≤ B5; omega)
    replace hb1 := hb1.upd1 hU11 (by omega)
    replace hb3 := hb3.upd1 hU11 (by omega)
    replace hW := hW.trans1 hU11 (by show (B5 = B5) ∨ w8.heap.size ≤ B5; omega)
    refine Wl_nil ?_
    intro w12 hS12
    have hX12 : Upd _ w8 w12 := hW.trans0 hS12.upd
    refine ⟨fun _ => ⟨hX12, ?_⟩, fun h => absurd h (by rw [show barOp _ 7 = false from by kernel_rfl]; simp)⟩
    have hU12 := hS12.upd
    have hzw12 := hU12.size
    replace hT := hT.upd0 hU12
    replace hE := hE.upd0 hU12
    replace HU := HU.trans0 hU12
    replace hb1 := hb1.upd0 hU12
    replace hb3 := hb3.upd0 hU12
    replace hb5 := hb5.upd0 hU12
    refine WtS_base ?_
    refine WtS_take (i := 8) (listed' := #[true, true, true, true, true, true, true, true, true, false, false]) hX12 (by kernel_rfl) rfl (by kernel_rfl) (by kernel_rfl) (by kernel_rfl) (by kernel_rfl) (YS_v (v := .pointer (some ⟨B5, 4, none⟩)) rfl (fun w' hw' => r_idxa (len := 2) (i' := 1) (o' := 4) Try.underlying83 Try.sizeOf52 rfl rfl (by decide) (by decide) (by decide))) ?_
    refine WtS_take (i := 9) (listed' := #[true, true, true, true, true, true, true, true, true, true, false]) hX12 (by kernel_rfl) rfl (by kernel_rfl) (by kernel_rfl) (by kernel_rfl) (by kernel_rfl) (YS_v (v := .pointer (some ⟨B5, 7, none⟩)) rfl (fun w' hw' => r_fld Try.underlying52 rfl Try.sizeOf3 rfl rfl)) ?_
    intro w13 hU13
    have hzw13 := hU13.size
    replace hT := hT.upd0 hU13
    replace hE := hE.upd0 hU13
    replace HU := HU.trans0 hU13
    replace hb1 := hb1.upd0 hU13
    replace hb3 := hb3.upd0 hU13
    replace hb5 := hb5.upd0 hU13
    refine Wa_one (i := 10) (listed' := #[true, true, true, true, true, true, true, true, true, true, true]) (by kernel_rfl) rfl (by kernel_rfl) ?_
    refine Ws_of_Wl ?_
    have hW : Upd No w12 w13 := hU13
    refine Wl_store (v := .int .i64 (((ent l i.toNat).2) + ((dec l (i % p2 (bt l - (ent l i.toNat).2.toNat)) (((bt l : Nat) : Int) - ((ent l i.toNat).2))).2.1))) (cs' := [.int .i64 1, .int .i64 ((ent l i.toNat).1), .int .i64 0, .int .i64 ((ent l i.toNat).2), .int .i64 2, .int .i64 ((ent l i.toNat).1), .int .i64 ((dec l (i % p2 (bt l - (ent l i.toNat).2.toNat)) (((bt l : Nat) : Int) - ((ent l i.toNat).2))).1), .int .i64 (((ent l i.toNat).2) + ((dec l (i % p2 (bt l - (ent l i.toNat).2.toNat)) (((bt l : Nat) : Int) - ((ent l i.toNat).2))).2.1))]) Try.sizeOf3 rfl rfl rfl rfl hb5 rfl rfl ?_
    intro w14 hU14 hzz14 hb5n
    replace hb5 := hb5n; clear hb5n
    have hzw14 := hU14.size
    replace hT := hT.upd1 hU14 (by omega)
    replace hE := hE.upd1 hU14 (by intro h1; have h3 : B5 < w.heap.size := h1; omega)
    replace HU := HU.trans1 hU14 (by show (False) ∨ w.heap.size ≤ B5; omega)
    replace hb1 := hb1.upd1 hU14 (by omega)
    replace hb3 := hb3.upd1 hU14 (by omega)
    refine Wl_nil ?_
    intro w15 hS15
    refine ⟨fun h => absurd h (by rw [show barOp _ 10 = true from by kernel_rfl]; simp), fun _ => ⟨Upd No w15, ?_⟩⟩
    have hU15 := hS15.upd
    have hzw15 := hU15.size
    replace hT := hT.upd0 hU15
    replace hE := hE.upd0 hU15
    replace HU := HU.trans0 hU15
    replace hb1 := hb1.upd0 hU15
    replace hb3 := hb3.upd0 hU15
    replace hb5 := hb5.upd0 hU15
    try replace hW := hW.trans0 hU15
    refine Wa_done (by kernel_rfl) ?_
    refine W_seq ?_
    refine W_region ?_
    refine Wl_v (r_idxa (len := 2) (i' := 1) (o' := 4) Try.underlying83 Try.sizeOf52 rfl rfl (by decide) (by decide) (by decide)) ?_
    refine Wl_v (r_loada (b := B5) (off := 4) (cs := [.int .i64 2, .int .i64 ((ent l i.toNat).1), .int .i64 ((dec l (i % p2 (bt l - (ent l i.toNat).2.toNat)) (((bt l : Nat) : Int) - ((ent l i.toNat).2))).1), .int .i64 (((ent l i.toNat).2) + ((dec l (i % p2 (bt l - (ent l i.toNat).2.toNat)) (((bt l : Nat) : Int) - ((ent l i.toNat).2))).2.1))]) Try.isAgg52 Try.sizeOf52 rfl rfl (fun j hj => by rw [hb5.cell]; match j, hj with | 0, _ => rfl | 1, _ => rfl | 2, _ => rfl | 3, _ => rfl)) ?_
    refine Wl_storea (off := 0) (vs := [.int .i64 2, .int .i64 ((ent l i.toNat).1), .int .i64 ((dec l (i % p2 (bt l - (ent l i.toNat).2.toNat)) (((bt l : Nat) : Int) - ((ent l i.toNat).2))).1), .int .i64 (((ent l i.toNat).2) + ((dec l (i % p2 (bt l - (ent l i.toNat).2.toNat)) (((bt l : Nat) : Int) - ((ent l i.toNat).2))).2.1))]) (cs' := [.int .i64 2, .int .i64 ((ent l i.toNat).1), .int .i64 ((dec l (i % p2 (bt l - (ent l i.toNat).2.toNat)) (((bt l : Nat) : Int) - ((ent l i.toNat).2))).1), .int .i64 (((ent l i.toNat).2) + ((dec l (i % p2 (bt l - (ent l i.toNat).2.toNat)) (((bt l : Nat) : Int) - ((ent l i.toNat).2))).2.1))]) Try.sizeOf52 rfl rfl rfl (by simp only [List.mem_cons, List.not_mem_nil, or_false, forall_eq_or_imp, forall_eq]; exact ⟨rfl, rfl, rfl, rfl⟩) hb1 (by simp) rfl ?_
    intro w16 hU16 hzz16 hb1n
    replace hb1 := hb1n; clear hb1n
    have hzw16 := hU16.size
    replace hT := hT.upd1 hU16 (by omega)
    replace hE := hE.upd1 hU16 (by intro h1; have h3 : B1 < w.heap.size := h1; omega)
    replace HU := HU.trans1 hU16 (by show (False) ∨ w.heap.size ≤ B1; omega)
    replace hb3 := hb3.upd1 hU16 (by omega)
    replace hb5 := hb5.upd1 hU16 (by omega)
    refine Wl_v (r_as (v := .bool true) rfl) ?_
    refine Wl_nil ?_
    refine W_ret ?_
    refine ret_end (v := .tuple #[.agg #[.int .i64 2, .int .i64 ((ent l i.toNat).1), .int .i64 ((dec l (i % p2 (bt l - (ent l i.toNat).2.toNat)) (((bt l : Nat) : Int) - ((ent l i.toNat).2))).1), .int .i64 (((ent l i.toNat).2) + ((dec l (i % p2 (bt l - (ent l i.toNat).2.toNat)) (((bt l : Nat) : Int) - ((ent l i.toNat).2))).2.1))], .bool true]) rfl (rm_ct Try.results24 rfl rfl (cellAgg Try.isAgg52 Try.sizeOf52 rfl hb1)) ?_
    have htw : two l i.toNat = (2, (ent l i.toNat).1, (dec l (i % p2 (bt l - (ent l i.toNat).2.toNat)) (((bt l : Nat) : Int) - (ent l i.toNat).2)).1, (ent l i.toNat).2 + (dec l (i % p2 (bt l - (ent l i.toNat).2.toNat)) (((bt l : Nat) : Int) - (ent l i.toNat).2)).2.1) := by unfold two; rw [show ((i.toNat : Nat) : Int) = i from by omega, if_neg q1]
    exact ⟨_, rfl, (vtup2 (by rw [htw]) rfl), HU⟩

set_option maxRecDepth 100000 in
theorem two_out {tb : Nat} {ea la : Option Addr} {n ec lc : Nat} {l : List Int} {i : Int} (w : World) (hT : Blk w tb [.slice ea (2 ^ bt l) ec, .int .i64 ((bt l : Nat) : Int), .slice la n lc]) (hE : Sl w (fun g => g < w.heap.size) 2 (.slice ea (2 ^ bt l) ec) (2 ^ bt l) (rows encE (tbl l))) (hr : Rt l) (hi : ¬ (0 ≤ i ∧ i < ((2 ^ bt l : Nat) : Int))) :
    Calls Try.prog 24 #[.pointer (some ⟨tb, 0, none⟩), .int .i64 i] w (Ret fun v w' => v = .tuple #[.agg #[.int .i64 0, .int .i64 0, .int .i64 0, .int .i64 0], .bool false] ∧ Upd No w w') := by
  have HU : Upd (fun b => False) w w := Upd.refl _ _
  have hbl_hT := hT.lt
  have hl_hE := rlen encE_len (by decide) hE
  have hc_hE := hE.cap.1
  have hbt := bt_bd hr
  refine calls_of_W Try.func24 rfl Try.ntmps24 (by simp) ?_
  refine W_seq ?_
  refine W_region ?_
  refine Wl_alloc (cs := [.int .i64 0, .int .i64 0, .int .i64 0, .int .i64 0]) Try.zeroValue52 rfl ?_
  intro B1 w1 hB1 hU1 hzz1 hb1
  have hzw1 := hU1.size
  replace hT := hT.upd0 hU1
  replace hE := hE.upd0 hU1
  replace HU := HU.trans0 hU1
  refine Wl_v (r_as (v := .bool false) rfl) ?_
  refine Wl_nil ?_
  refine W_seq ?_
  refine W_region ?_
  refine Wl_v (r_mv (v := .pointer (some ⟨tb, 0, none⟩)) rfl) ?_
  refine Wl_v (r_mv (v := .int .i64 i) rfl) ?_
  refine Wl_call (r_call2 rfl Try.call18 rfl rfl) (tat_out _ hT hE.any (by omega) (by omega)) ?_
  rintro v w2 ⟨rfl, hU2⟩
  have hzw2 := hU2.size
  replace hT := hT.upd0 hU2
  replace hE := hE.upd0 hU2
  replace HU := HU.trans0 hU2
  replace hb1 := hb1.upd0 hU2
  refine Wl_v (r_mv (v := .tuple #[.agg #[.int .i64 0, .int .i64 0], .bool false]) rfl) ?_
  refine Wl_v (r_ext (v := .agg #[.int .i64 0, .int .i64 0]) rfl rfl) ?_
  refine Wl_v (r_ext (v := .bool false) rfl rfl) ?_
  refine Wl_alloc (cs := [.int .i64 0, .int .i64 0]) Try.zeroValue38 rfl ?_
  intro B3 w3 hB3 hU3 hzz3 hb3
  have hzw3 := hU3.size
  replace hT := hT.upd0 hU3
  replace hE := hE.upd0 hU3
  replace HU := HU.trans0 hU3
  replace hb1 := hb1.upd0 hU3
  refine Wl_storea (off := 0) (vs := [.int .i64 0, .int .i64 0]) (cs' := [.int .i64 0, .int .i64 0]) Try.sizeOf38 rfl rfl rfl (by simp only [List.mem_cons, List.not_mem_nil, or_false, forall_eq_or_imp, forall_eq]; exact ⟨rfl, rfl⟩) hb3 (by simp) rfl ?_
  intro w4 hU4 hzz4 hb3n
  replace hb3 := hb3n; clear hb3n
  have hzw4 := hU4.size
  replace hT := hT.upd1 hU4 (by omega)
  replace hE := hE.upd1 hU4 (by intro h1; have h3 : B3 < w.heap.size := h1; omega)
  replace HU := HU.trans1 hU4 (by show (False) ∨ w.heap.size ≤ B3; omega)
  replace hb1 := hb1.upd1 hU4 (by omega)
  refine Wl_v (r_as (v := .bool false) rfl) ?_
  refine Wl_nil ?_
  refine W_seq ?_
  refine W_seq ?_
  refine W_region ?_
  refine Wl_v (r_mv (v := .bool false) rfl) ?_
  refine Wl_v (r_not (b := false) rfl) ?_
  refine Wl_nil ?_
  refine W_cond_t rfl ?_
  refine W_seq ?_
  refine W_region ?_
  refine Wl_v (r_build (pl := #[(0, 1), (1, 1), (2, 1), (3, 1)]) (pv := []) (cs := #[.int .i64 0, .int .i64 0, .int .i64 0, .int .i64 0]) Try.zeroValue52 Try.underlying52 (fun w => by kernel_rfl) (by simp only [List.map_toArray, List.map_cons, List.map_nil] <;> rfl) (by kernel_rfl)) ?_
  refine Wl_storea (off := 0) (vs := [.int .i64 0, .int .i64 0, .int .i64 0, .int .i64 0]) (cs' := [.int .i64 0, .int .i64 0, .int .i64 0, .int .i64 0]) Try.sizeOf52 rfl rfl rfl (by simp only [List.mem_cons, List.not_mem_nil, or_false, forall_eq_or_imp, forall_eq]; exact ⟨rfl, rfl, rfl, rfl⟩) hb1 (by simp) rfl ?_
  intro w5 hU5 hzz5 hb1n
  replace hb1 := hb1n; clear hb1n
  have hzw5 := hU5.size
  replace hT := hT.upd1 hU5 (by omega)
  replace hE := hE.upd1 hU5 (by intro h1; have h3 : B1 < w.heap.size := h1; omega)
  replace HU := HU.trans1 hU5 (by show (False) ∨ w.heap.size ≤ B1; omega)
  replace hb3 := hb3.upd1 hU5 (by omega)
  refine Wl_v (r_as (v := .bool false) rfl) ?_
  refine Wl_nil ?_
  refine W_ret ?_
  refine ret_end (v := .tuple #[.agg #[.int .i64 0, .int .i64 0, .int .i64 0, .int .i64 0], .bool false]) rfl (rm_ct Try.results24 rfl rfl (cellAgg Try.isAgg52 Try.sizeOf52 rfl hb1)) ?_
  exact ⟨_, rfl, rfl, HU⟩

set_option maxRecDepth 100000 in
theorem two_zero {tb : Nat} {xe xl : Value} {i : Int} (w : World) (hT : Blk w tb [xe, .int .i64 0, xl]) :
    Calls Try.prog 24 #[.pointer (some ⟨tb, 0, none⟩), .int .i64 i] w (Ret fun v w' => v = .tuple #[.agg #[.int .i64 0, .int .i64 0, .int .i64 0, .int .i64 0], .bool false] ∧ Upd No w w') := by
  have HU : Upd (fun b => False) w w := Upd.refl _ _
  have hbl_hT := hT.lt
  refine calls_of_W Try.func24 rfl Try.ntmps24 (by simp) ?_
  refine W_seq ?_
  refine W_region ?_
  refine Wl_alloc (cs := [.int .i64 0, .int .i64 0, .int .i64 0, .int .i64 0]) Try.zeroValue52 rfl ?_
  intro B1 w1 hB1 hU1 hzz1 hb1
  have hzw1 := hU1.size
  replace hT := hT.upd0 hU1
  replace HU := HU.trans0 hU1
  refine Wl_v (r_as (v := .bool false) rfl) ?_
  refine Wl_nil ?_
  refine W_seq ?_
  refine W_region ?_
  refine Wl_v (r_mv (v := .pointer (some ⟨tb, 0, none⟩)) rfl) ?_
  refine Wl_v (r_mv (v := .int .i64 i) rfl) ?_
  refine Wl_call (r_call2 rfl Try.call18 rfl rfl) (at_zero _ hT) ?_
  rintro v w2 ⟨rfl, hU2⟩
  have hzw2 := hU2.size
  replace hT := hT.upd0 hU2
  replace HU := HU.trans0 hU2
  replace hb1 := hb1.upd0 hU2
  refine Wl_v (r_mv (v := .tuple #[.agg #[.int .i64 0, .int .i64 0], .bool false]) rfl) ?_
  refine Wl_v (r_ext (v := .agg #[.int .i64 0, .int .i64 0]) rfl rfl) ?_
  refine Wl_v (r_ext (v := .bool false) rfl rfl) ?_
  refine Wl_alloc (cs := [.int .i64 0, .int .i64 0]) Try.zeroValue38 rfl ?_
  intro B3 w3 hB3 hU3 hzz3 hb3
  have hzw3 := hU3.size
  replace hT := hT.upd0 hU3
  replace HU := HU.trans0 hU3
  replace hb1 := hb1.upd0 hU3
  refine Wl_storea (off := 0) (vs := [.int .i64 0, .int .i64 0]) (cs' := [.int .i64 0, .int .i64 0]) Try.sizeOf38 rfl rfl rfl (by simp only [List.mem_cons, List.not_mem_nil, or_false, forall_eq_or_imp, forall_eq]; exact ⟨rfl, rfl⟩) hb3 (by simp) rfl ?_
  intro w4 hU4 hzz4 hb3n
  replace hb3 := hb3n; clear hb3n
  have hzw4 := hU4.size
  replace hT := hT.upd1 hU4 (by omega)
  replace HU := HU.trans1 hU4 (by show (False) ∨ w.heap.size ≤ B3; omega)
  replace hb1 := hb1.upd1 hU4 (by omega)
  refine Wl_v (r_as (v := .bool false) rfl) ?_
  refine Wl_nil ?_
  refine W_seq ?_
  refine W_seq ?_
  refine W_region ?_
  refine Wl_v (r_mv (v := .bool false) rfl) ?_
  refine Wl_v (r_not (b := false) rfl) ?_
  refine Wl_nil ?_
  refine W_cond_t rfl ?_
  refine W_seq ?_
  refine W_region ?_
  refine Wl_v (r_build (pl := #[(0, 1), (1, 1), (2, 1), (3, 1)]) (pv := []) (cs := #[.int .i64 0, .int .i64 0, .int .i64 0, .int .i64 0]) Try.zeroValue52 Try.underlying52 (fun w => by kernel_rfl) (by simp only [List.map_toArray, List.map_cons, List.map_nil] <;> rfl) (by kernel_rfl)) ?_
  refine Wl_storea (off := 0) (vs := [.int .i64 0, .int .i64 0, .int .i64 0, .int .i64 0]) (cs' := [.int .i64 0, .int .i64 0, .int .i64 0, .int .i64 0]) Try.sizeOf52 rfl rfl rfl (by simp only [List.mem_cons, List.not_mem_nil, or_false, forall_eq_or_imp, forall_eq]; exact ⟨rfl, rfl, rfl, rfl⟩) hb1 (by simp) rfl ?_
  intro w5 hU5 hzz5 hb1n
  replace hb1 := hb1n; clear hb1n
  have hzw5 := hU5.size
  replace hT := hT.upd1 hU5 (by omega)
  replace HU := HU.trans1 hU5 (by show (False) ∨ w.heap.size ≤ B1; omega)
  replace hb3 := hb3.upd1 hU5 (by omega)
  refine Wl_v (r_as (v := .bool false) rfl) ?_
  refine Wl_nil ?_
  refine W_ret ?_
  refine ret_end (v := .tuple #[.agg #[.int .i64 0, .int .i64 0, .int .i64 0, .int .i64 0], .bool false]) rfl (rm_ct Try.results24 rfl rfl (cellAgg Try.isAgg52 Try.sizeOf52 rfl hb1)) ?_
  exact ⟨_, rfl, rfl, HU⟩

set_option maxRecDepth 100000 in
theorem two_nil  {i : Int} (w : World)  :
    Calls Try.prog 24 #[.pointer none, .int .i64 i] w (Ret fun v w' => v = .tuple #[.agg #[.int .i64 0, .int .i64 0, .int .i64 0, .int .i64 0], .bool false] ∧ Upd No w w') := by
  have HU : Upd (fun b => False) w w := Upd.refl _ _
  refine calls_of_W Try.func24 rfl Try.ntmps24 (by simp) ?_
  refine W_seq ?_
  refine W_region ?_
  refine Wl_alloc (cs := [.int .i64 0, .int .i64 0, .int .i64 0, .int .i64 0]) Try.zeroValue52 rfl ?_
  intro B1 w1 hB1 hU1 hzz1 hb1
  have hzw1 := hU1.size
  replace HU := HU.trans0 hU1
  refine Wl_v (r_as (v := .bool false) rfl) ?_
  refine Wl_nil ?_
  refine W_seq ?_
  refine W_region ?_
  refine Wl_v (r_mv (v := .pointer none) rfl) ?_
  refine Wl_v (r_mv (v := .int .i64 i) rfl) ?_
  refine Wl_call (r_call2 rfl Try.call18 rfl rfl) (at_nil _ ) ?_
  rintro v w2 ⟨rfl, hU2⟩
  have hzw2 := hU2.size
  replace HU := HU.trans0 hU2
  replace hb1 := hb1.upd0 hU2
  refine Wl_v (r_mv (v := .tuple #[.agg #[.int .i64 0, .int .i64 0], .bool false]) rfl) ?_
  refine Wl_v (r_ext (v := .agg #[.int .i64 0, .int .i64 0]) rfl rfl) ?_
  refine Wl_v (r_ext (v := .bool false) rfl rfl) ?_
  refine Wl_alloc (cs := [.int .i64 0, .int .i64 0]) Try.zeroValue38 rfl ?_
  intro B3 w3 hB3 hU3 hzz3 hb3
  have hzw3 := hU3.size
  replace HU := HU.trans0 hU3
  replace hb1 := hb1.upd0 hU3
  refine Wl_storea (off := 0) (vs := [.int .i64 0, .int .i64 0]) (cs' := [.int .i64 0, .int .i64 0]) Try.sizeOf38 rfl rfl rfl (by simp only [List.mem_cons, List.not_mem_nil, or_false, forall_eq_or_imp, forall_eq]; exact ⟨rfl, rfl⟩) hb3 (by simp) rfl ?_
  intro w4 hU4 hzz4 hb3n
  replace hb3 := hb3n; clear hb3n
  have hzw4 := hU4.size
  replace HU := HU.trans1 hU4 (by show (False) ∨ w.heap.size ≤ B3; omega)
  replace hb1 := hb1.upd1 hU4 (by omega)
  refine Wl_v (r_as (v := .bool false) rfl) ?_
  refine Wl_nil ?_
  refine W_seq ?_
  refine W_seq ?_
  refine W_region ?_
  refine Wl_v (r_mv (v := .bool false) rfl) ?_
  refine Wl_v (r_not (b := false) rfl) ?_
  refine Wl_nil ?_
  refine W_cond_t rfl ?_
  refine W_seq ?_
  refine W_region ?_
  refine Wl_v (r_build (pl := #[(0, 1), (1, 1), (2, 1), (3, 1)]) (pv := []) (cs := #[.int .i64 0, .int .i64 0, .int .i64 0, .int .i64 0]) Try.zeroValue52 Try.underlying52 (fun w => by kernel_rfl) (by simp only [List.map_toArray, List.map_cons, List.map_nil] <;> rfl) (by kernel_rfl)) ?_
  refine Wl_storea (off := 0) (vs := [.int .i64 0, .int .i64 0, .int .i64 0, .int .i64 0]) (cs' := [.int .i64 0, .int .i64 0, .int .i64 0, .int .i64 0]) Try.sizeOf52 rfl rfl rfl (by simp only [List.mem_cons, List.not_mem_nil, or_false, forall_eq_or_imp, forall_eq]; exact ⟨rfl, rfl, rfl, rfl⟩) hb1 (by simp) rfl ?_
  intro w5 hU5 hzz5 hb1n
  replace hb1 := hb1n; clear hb1n
  have hzw5 := hU5.size
  replace HU := HU.trans1 hU5 (by show (False) ∨ w.heap.size ≤ B1; omega)
  replace hb3 := hb3.upd1 hU5 (by omega)
  refine Wl_v (r_as (v := .bool false) rfl) ?_
  refine Wl_nil ?_
  refine W_ret ?_
  refine ret_end (v := .tuple #[.agg #[.int .i64 0, .int .i64 0, .int .i64 0, .int .i64 0], .bool false]) rfl (rm_ct Try.results24 rfl rfl (cellAgg Try.isAgg52 Try.sizeOf52 rfl hb1)) ?_
  exact ⟨_, rfl, rfl, HU⟩

end Go.Proofs.Ytkgjdcjpnfjofaa
