/-
 Walks, printed by a small program of this project (gen.py).
-/
import Derived.Test.YtilegaokfamfnaaXa
set_option linter.unusedVariables false
set_option linter.unusedSimpArgs false
namespace Go.Proofs.Ytilegaokfamfnaa
open Go.Fw

theorem shlone {v : Int} (h0 : 0 ≤ v) (h1 : v < 2147483648) : IntKind.u32.wrap (v * 2 ^ (min (1 : Int).toNat IntKind.u32.bits)) = 2 * v := by
 have e : (2 : Int) ^ (min (1 : Int).toNat IntKind.u32.bits) = 2 := by decide
 rw [e, wu32 (by omega) (by omega), Int.mul_comm]
theorem rt_iff {l : List Int} {k : Nat} (hB : Bd l) (h : l.take k = l) : Rt l ↔ (l.length ≤ 256 ∧ 1 < mc (l.take k) ∧ ks (l.take k) = 2048) := by
 rw [h]; exact ⟨fun x => x.2, fun x => ⟨hB, x⟩⟩

set_option maxRecDepth 100000 in
theorem right_spec {a : Option Addr} {n c : Nat} {l : List Int} {R : Nat → Prop} (w : World) (hs : Sl w R 1 (.slice a n c) n (ints .i64 l)) (hn : n ≤ 17592186044415) :
  Calls Try.prog 91 #[.slice a n c] w (Ret fun v w' => v = .bool (decide (Rt l)) ∧ Upd No w w') := by
 have HU : Upd (fun b => False) w w := Upd.refl _ _
 have hl_hs := ilen hs
 have hc_hs := hs.cap.1
 replace hs := hs.tight
 refine calls_of_W Try.func91 rfl Try.ntmps91 (by simp) ?_
 refine W_seq ?_
 refine W_region ?_
 refine Wl_v (r_as (v := .bool false) rfl) ?_
 refine Wl_nil ?_
 refine W_seq ?_
 refine W_region ?_
 refine Wl_v (r_as (v := .int .i64 0) rfl) ?_
 refine Wl_v (r_as (v := .int .i64 0) rfl) ?_
 refine Wl_nil ?_
 refine W_seq ?_
 refine W_seq ?_
 refine W_region ?_
 refine Wl_v (r_mv (v := .slice a n c) rfl) ?_
 refine Wl_v (r_len Try.underlying122 rfl) ?_
 refine Wl_v (r_mv (v := .int .i64 0) rfl) ?_
 refine Wl_nil ?_
 refine W_block ?_
 refine W_loop (fun mu ρ ds w' => ∃ (k : Nat), n - k = mu ∧ ds = [] ∧ Liv ρ [(0, .slice a n c), (3, .int .i64 (ks (l.take k))), (4, .int .i64 (mc (l.take k))), (7, .slice a n c), (8, .int .i64 ((n : Nat) : Int)), (9, .int .i64 ((k : Nat) : Int))] ∧ k ≤ n ∧ Bd (l.take k) ∧ Upd No w w') _ ⟨0, rfl, rfl, ⟨rfl, (Eq.trans (b := .int .i64 0) rfl (vint (by simp [ks]))), (Eq.trans (b := .int .i64 0) rfl (vint (by simp [mc]))), rfl, rfl, (by first | rfl | exact vint (by omega) | exact vint (by simp)), trivial⟩, (by omega), (by simpa using Bd.nil), Upd.refl _ _⟩ ?_
 rintro m1 ρ1 ds1 w1 ⟨k, rfl, rfl, hl1, hk, hbk, hU1⟩
 obtain ⟨ρ1x, rfl⟩ : ∃ ρx, ρ1 = upds ρx [(0, .slice a n c), (3, .int .i64 (ks (l.take k))), (4, .int .i64 (mc (l.take k))), (7, .slice a n c), (8, .int .i64 ((n : Nat) : Int)), (9, .int .i64 ((k : Nat) : Int))] := ⟨_, upds_self hl1⟩
 clear hl1
 have hzw1 := hU1.size
 replace hs := hs.upd0 hU1
 replace HU := HU.trans0 hU1
 have HL1 := hU1
 refine W_seq ?_
 refine W_region ?_
 refine Wl_v (r_lt rfl rfl) ?_
 refine Wl_nil ?_
 refine W_seq ?_
 by_cases q1 : ((k : Nat) : Int) < ((n : Nat) : Int)
 ·have hks := ks_take (l := l) (k := k) (by omega)
  have hmc := mc_take (l := l) (k := k) (by omega)
  have hkb := ks_bd hbk
  have hmb := mc_bd (l.take k)
  rw [List.length_take] at hkb hmb
  rw [decide_eq_true q1]
  refine W_cond_t rfl ?_
  refine W_skip ?_
  refine W_seq ?_
  refine W_block ?_
  refine W_seq ?_
  refine W_region ?_
  refine Wl_idxi Try.underlying122 Try.sizeOf3 rfl rfl hs (by omega) (by omega) ?_
  intro ib2 io2 hc2
  rw [Int.toNat_natCast] at hc2
  refine Wl_loadc Try.isAgg3 rfl hc2 ?_
  refine Wl_v (r_as (v := .int .i64 (l.getD k 0)) rfl) ?_
  refine Wl_nil ?_
  refine W_seq ?_
  refine W_seq ?_
  refine W_region ?_
  refine Wl_v (r_mv (v := .int .i64 (l.getD k 0)) rfl) ?_
  refine Wl_v (r_lt rfl rfl) ?_
  refine Wl_v (r_mv (v := .bool (decide ((l.getD k 0) < 0))) rfl) ?_
  by_cases q2 : (l.getD k 0) < 0
  ·rw [decide_eq_true q2]
   refine Wl_guard_f rfl ?_
   refine Wl_guard_f rfl ?_
   refine Wl_v (r_pick_t (v := .bool true) rfl rfl) ?_
   refine Wl_nil ?_
   refine W_cond_t rfl ?_
   refine W_seq ?_
   refine W_region ?_
   refine Wl_v (r_as (v := .bool false) rfl) ?_
   refine Wl_nil ?_
   refine W_ret ?_
   refine ret_end (v := .bool false) rfl (res1 Try.results91 rfl) ?_
   exact ⟨_, rfl, (vboolf (not_Rt_of (k := k) (by omega) (by omega))), HU⟩
  ·rw [decide_eq_false q2]
   refine Wl_guard_t rfl ?_
   refine Wl_v (r_mv (v := .int .i64 (l.getD k 0)) rfl) ?_
   refine Wl_guard_t rfl ?_
   refine Wl_v (r_gt rfl rfl) ?_
   refine Wl_v (r_pick_f (v := .bool (decide (11 < (l.getD k 0)))) rfl rfl) ?_
   refine Wl_nil ?_
   by_cases q3 : 11 < (l.getD k 0)
   ·rw [decide_eq_true q3]
    refine W_cond_t rfl ?_
    refine W_seq ?_
    refine W_region ?_
    refine Wl_v (r_as (v := .bool false) rfl) ?_
    refine Wl_nil ?_
    refine W_ret ?_
    refine ret_end (v := .bool false) rfl (res1 Try.results91 rfl) ?_
    exact ⟨_, rfl, (vboolf (not_Rt_of (k := k) (by omega) (by omega))), HU⟩
   ·rw [decide_eq_false q3]
    refine W_cond_f rfl ?_
    refine W_skip ?_
    refine W_seq ?_
    refine W_region ?_
    refine Wl_v (r_mv (v := .int .i64 (l.getD k 0)) rfl) ?_
    refine Wl_v (r_gt rfl rfl) ?_
    refine Wl_nil ?_
    by_cases q4 : 0 < (l.getD k 0)
    ·have hkt := kw_tab q4 (by omega)
     rw [if_pos q4] at hmc
     rw [decide_eq_true q4]
     refine W_cond_t rfl ?_
     refine W_region ?_
     refine Wl_v (r_mv (v := .int .i64 (ks (l.take k))) rfl) ?_
     refine Wl_v (r_mv (v := .int .i64 (l.getD k 0)) rfl) ?_
     refine Wl_v (r_sub rfl rfl (wi64 (by omega) (by omega))) ?_
     refine Wl_v (r_shl rfl rfl (by omega) (shl1 (by omega) (by omega))) ?_
     refine Wl_v (r_add rfl rfl (wi64 (by omega) (by omega))) ?_
     refine Wl_v (r_mv (v := .int .i64 (mc (l.take k))) rfl) ?_
     refine Wl_v (r_add rfl rfl (wi64 (by omega) (by omega))) ?_
     refine Wl_v (r_as (v := .int .i64 ((ks (l.take k)) + (kw (l.getD k 0)))) rfl) ?_
     refine Wl_v (r_as (v := .int .i64 ((mc (l.take k)) + 1)) rfl) ?_
     refine Wl_nil ?_
     refine W_region ?_
     refine Wl_v (r_add rfl rfl (wi64 (by omega) (by omega))) ?_
     refine Wl_v (r_mv (v := .int .i64 (((k : Nat) : Int) + 1)) rfl) ?_
     refine Wl_nil ?_
     refine ⟨_, ?_, (k + 1), rfl, rfl, ⟨rfl, (Eq.trans (b := .int .i64 ((ks (l.take k)) + (kw (l.getD k 0)))) rfl (vint (by omega))), (Eq.trans (b := .int .i64 ((mc (l.take k)) + 1)) rfl (vint (by omega))), rfl, rfl, (Eq.trans (b := .int .i64 (((k : Nat) : Int) + 1)) rfl (vint (by omega))), trivial⟩, (by omega), (hbk.take_step (by omega) (by omega)), HL1⟩
     omega
    ·have hkw : kw (l.getD k 0) = 0 := by rw [kw, if_neg q4]
     rw [if_neg q4] at hmc
     rw [decide_eq_false q4]
     refine W_cond_f rfl ?_
     refine W_skip ?_
     refine W_region ?_
     refine Wl_v (r_add rfl rfl (wi64 (by omega) (by omega))) ?_
     refine Wl_v (r_mv (v := .int .i64 (((k : Nat) : Int) + 1)) rfl) ?_
     refine Wl_nil ?_
     refine ⟨_, ?_, (k + 1), rfl, rfl, ⟨rfl, (Eq.trans (b := .int .i64 (ks (l.take k))) rfl (vint (by omega))), (Eq.trans (b := .int .i64 (mc (l.take k))) rfl (vint (by omega))), rfl, rfl, (Eq.trans (b := .int .i64 (((k : Nat) : Int) + 1)) rfl (vint (by omega))), trivial⟩, (by omega), (hbk.take_step (by omega) (by omega)), HL1⟩
     omega
 ·have htk : l.take k = l := List.take_of_length_le (by omega)
  have hB : Bd l := by rw [htk] at hbk; exact hbk
  rw [decide_eq_false q1]
  refine W_cond_f rfl ?_
  refine W_exit ?_
  refine W_seq ?_
  refine W_region ?_
  refine Wl_v (r_mv (v := .slice a n c) rfl) ?_
  refine Wl_v (r_len Try.underlying122 rfl) ?_
  refine Wl_v (r_le rfl rfl) ?_
  refine Wl_v (r_mv (v := .bool (decide (((n : Nat) : Int) ≤ 256))) rfl) ?_
  by_cases q5 : ((n : Nat) : Int) ≤ 256
  ·rw [decide_eq_true q5]
   refine Wl_guard_t rfl ?_
   refine Wl_v (r_mv (v := .int .i64 (mc (l.take k))) rfl) ?_
   refine Wl_guard_t rfl ?_
   refine Wl_v (r_gt rfl rfl) ?_
   refine Wl_v (r_pick_t (v := .bool (decide (1 < (mc (l.take k))))) rfl rfl) ?_
   refine Wl_v (r_mv (v := .bool (decide (1 < (mc (l.take k))))) rfl) ?_
   by_cases q6 : 1 < (mc (l.take k))
   ·rw [decide_eq_true q6]
    refine Wl_guard_t rfl ?_
    refine Wl_v (r_mv (v := .int .i64 (ks (l.take k))) rfl) ?_
    refine Wl_guard_t rfl ?_
    refine Wl_v (r_eq rfl rfl) ?_
    refine Wl_v (r_pick_t (v := .bool (decide ((ks (l.take k)) = 2048))) rfl rfl) ?_
    refine Wl_v (r_as (v := .bool (decide ((ks (l.take k)) = 2048))) rfl) ?_
    refine Wl_nil ?_
    refine W_ret ?_
    refine ret_end (v := .bool (decide ((ks (l.take k)) = 2048))) rfl (res1 Try.results91 rfl) ?_
    exact ⟨_, rfl, (by first | exact vboolf (fun h => by have := (rt_iff hB htk).1 h; omega) | exact vbool (by rw [rt_iff hB htk]; omega)), HU⟩
   ·rw [decide_eq_false q6]
    refine Wl_guard_f rfl ?_
    refine Wl_guard_f rfl ?_
    refine Wl_v (r_pick_f (v := .bool false) rfl rfl) ?_
    refine Wl_v (r_as (v := .bool false) rfl) ?_
    refine Wl_nil ?_
    refine W_ret ?_
    refine ret_end (v := .bool false) rfl (res1 Try.results91 rfl) ?_
    exact ⟨_, rfl, (by first | exact vboolf (fun h => by have := (rt_iff hB htk).1 h; omega) | exact vbool (by rw [rt_iff hB htk]; omega)), HU⟩
  ·rw [decide_eq_false q5]
   refine Wl_guard_f rfl ?_
   refine Wl_guard_f rfl ?_
   refine Wl_v (r_pick_f (v := .bool false) rfl rfl) ?_
   refine Wl_v (r_mv (v := .bool false) rfl) ?_
   refine Wl_guard_f rfl ?_
   refine Wl_guard_f rfl ?_
   refine Wl_v (r_pick_f (v := .bool false) rfl rfl) ?_
   refine Wl_v (r_as (v := .bool false) rfl) ?_
   refine Wl_nil ?_
   refine W_ret ?_
   refine ret_end (v := .bool false) rfl (res1 Try.results91 rfl) ?_
   exact ⟨_, rfl, (by first | exact vboolf (fun h => by have := (rt_iff hB htk).1 h; omega) | exact vbool (by rw [rt_iff hB htk]; omega)), HU⟩

set_option maxRecDepth 100000 in
theorem rright_spec {a : Option Addr} {n c : Nat} {l : List Int} {R : Nat → Prop} (w : World) (hs : Sl w R 1 (.slice a n c) n (ints .i64 l)) (hn : n ≤ 17592186044415) :
  Calls Try.prog 26 #[.slice a n c] w (Ret fun v w' => v = .bool (decide (Rt l)) ∧ Upd No w w') := by
 have HU : Upd (fun b => False) w w := Upd.refl _ _
 have hl_hs := ilen hs
 have hc_hs := hs.cap.1
 replace hs := hs.tight
 refine calls_of_W Try.func26 rfl Try.ntmps26 (by simp) ?_
 refine W_seq ?_
 refine W_region ?_
 refine Wl_v (r_as (v := .bool false) rfl) ?_
 refine Wl_nil ?_
 refine W_seq ?_
 refine W_seq ?_
 refine W_region ?_
 refine Wl_v (r_mv (v := .slice a n c) rfl) ?_
 refine Wl_v (r_len Try.underlying22 rfl) ?_
 refine Wl_v (r_gt rfl rfl) ?_
 refine Wl_nil ?_
 by_cases q1 : 256 < ((n : Nat) : Int)
 ·rw [decide_eq_true q1]
  refine W_cond_t rfl ?_
  refine W_seq ?_
  refine W_region ?_
  refine Wl_v (r_as (v := .bool false) rfl) ?_
  refine Wl_nil ?_
  refine W_ret ?_
  refine ret_end (v := .bool false) rfl (res1 Try.results26 rfl) ?_
  exact ⟨_, rfl, (vboolf (fun h => by have := h.2.1; omega)), HU⟩
 ·rw [decide_eq_false q1]
  refine W_cond_f rfl ?_
  refine W_skip ?_
  refine W_seq ?_
  refine W_region ?_
  refine Wl_v (r_as (v := .int .i64 0) rfl) ?_
  refine Wl_v (r_as (v := .int .i64 0) rfl) ?_
  refine Wl_nil ?_
  refine W_seq ?_
  refine W_seq ?_
  refine W_region ?_
  refine Wl_v (r_as (v := .int .i64 0) rfl) ?_
  refine Wl_nil ?_
  refine W_block ?_
  refine W_loop (fun mu ρ ds w' => ∃ (k : Nat), n - k = mu ∧ ds = [] ∧ Liv ρ [(0, .slice a n c), (3, .int .i64 (ks (l.take k))), (4, .int .i64 (mc (l.take k))), (5, .int .i64 ((k : Nat) : Int))] ∧ k ≤ n ∧ Bd (l.take k) ∧ Upd No w w') _ ⟨0, rfl, rfl, ⟨rfl, (Eq.trans (b := .int .i64 0) rfl (vint (by simp [ks]))), (Eq.trans (b := .int .i64 0) rfl (vint (by simp [mc]))), (by first | rfl | exact vint (by omega) | exact vint (by simp)), trivial⟩, (by omega), (by simpa using Bd.nil), Upd.refl _ _⟩ ?_
  rintro m1 ρ1 ds1 w1 ⟨k, rfl, rfl, hl1, hk, hbk, hU1⟩
  obtain ⟨ρ1x, rfl⟩ : ∃ ρx, ρ1 = upds ρx [(0, .slice a n c), (3, .int .i64 (ks (l.take k))), (4, .int .i64 (mc (l.take k))), (5, .int .i64 ((k : Nat) : Int))] := ⟨_, upds_self hl1⟩
  clear hl1
  have hzw1 := hU1.size
  replace hs := hs.upd0 hU1
  replace HU := HU.trans0 hU1
  have HL1 := hU1
  refine W_seq ?_
  refine W_seq ?_
  refine W_region ?_
  refine Wl_v (r_mv (v := .int .i64 ((k : Nat) : Int)) rfl) ?_
  refine Wl_v (r_mv (v := .slice a n c) rfl) ?_
  refine Wl_v (r_len Try.underlying22 rfl) ?_
  refine Wl_v (r_lt rfl rfl) ?_
  refine Wl_nil ?_
  by_cases q2 : ((k : Nat) : Int) < ((n : Nat) : Int)
  ·have hks := ks_take (l := l) (k := k) (by omega)
   have hmc := mc_take (l := l) (k := k) (by omega)
   have hkb := ks_bd hbk
   have hmb := mc_bd (l.take k)
   rw [List.length_take] at hkb hmb
   rw [decide_eq_true q2]
   refine W_cond_t rfl ?_
   refine W_skip ?_
   refine W_seq ?_
   refine W_block ?_
   refine W_seq ?_
   refine W_seq ?_
   refine W_region ?_
   refine Wl_v (r_mv (v := .slice a n c) rfl) ?_
   refine Wl_v (r_mv (v := .int .i64 ((k : Nat) : Int)) rfl) ?_
   refine Wl_idxi Try.underlying22 Try.sizeOf3 rfl rfl hs (by omega) (by omega) ?_
   intro ib2 io2 hc2
   rw [Int.toNat_natCast] at hc2
   refine Wl_loadc Try.isAgg3 rfl hc2 ?_
   refine Wl_v (r_lt rfl rfl) ?_
   refine Wl_v (r_mv (v := .bool (decide ((l.getD k 0) < 0))) rfl) ?_
   by_cases q3 : (l.getD k 0) < 0
   ·rw [decide_eq_true q3]
    refine Wl_guard_f rfl ?_
    refine Wl_guard_f rfl ?_
    refine Wl_guard_f rfl ?_
    refine Wl_guard_f rfl ?_
    refine Wl_guard_f rfl ?_
    refine Wl_v (r_pick_t (v := .bool true) rfl rfl) ?_
    refine Wl_nil ?_
    refine W_cond_t rfl ?_
    refine W_seq ?_
    refine W_region ?_
    refine Wl_v (r_as (v := .bool false) rfl) ?_
    refine Wl_nil ?_
    refine W_ret ?_
    refine ret_end (v := .bool false) rfl (res1 Try.results26 rfl) ?_
    exact ⟨_, rfl, (vboolf (not_Rt_of (k := k) (by omega) (by omega))), HU⟩
   ·rw [decide_eq_false q3]
    refine Wl_guard_t rfl ?_
    refine Wl_v (r_mv (v := .slice a n c) rfl) ?_
    refine Wl_guard_t rfl ?_
    refine Wl_v (r_mv (v := .int .i64 ((k : Nat) : Int)) rfl) ?_
    refine Wl_guard_t rfl ?_
    refine Wl_idxi Try.underlying22 Try.sizeOf3 rfl rfl hs (by omega) (by omega) ?_
    intro ib3 io3 hc3
    rw [Int.toNat_natCast] at hc3
    refine Wl_guard_t rfl ?_
    refine Wl_loadc Try.isAgg3 rfl hc3 ?_
    refine Wl_guard_t rfl ?_
    refine Wl_v (r_gt rfl rfl) ?_
    refine Wl_v (r_pick_f (v := .bool (decide (11 < (l.getD k 0)))) rfl rfl) ?_
    refine Wl_nil ?_
    by_cases q4 : 11 < (l.getD k 0)
    ·rw [decide_eq_true q4]
     refine W_cond_t rfl ?_
     refine W_seq ?_
     refine W_region ?_
     refine Wl_v (r_as (v := .bool false) rfl) ?_
     refine Wl_nil ?_
     refine W_ret ?_
     refine ret_end (v := .bool false) rfl (res1 Try.results26 rfl) ?_
     exact ⟨_, rfl, (vboolf (not_Rt_of (k := k) (by omega) (by omega))), HU⟩
    ·rw [decide_eq_false q4]
     refine W_cond_f rfl ?_
     refine W_skip ?_
     refine W_seq ?_
     refine W_region ?_
     refine Wl_v (r_mv (v := .slice a n c) rfl) ?_
     refine Wl_v (r_mv (v := .int .i64 ((k : Nat) : Int)) rfl) ?_
     refine Wl_idxi Try.underlying22 Try.sizeOf3 rfl rfl hs (by omega) (by omega) ?_
     intro ib4 io4 hc4
     rw [Int.toNat_natCast] at hc4
     refine Wl_loadc Try.isAgg3 rfl hc4 ?_
     refine Wl_v (r_gt rfl rfl) ?_
     refine Wl_nil ?_
     by_cases q5 : 0 < (l.getD k 0)
     ·have hkt := kw_tab q5 (by omega)
      rw [if_pos q5] at hmc
      rw [decide_eq_true q5]
      refine W_cond_t rfl ?_
      refine W_seq ?_
      refine W_region ?_
      refine Wl_v (r_mv (v := .int .i64 (ks (l.take k))) rfl) ?_
      refine Wl_v (r_mv (v := .slice a n c) rfl) ?_
      refine Wl_v (r_mv (v := .int .i64 ((k : Nat) : Int)) rfl) ?_
      refine Wl_idxi Try.underlying22 Try.sizeOf3 rfl rfl hs (by omega) (by omega) ?_
      intro ib5 io5 hc5
      rw [Int.toNat_natCast] at hc5
      refine Wl_loadc Try.isAgg3 rfl hc5 ?_
      refine Wl_v (r_shr rfl rfl (by omega) (shr2048 (by omega) (by omega))) ?_
      refine Wl_v (r_add rfl rfl (wi64 (by omega) (by omega))) ?_
      refine Wl_v (r_as (v := .int .i64 ((ks (l.take k)) + (kw (l.getD k 0)))) rfl) ?_
      refine Wl_nil ?_
      refine W_region ?_
      refine Wl_v (r_mv (v := .int .i64 (mc (l.take k))) rfl) ?_
      refine Wl_v (r_add rfl rfl (wi64 (by omega) (by omega))) ?_
      refine Wl_v (r_as (v := .int .i64 ((mc (l.take k)) + 1)) rfl) ?_
      refine Wl_nil ?_
      refine W_region ?_
      refine Wl_v (r_mv (v := .int .i64 ((k : Nat) : Int)) rfl) ?_
      refine Wl_v (r_add rfl rfl (wi64 (by omega) (by omega))) ?_
      refine Wl_v (r_as (v := .int .i64 (((k : Nat) : Int) + 1)) rfl) ?_
      refine Wl_nil ?_
      refine ⟨_, ?_, (k + 1), rfl, rfl, ⟨rfl, (Eq.trans (b := .int .i64 ((ks (l.take k)) + (kw (l.getD k 0)))) rfl (vint (by omega))), (Eq.trans (b := .int .i64 ((mc (l.take k)) + 1)) rfl (vint (by omega))), (Eq.trans (b := .int .i64 (((k : Nat) : Int) + 1)) rfl (vint (by omega))), trivial⟩, (by omega), (hbk.take_step (by omega) (by omega)), HL1⟩
      omega
     ·have hkw : kw (l.getD k 0) = 0 := by rw [kw, if_neg q5]
      rw [if_neg q5] at hmc
      rw [decide_eq_false q5]
      refine W_cond_f rfl ?_
      refine W_skip ?_
      refine W_region ?_
      refine Wl_v (r_mv (v := .int .i64 ((k : Nat) : Int)) rfl) ?_
      refine Wl_v (r_add rfl rfl (wi64 (by omega) (by omega))) ?_
      refine Wl_v (r_as (v := .int .i64 (((k : Nat) : Int) + 1)) rfl) ?_
      refine Wl_nil ?_
      refine ⟨_, ?_, (k + 1), rfl, rfl, ⟨rfl, (Eq.trans (b := .int .i64 (ks (l.take k))) rfl (vint (by omega))), (Eq.trans (b := .int .i64 (mc (l.take k))) rfl (vint (by omega))), (Eq.trans (b := .int .i64 (((k : Nat) : Int) + 1)) rfl (vint (by omega))), trivial⟩, (by omega), (hbk.take_step (by omega) (by omega)), HL1⟩
      omega
  ·have htk : l.take k = l := List.take_of_length_le (by omega)
   have hB : Bd l := by rw [htk] at hbk; exact hbk
   rw [decide_eq_false q2]
   refine W_cond_f rfl ?_
   refine W_exit ?_
   refine W_seq ?_
   refine W_region ?_
   refine Wl_v (r_mv (v := .int .i64 (mc (l.take k))) rfl) ?_
   refine Wl_v (r_ge rfl rfl) ?_
   refine Wl_v (r_mv (v := .bool (decide (2 ≤ (mc (l.take k))))) rfl) ?_
   by_cases q6 : 2 ≤ (mc (l.take k))
   ·rw [decide_eq_true q6]
    refine Wl_guard_t rfl ?_
    refine Wl_v (r_mv (v := .int .i64 (ks (l.take k))) rfl) ?_
    refine Wl_guard_t rfl ?_
    refine Wl_v (r_eq rfl rfl) ?_
    refine Wl_v (r_pick_t (v := .bool (decide ((ks (l.take k)) = 2048))) rfl rfl) ?_
    refine Wl_v (r_as (v := .bool (decide ((ks (l.take k)) = 2048))) rfl) ?_
    refine Wl_nil ?_
    refine W_ret ?_
    refine ret_end (v := .bool (decide ((ks (l.take k)) = 2048))) rfl (res1 Try.results26 rfl) ?_
    exact ⟨_, rfl, (by first | exact vboolf (fun h => by have := (rt_iff hB htk).1 h; omega) | exact vbool (by rw [rt_iff hB htk]; omega)), HU⟩
   ·rw [decide_eq_false q6]
    refine Wl_guard_f rfl ?_
    refine Wl_guard_f rfl ?_
    refine Wl_v (r_pick_f (v := .bool false) rfl rfl) ?_
    refine Wl_v (r_as (v := .bool false) rfl) ?_
    refine Wl_nil ?_
    refine W_ret ?_
    refine ret_end (v := .bool false) rfl (res1 Try.results26 rfl) ?_
    exact ⟨_, rfl, (by first | exact vboolf (fun h => by have := (rt_iff hB htk).1 h; omega) | exact vbool (by rw [rt_iff hB htk]; omega)), HU⟩

set_option maxRecDepth 100000 in
theorem many_spec {a : Option Addr} {n c : Nat} {l : List Int} {R : Nat → Prop} (w : World) (hs : Sl w R 1 (.slice a n c) n (ints .i64 l)) (hn : n ≤ 17592186044415) (hr : Rt l) :
  Calls Try.prog 99 #[.slice a n c] w (Ret fun v w' => v = .agg (ints .u32 (tab12 (cn l))).toArray ∧ Upd No w w') := by
 have HU : Upd (fun b => False) w w := Upd.refl _ _
 have hl_hs := ilen hs
 have hc_hs := hs.cap.1
 replace hs := hs.tight
 have h256 := hr.2.1
 refine calls_of_W Try.func99 rfl Try.ntmps99 (by simp) ?_
 refine W_seq ?_
 refine W_region ?_
 refine Wl_alloc (cs := [.int .u32 0, .int .u32 0, .int .u32 0, .int .u32 0, .int .u32 0, .int .u32 0, .int .u32 0, .int .u32 0, .int .u32 0, .int .u32 0, .int .u32 0, .int .u32 0]) Try.zeroValue142 rfl ?_
 intro B1 w1 hB1 hU1 hzz1 hb1
 have hzw1 := hU1.size
 replace hs := hs.upd0 hU1
 replace HU := HU.trans0 hU1
 replace hb1 : Blk w1 B1 (ints .u32 (tab12 (fun _ => 0))) := hb1
 refine Wl_nil ?_
 refine W_seq ?_
 refine W_seq ?_
 refine W_region ?_
 refine Wl_v (r_mv (v := .slice a n c) rfl) ?_
 refine Wl_v (r_len Try.underlying122 rfl) ?_
 refine Wl_v (r_mv (v := .int .i64 0) rfl) ?_
 refine Wl_nil ?_
 refine W_block ?_
 refine W_loop (fun mu ρ ds w' => ∃ (k : Nat), n - k = mu ∧ ds = [] ∧ Liv ρ [(2, .pointer (some ⟨B1, 0, none⟩)), (5, .slice a n c), (6, .int .i64 ((n : Nat) : Int)), (7, .int .i64 ((k : Nat) : Int))] ∧ k ≤ n ∧ Blk w' B1 (ints .u32 (tab12 (cn (l.take k)))) ∧ Upd (Is B1) w1 w') _ ⟨0, rfl, rfl, ⟨rfl, rfl, rfl, (by first | rfl | exact vint (by omega) | exact vint (by simp)), trivial⟩, (by omega), (hb1.icong (tab12_congr fun x hx => by simp [cn])), Upd.refl _ _⟩ ?_
 rintro m2 ρ2 ds2 w2 ⟨k, rfl, rfl, hl2, hk, hb1, hU2⟩
 obtain ⟨ρ2x, rfl⟩ : ∃ ρx, ρ2 = upds ρx [(2, .pointer (some ⟨B1, 0, none⟩)), (5, .slice a n c), (6, .int .i64 ((n : Nat) : Int)), (7, .int .i64 ((k : Nat) : Int))] := ⟨_, upds_self hl2⟩
 clear hl2
 have hzw2 := hU2.size
 replace hs := hs.upd1 hU2 (by intro h1; have h3 : ((R B1) ∧ B1 < w.heap.size) := h1; omega)
 replace HU := HU.trans1 hU2 (by show (False) ∨ w.heap.size ≤ B1; omega)
 have HL2 := hU2
 refine W_seq ?_
 refine W_region ?_
 refine Wl_v (r_lt rfl rfl) ?_
 refine Wl_nil ?_
 refine W_seq ?_
 by_cases q1 : ((k : Nat) : Int) < ((n : Nat) : Int)
 ·have hgd := hr.1.gd k
  have hcl := cn_le (l.take k) (l.getD k 0).toNat
  have hcn := cn_nonneg (l.take k) (l.getD k 0).toNat
  have h256 := hr.2.1
  rw [List.length_take] at hcl
  rw [decide_eq_true q1]
  refine W_cond_t rfl ?_
  refine W_skip ?_
  refine W_seq ?_
  refine W_block ?_
  refine W_seq ?_
  refine W_region ?_
  refine Wl_idxi Try.underlying122 Try.sizeOf3 rfl rfl hs (by omega) (by omega) ?_
  intro ib3 io3 hc3
  rw [Int.toNat_natCast] at hc3
  refine Wl_loadc Try.isAgg3 rfl hc3 ?_
  refine Wl_v (r_as (v := .int .i64 (l.getD k 0)) rfl) ?_
  refine Wl_nil ?_
  refine W_seq ?_
  refine W_region ?_
  refine Wl_v (r_mv (v := .int .i64 (l.getD k 0)) rfl) ?_
  refine Wl_v (r_gt rfl rfl) ?_
  refine Wl_nil ?_
  by_cases q2 : 0 < (l.getD k 0)
  ·rw [decide_eq_true q2]
   refine W_cond_t rfl ?_
   refine W_region ?_
   refine Wl_v (r_mv (v := .int .i64 (l.getD k 0)) rfl) ?_
   refine Wl_v (r_idxa (len := 12) (i' := (l.getD k 0).toNat) (o' := (l.getD k 0).toNat) Try.underlying142 Try.sizeOf65 rfl rfl (by omega) (by omega) (by omega)) ?_
   refine Wl_loadc (v := .int .u32 (cn (l.take k) ((l.getD k 0).toNat))) Try.isAgg65 rfl (by rw [hb1.icell (by rw [tab12_len]; omega), tab12_get _ (by omega)]) ?_
   refine Wl_v (r_add rfl rfl (wu32 (by omega) (by omega))) ?_
   refine Wl_v (r_idxa (len := 12) (i' := (l.getD k 0).toNat) (o' := (l.getD k 0).toNat) Try.underlying142 Try.sizeOf65 rfl rfl (by omega) (by omega) (by omega)) ?_
   refine Wl_storei (i := (l.getD k 0).toNat) (l' := tab12 (fun x => if x = (l.getD k 0).toNat then (cn (l.take k) ((l.getD k 0).toNat)) + 1 else cn (l.take k) x)) Try.sizeOf65 rfl rfl hb1 (by rw [tab12_len]; omega) (tab12_set _ (by omega) _ _ (fun j hj => rfl)) ?_
   intro w4 hU4 hzz4 hb1n
   replace hb1 := hb1n; clear hb1n
   have hzw4 := hU4.size
   replace HL2 := HL2.trans1 hU4 (by show (B1 = B1) ∨ w1.heap.size ≤ B1; omega)
   refine Wl_nil ?_
   refine W_region ?_
   refine Wl_v (r_add rfl rfl (wi64 (by omega) (by omega))) ?_
   refine Wl_v (r_mv (v := .int .i64 (((k : Nat) : Int) + 1)) rfl) ?_
   refine Wl_nil ?_
   refine ⟨_, ?_, (k + 1), rfl, rfl, ⟨rfl, rfl, rfl, (Eq.trans (b := .int .i64 (((k : Nat) : Int) + 1)) rfl (vint (by omega))), trivial⟩, (by omega), (hb1.icong (tab12_congr fun x hx => by rw [cn_take (by omega)]; by_cases hxx : x = (l.getD k 0).toNat; rw [if_pos hxx, if_pos ⟨by omega, by omega⟩, hxx]; rw [if_neg hxx, if_neg (by omega)]; omega)), HL2⟩
   omega
  ·rw [decide_eq_false q2]
   refine W_cond_f rfl ?_
   refine W_skip ?_
   refine W_region ?_
   refine Wl_v (r_add rfl rfl (wi64 (by omega) (by omega))) ?_
   refine Wl_v (r_mv (v := .int .i64 (((k : Nat) : Int) + 1)) rfl) ?_
   refine Wl_nil ?_
   refine ⟨_, ?_, (k + 1), rfl, rfl, ⟨rfl, rfl, rfl, (Eq.trans (b := .int .i64 (((k : Nat) : Int) + 1)) rfl (vint (by omega))), trivial⟩, (by omega), (hb1.icong (tab12_congr fun x hx => by rw [cn_take (by omega), if_neg (by omega)]; omega)), HL2⟩
   omega
 ·rw [decide_eq_false q1]
  refine W_cond_f rfl ?_
  refine W_exit ?_
  refine W_seq ?_
  refine W_region ?_
  refine Wl_v (r_loada (b := B1) (off := 0) (cs := ints .u32 (tab12 (cn (l.take k)))) Try.isAgg142 Try.sizeOf142 rfl (by simp only [ints, List.length_map]; exact tab12_len _) (fun j hj => by rw [hb1.cell, Nat.zero_add])) ?_
  refine Wl_storea (off := 0) (vs := ints .u32 (tab12 (cn (l.take k)))) (cs' := ints .u32 (tab12 (cn (l.take k)))) Try.sizeOf142 rfl rfl (by simp only [ints, List.length_map]; exact tab12_len _) one_ints hb1 (by have h1 : (tab12 (cn (l.take k))).length = 12 := tab12_len _; have h2 : (tab12 (cn (l.take k))).length = 12 := tab12_len _; simp only [ints, List.length_map]; omega) (take0_drop ((tab12_len _ : (tab12 (cn (l.take k))).length = 12).trans (tab12_len _ : (tab12 (cn (l.take k))).length = 12).symm)) ?_
  intro w5 hU5 hzz5 hb1n
  replace hb1 := hb1n; clear hb1n
  have hzw5 := hU5.size
  replace HU := HU.trans1 hU5 (by show (False) ∨ w.heap.size ≤ B1; omega)
  refine Wl_nil ?_
  refine W_ret ?_
  refine ret_end (v := .agg (ints .u32 (tab12 (cn (l.take k)))).toArray) rfl (rc1 Try.results99 rfl (cellAgg Try.isAgg142 Try.sizeOf142 (by simp only [ints, List.length_map]; exact tab12_len _) hb1)) ?_
  exact ⟨_, rfl, (by rw [show l.take k = l from List.take_of_length_le (by omega)]), HU⟩

set_option maxRecDepth 100000 in
theorem first_spec {a : Option Addr} {n c : Nat} {l : List Int} {R : Nat → Prop} (w : World) (hs : Sl w R 1 (.slice a n c) n (ints .i64 l)) (hn : n ≤ 17592186044415) (hr : Rt l) :
  Calls Try.prog 92 #[.slice a n c] w (Ret fun v w' => v = .agg (ints .u32 (tab12 (F l))).toArray ∧ Upd No w w') := by
 have HU : Upd (fun b => False) w w := Upd.refl _ _
 have hl_hs := ilen hs
 have hc_hs := hs.cap.1
 replace hs := hs.tight
 refine calls_of_W Try.func92 rfl Try.ntmps92 (by simp) ?_
 refine W_seq ?_
 refine W_region ?_
 refine Wl_alloc (cs := [.int .u32 0, .int .u32 0, .int .u32 0, .int .u32 0, .int .u32 0, .int .u32 0, .int .u32 0, .int .u32 0, .int .u32 0, .int .u32 0, .int .u32 0, .int .u32 0]) Try.zeroValue142 rfl ?_
 intro B1 w1 hB1 hU1 hzz1 hb1
 have hzw1 := hU1.size
 replace hs := hs.upd0 hU1
 replace HU := HU.trans0 hU1
 replace hb1 : Blk w1 B1 (ints .u32 (tab12 (fun _ => 0))) := hb1
 refine Wl_nil ?_
 refine W_seq ?_
 refine W_region ?_
 refine Wl_v (r_mv (v := .slice a n c) rfl) ?_
 refine Wl_call (r_call1 rfl Try.call99 rfl) (many_spec _ hs (by omega) (by omega)) ?_
 rintro v w2 ⟨rfl, hU2⟩
 have hzw2 := hU2.size
 replace HU := HU.trans0 hU2
 replace hb1 := hb1.upd0 hU2
 refine Wl_alloc (cs := [.int .u32 0, .int .u32 0, .int .u32 0, .int .u32 0, .int .u32 0, .int .u32 0, .int .u32 0, .int .u32 0, .int .u32 0, .int .u32 0, .int .u32 0, .int .u32 0]) Try.zeroValue142 rfl ?_
 intro B3 w3 hB3 hU3 hzz3 hb3
 have hzw3 := hU3.size
 replace HU := HU.trans0 hU3
 replace hb1 := hb1.upd0 hU3
 replace hb3 : Blk w3 B3 (ints .u32 (tab12 (fun _ => 0))) := hb3
 refine Wl_storea (off := 0) (vs := ints .u32 (tab12 (cn l))) (cs' := ints .u32 (tab12 (cn l))) Try.sizeOf142 rfl rfl (by simp only [ints, List.length_map]; exact tab12_len _) one_ints hb3 (by have h1 : (tab12 (cn l)).length = 12 := tab12_len _; have h2 : (tab12 (fun _ => 0)).length = 12 := tab12_len _; simp only [ints, List.length_map]; omega) (take0_drop ((tab12_len _ : (tab12 (fun _ => 0)).length = 12).trans (tab12_len _ : (tab12 (cn l)).length = 12).symm)) ?_
 intro w4 hU4 hzz4 hb3n
 replace hb3 := hb3n; clear hb3n
 have hzw4 := hU4.size
 replace HU := HU.trans1 hU4 (by show (False) ∨ w.heap.size ≤ B3; omega)
 replace hb1 := hb1.upd1 hU4 (by omega)
 refine Wl_nil ?_
 refine W_seq ?_
 refine W_seq ?_
 refine W_region ?_
 refine Wl_v (r_as (v := .int .i64 1) rfl) ?_
 refine Wl_nil ?_
 refine W_block ?_
 refine W_loop (fun mu ρ ds w' => ∃ (k : Nat), 12 - k = mu ∧ ds = [] ∧ Liv ρ [(2, .pointer (some ⟨B1, 0, none⟩)), (3, .pointer (some ⟨B3, 0, none⟩)), (4, .int .i64 ((k : Nat) : Int))] ∧ 1 ≤ k ∧ k ≤ 12 ∧ Blk w' B1 (ints .u32 (tab12 (fun j => if j < k then F l j else 0))) ∧ Upd (Is B1) w4 w') _ ⟨1, rfl, rfl, ⟨rfl, rfl, (by first | rfl | exact vint (by omega) | exact vint (by simp)), trivial⟩, (by omega), (by omega), (hb1.icong (tab12_congr fun x hx => by by_cases h1 : x < 1; rw [if_pos h1, show x = 0 from by omega]; rfl; rw [if_neg h1])), Upd.refl _ _⟩ ?_
 rintro m5 ρ5 ds5 w5 ⟨k, rfl, rfl, hl5, hk1, hk, hb1, hU5⟩
 obtain ⟨ρ5x, rfl⟩ : ∃ ρx, ρ5 = upds ρx [(2, .pointer (some ⟨B1, 0, none⟩)), (3, .pointer (some ⟨B3, 0, none⟩)), (4, .int .i64 ((k : Nat) : Int))] := ⟨_, upds_self hl5⟩
 clear hl5
 have hzw5 := hU5.size
 replace HU := HU.trans1 hU5 (by show (False) ∨ w.heap.size ≤ B1; omega)
 replace hb3 := hb3.upd1 hU5 (by omega)
 have HL5 := hU5
 refine W_seq ?_
 refine W_seq ?_
 refine W_region ?_
 refine Wl_v (r_mv (v := .int .i64 ((k : Nat) : Int)) rfl) ?_
 refine Wl_v (r_lt rfl rfl) ?_
 refine Wl_nil ?_
 by_cases q1 : ((k : Nat) : Int) < 12
 ·have hF : F l k = 2 * (F l (k - 1) + cn l (k - 1)) := by
   conv => lhs; rw [show k = (k - 1) + 1 from by omega]
   rfl
  have hFl := F_le' hr (n := k - 1) (by omega)
  rw [decide_eq_true q1]
  refine W_cond_t rfl ?_
  refine W_skip ?_
  refine W_seq ?_
  refine W_block ?_
  refine W_drawt rfl (l0 := tf 0 13) (by kernel_rfl) ?_
  refine Tk 0 (tf 1 13) rfl (YI_v (v := .int .i64 ((k : Nat) : Int)) rfl (fun w' hw' => r_mv (v := .int .i64 ((k : Nat) : Int)) rfl)) ?_
  refine Tk 1 (tf 2 13) rfl (YI_v (v := .int .i64 ((k : Nat) : Int)) rfl (fun w' hw' => r_mv (v := .int .i64 ((k : Nat) : Int)) rfl)) ?_
  refine Tk 2 (tf 3 13) rfl (YI_v (v := .int .i64 (((k : Nat) : Int) - 1)) rfl (fun w' hw' => r_sub rfl rfl (wi64 (by omega) (by omega)))) ?_
  refine Tk 3 (tf 4 13) rfl (YI_v (v := .pointer (some ⟨B1, (k - 1), none⟩)) rfl (fun w' hw' => r_idxa (len := 12) (i' := (k - 1)) (o' := (k - 1)) Try.underlying142 Try.sizeOf65 rfl rfl (by omega) (by omega) (by omega))) ?_
  refine Tk 4 (tf 5 13) rfl (YI_v (v := .int .u32 (if (k - 1) < k then F l (k - 1) else 0)) rfl (fun w' hw' => r_load Try.isAgg65 rfl (by rw [(hb1.upd0 hw').icell (by rw [tab12_len]; omega), tab12_get _ (by omega)]))) ?_
  refine Tk 5 (tf 6 13) rfl (YI_v (v := .int .i64 ((k : Nat) : Int)) rfl (fun w' hw' => r_mv (v := .int .i64 ((k : Nat) : Int)) rfl)) ?_
  refine Tk 6 (tf 7 13) rfl (YI_v (v := .int .i64 (((k : Nat) : Int) - 1)) rfl (fun w' hw' => r_sub rfl rfl (wi64 (by omega) (by omega)))) ?_
  refine Tk 7 (tf 8 13) rfl (YI_v (v := .pointer (some ⟨B3, (k - 1), none⟩)) rfl (fun w' hw' => r_idxa (len := 12) (i' := (k - 1)) (o' := (k - 1)) Try.underlying142 Try.sizeOf65 rfl rfl (by omega) (by omega) (by omega))) ?_
  refine Tk 8 (tf 9 13) rfl (YI_v (v := .int .u32 (cn l (k - 1))) rfl (fun w' hw' => r_load Try.isAgg65 rfl (by rw [(hb3.upd0 hw').icell (by rw [tab12_len]; omega), tab12_get _ (by omega)]))) ?_
  have hif : (if k - 1 < k then F l (k - 1) else 0) = F l (k - 1) := if_pos (by omega)
  refine Tk 9 (tf 10 13) rfl (YI_v (v := .int .u32 (F l (k - 1) + cn l (k - 1))) rfl (fun w' hw' => r_add rfl rfl (by rw [hif]; exact wu32 (by omega) (by omega)))) ?_
  refine Tk 10 (tf 11 13) rfl (YI_v (v := .int .u32 (2 * (F l (k - 1) + cn l (k - 1)))) rfl (fun w' hw' => r_shl rfl rfl (by omega) (shlone (by omega) (by omega)))) ?_
  refine Tk 11 (tf 12 13) rfl (YI_v (v := .pointer (some ⟨B1, k, none⟩)) rfl (fun w' hw' => r_idxa (len := 12) (i' := k) (o' := k) Try.underlying142 Try.sizeOf65 rfl rfl (by omega) (by omega) (by omega))) ?_
  intro w6 hU6
  have hzw6 := hU6.size
  replace hb1 := hb1.upd0 hU6
  replace HL5 := HL5.trans0 hU6
  refine Wa_one (i := 12) (listed' := tf 13 13) (by kernel_rfl) rfl (by kernel_rfl) ?_
  refine Ws_of_Wl ?_
  have hW : Upd No w5 w6 := hU6
  refine Wl_storei (i := k) (l' := tab12 (fun x => if x = k then 2 * (F l (k - 1) + cn l (k - 1)) else if x < k then F l x else 0)) Try.sizeOf65 rfl rfl hb1 (by rw [tab12_len]; omega) (tab12_set _ (by omega) _ _ (fun j hj => rfl)) ?_
  intro w7 hU7 hzz7 hb1n
  replace hb1 := hb1n; clear hb1n
  have hzw7 := hU7.size
  replace HL5 := HL5.trans1 hU7 (by show (B1 = B1) ∨ w4.heap.size ≤ B1; omega)
  refine Wl_nil ?_
  intro w8 hS8
  refine ⟨fun h => absurd h (by rw [show barOp _ 12 = true from by kernel_rfl]; simp), fun _ => ⟨Upd No w8, ?_⟩⟩
  have hU8 := hS8.upd
  have hzw8 := hU8.size
  replace hb1 := hb1.upd0 hU8
  replace HL5 := HL5.trans0 hU8
  try replace hW := hW.trans0 hU8
  refine Wa_done (by kernel_rfl) ?_
  refine W_region ?_
  refine Wl_v (r_mv (v := .int .i64 ((k : Nat) : Int)) rfl) ?_
  refine Wl_v (r_add rfl rfl (wi64 (by omega) (by omega))) ?_
  refine Wl_v (r_as (v := .int .i64 (((k : Nat) : Int) + 1)) rfl) ?_
  refine Wl_nil ?_
  refine ⟨_, ?_, (k + 1), rfl, rfl, ⟨rfl, rfl, (Eq.trans (b := .int .i64 (((k : Nat) : Int) + 1)) rfl (vint (by omega))), trivial⟩, (by omega), (by omega), (hb1.icong (tab12_congr fun x hx => by by_cases h1 : x = k; rw [if_pos h1, if_pos (by omega), h1, hF]; rw [if_neg h1]; by_cases h2 : x < k; rw [if_pos h2, if_pos (by omega)]; rw [if_neg h2, if_neg (by omega)])), HL5⟩
  omega
 ·rw [decide_eq_false q1]
  refine W_cond_f rfl ?_
  refine W_exit ?_
  refine W_seq ?_
  refine W_region ?_
  refine Wl_v (r_loada (b := B1) (off := 0) (cs := ints .u32 (tab12 (fun j => if j < k then F l j else 0))) Try.isAgg142 Try.sizeOf142 rfl (by simp only [ints, List.length_map]; exact tab12_len _) (fun j hj => by rw [hb1.cell, Nat.zero_add])) ?_
  refine Wl_storea (off := 0) (vs := ints .u32 (tab12 (fun j => if j < k then F l j else 0))) (cs' := ints .u32 (tab12 (fun j => if j < k then F l j else 0))) Try.sizeOf142 rfl rfl (by simp only [ints, List.length_map]; exact tab12_len _) one_ints hb1 (by have h1 : (tab12 (fun j => if j < k then F l j else 0)).length = 12 := tab12_len _; have h2 : (tab12 (fun j => if j < k then F l j else 0)).length = 12 := tab12_len _; simp only [ints, List.length_map]; omega) (take0_drop ((tab12_len _ : (tab12 (fun j => if j < k then F l j else 0)).length = 12).trans (tab12_len _ : (tab12 (fun j => if j < k then F l j else 0)).length = 12).symm)) ?_
  intro w9 hU9 hzz9 hb1n
  replace hb1 := hb1n; clear hb1n
  have hzw9 := hU9.size
  replace HU := HU.trans1 hU9 (by show (False) ∨ w.heap.size ≤ B1; omega)
  refine Wl_nil ?_
  refine W_ret ?_
  refine ret_end (v := .agg (ints .u32 (tab12 (fun j => if j < k then F l j else 0))).toArray) rfl (rc1 Try.results92 rfl (cellAgg Try.isAgg142 Try.sizeOf142 (by simp only [ints, List.length_map]; exact tab12_len _) hb1)) ?_
  exact ⟨_, rfl, (by rw [tab12_congr (f := fun j => if j < k then F l j else 0) (g := F l) (fun x hx => if_pos (by omega))]), HU⟩

end Go.Proofs.Ytilegaokfamfnaa
