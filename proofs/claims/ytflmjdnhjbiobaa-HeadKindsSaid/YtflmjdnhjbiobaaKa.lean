/-
  Walks, printed by a small program of this project (gen.py).
-/
import Derived.Test.YtflmjdnhjbiobaaWh
import Derived.Test.YtflmjdnhjbiobaaHa
import Derived.Test.YtflmjdnhjbiobaaFn
import Derived.Test.YtflmjdnhjbiobaaLw
set_option linter.unusedVariables false
set_option linter.unusedSimpArgs false
namespace Go.Proofs.Ytflmjdnhjbiobaa
open Go.Fw

theorem hw_inI {w : Int} (h0 : 0 ≤ w) (h1 : w ≤ 136) : hw w = hwr w ∧ 1024 ≤ hw w ∧ hw w ≤ 134217728 := by
  have := hw_in (n := w.toNat) (by omega)
  rwa [show ((w.toNat : Nat) : Int) = w from by omega] at this
theorem hw_outI {w : Int} (h0 : 136 < w) (h1 : w < 256) : hw w = 0 ∧ 134217728 < hwr w := by
  have e : ((w.toNat : Nat) : Int) = w := by omega
  have h2 := hw_out (n := w.toNat) (by omega) (by omega)
  have h3 := (hwr_tab w.toNat (by omega)).2.1 (by omega)
  rw [e] at h2 h3
  exact ⟨h2, h3.1⟩
theorem hb_more {x : Int} {k : Nat} (hx : x ≤ 134217728) (hk : k ≤ 136) (h : hw k < x) : k < 136 := by
  rcases Nat.lt_or_ge k 136 with h1 | h1
  · exact h1
  · rw [show k = 136 from by omega, hw_136] at h; omega
theorem hw_pt {w : Int} (h0 : 0 ≤ w) (h1 : w < 256) : 0 ≤ hw w ∧ hw w ≤ 134217728 := by have := hw_bd h0 h1; omega
theorem Hv_no {wz sz : Int} (h : ¬ (0 ≤ wz ∧ wz ≤ 134217728) ∨ 4611686018427387903 < sz) : ¬ Hv wz sz := fun h2 => by have := h2.1; have := h2.2.1; have := h2.2.2.1; omega
theorem Hv_iff {wz sz : Int} (h : 0 ≤ wz ∧ wz ≤ 134217728) (h2 : ¬ 4611686018427387903 < sz) : Hv wz sz ↔ hw (hb wz) = wz := ⟨fun x => x.2.2.2, fun x => ⟨h.1, h.2, by omega, x⟩⟩
theorem Hv_low {wz sz : Int} (h : wz < 1024) : ¬ Hv wz sz := fun h2 => by have := h2.low; omega

set_option maxRecDepth 100000 in
theorem window_ok {x : Int} (w : World) (rx : 0 ≤ x ∧ x ≤ 136) :
    Calls Try.prog 13 #[.int .u8 x] w (Ret fun v w' => v = .tuple #[.int .i64 (hw x), .int .i64 0] ∧ Upd No w w') := by
  have HU : Upd (fun b => False) w w := Upd.refl _ _
  have hin := hw_inI rx.1 rx.2
  refine calls_of_W Try.func13 rfl Try.ntmps13 (by simp) ?_
  refine W_seq ?_
  refine W_region ?_
  refine Wl_v (r_as (v := .int .i64 0) rfl) ?_
  refine Wl_v (r_as (v := .int .i64 0) rfl) ?_
  refine Wl_nil ?_
  refine W_seq ?_
  refine W_region ?_
  refine Wl_v (r_mv (v := .int .u8 x) rfl) ?_
  refine Wl_v (r_quo rfl rfl (by omega) (tq (by omega) (wu8 (by omega) (by omega)))) ?_
  refine Wl_v (r_cvt Try.underlying5 Try.underlying3 rfl (wi64 (by omega) (by omega))) ?_
  refine Wl_v (r_mv (v := .int .u8 x) rfl) ?_
  refine Wl_v (r_rem rfl rfl (by omega) (tr (by omega))) ?_
  refine Wl_v (r_cvt Try.underlying5 Try.underlying3 rfl (wi64 (by omega) (by omega))) ?_
  refine Wl_v (r_as (v := .int .i64 (x / 8)) rfl) ?_
  refine Wl_v (r_as (v := .int .i64 (x % 8)) rfl) ?_
  refine Wl_nil ?_
  refine W_seq ?_
  refine W_region ?_
  refine Wl_v (r_mv (v := .int .i64 (x % 8)) rfl) ?_
  refine Wl_v (r_add rfl rfl (wi64 (by omega) (by omega))) ?_
  refine Wl_v (r_mv (v := .int .i64 (x / 8)) rfl) ?_
  refine Wl_v (r_add rfl rfl (wi64 (by omega) (by omega))) ?_
  refine Wl_v (r_shl rfl rfl (by omega) (shlw (by omega) (by omega))) ?_
  refine Wl_v (r_as (v := .int .i64 (hwr x)) rfl) ?_
  refine Wl_nil ?_
  refine W_seq ?_
  refine W_seq ?_
  refine W_region ?_
  refine Wl_v (r_mv (v := .int .i64 (hwr x)) rfl) ?_
  refine Wl_v (r_gt rfl rfl) ?_
  refine Wl_nil ?_
  have q1 : ¬ (134217728 < (hwr x)) := (by omega)
  rw [decide_eq_false q1]
  refine W_cond_f rfl ?_
  refine W_skip ?_
  refine W_seq ?_
  refine W_region ?_
  refine Wl_v (r_mv (v := .int .i64 (hwr x)) rfl) ?_
  refine Wl_v (r_as (v := .int .i64 (hwr x)) rfl) ?_
  refine Wl_v (r_as (v := .int .i64 0) rfl) ?_
  refine Wl_nil ?_
  refine W_ret ?_
  refine ret_end (v := .tuple #[.int .i64 (hwr x), .int .i64 0]) rfl (res2 Try.results13 rfl rfl) ?_
  exact ⟨_, rfl, (vtup2 (by first | rfl | exact vint (by omega)) rfl), HU⟩

set_option maxRecDepth 100000 in
theorem window_no {x : Int} (w : World) (rx : 136 < x ∧ x < 256) :
    Calls Try.prog 13 #[.int .u8 x] w (Ret fun v w' => v = .tuple #[.int .i64 0, .int .i64 7] ∧ Upd No w w') := by
  have HU : Upd (fun b => False) w w := Upd.refl _ _
  have hin := hw_outI rx.1 rx.2
  refine calls_of_W Try.func13 rfl Try.ntmps13 (by simp) ?_
  refine W_seq ?_
  refine W_region ?_
  refine Wl_v (r_as (v := .int .i64 0) rfl) ?_
  refine Wl_v (r_as (v := .int .i64 0) rfl) ?_
  refine Wl_nil ?_
  refine W_seq ?_
  refine W_region ?_
  refine Wl_v (r_mv (v := .int .u8 x) rfl) ?_
  refine Wl_v (r_quo rfl rfl (by omega) (tq (by omega) (wu8 (by omega) (by omega)))) ?_
  refine Wl_v (r_cvt Try.underlying5 Try.underlying3 rfl (wi64 (by omega) (by omega))) ?_
  refine Wl_v (r_mv (v := .int .u8 x) rfl) ?_
  refine Wl_v (r_rem rfl rfl (by omega) (tr (by omega))) ?_
  refine Wl_v (r_cvt Try.underlying5 Try.underlying3 rfl (wi64 (by omega) (by omega))) ?_
  refine Wl_v (r_as (v := .int .i64 (x / 8)) rfl) ?_
  refine Wl_v (r_as (v := .int .i64 (x % 8)) rfl) ?_
  refine Wl_nil ?_
  refine W_seq ?_
  refine W_region ?_
  refine Wl_v (r_mv (v := .int .i64 (x % 8)) rfl) ?_
  refine Wl_v (r_add rfl rfl (wi64 (by omega) (by omega))) ?_
  refine Wl_v (r_mv (v := .int .i64 (x / 8)) rfl) ?_
  refine Wl_v (r_add rfl rfl (wi64 (by omega) (by omega))) ?_
  refine Wl_v (r_shl rfl rfl (by omega) (shlw (by omega) (by omega))) ?_
  refine Wl_v (r_as (v := .int .i64 (hwr x)) rfl) ?_
  refine Wl_nil ?_
  refine W_seq ?_
  refine W_seq ?_
  refine W_region ?_
  refine Wl_v (r_mv (v := .int .i64 (hwr x)) rfl) ?_
  refine Wl_v (r_gt rfl rfl) ?_
  refine Wl_nil ?_
  have q1 : 134217728 < (hwr x) := (by omega)
  rw [decide_eq_true q1]
  refine W_cond_t rfl ?_
  refine W_seq ?_
  refine W_region ?_
  refine Wl_v (r_as (v := .int .i64 0) rfl) ?_
  refine Wl_v (r_as (v := .int .i64 7) rfl) ?_
  refine Wl_nil ?_
  refine W_ret ?_
  refine ret_end (v := .tuple #[.int .i64 0, .int .i64 7]) rfl (res2 Try.results13 rfl rfl) ?_
  exact ⟨_, rfl, rfl, HU⟩

set_option maxRecDepth 100000 in
theorem rwindow {x : Int} (w : World) (rx : 0 ≤ x ∧ x < 256) :
    Calls Try.prog 14 #[.int .u8 x] w (Ret fun v w' => v = .int .i64 (hw x) ∧ Upd No w w') := by
  have HU : Upd (fun b => False) w w := Upd.refl _ _
  refine calls_of_W Try.func14 rfl Try.ntmps14 (by simp) ?_
  refine W_seq ?_
  refine W_region ?_
  refine Wl_v (r_as (v := .int .i64 0) rfl) ?_
  refine Wl_nil ?_
  refine W_seq ?_
  refine W_region ?_
  refine Wl_v (r_mv (v := .int .u8 x) rfl) ?_
  refine Wl_v (r_rem rfl rfl (by omega) (tr (by omega))) ?_
  refine Wl_v (r_cvt Try.underlying5 Try.underlying3 rfl (wi64 (by omega) (by omega))) ?_
  refine Wl_v (r_mul rfl rfl (wi64 (by omega) (by omega))) ?_
  refine Wl_v (r_add rfl rfl (wi64 (by omega) (by omega))) ?_
  refine Wl_v (r_as (v := .int .i64 (1024 + ((x % 8) * 128))) rfl) ?_
  refine Wl_nil ?_
  refine W_seq ?_
  refine W_seq ?_
  refine W_region ?_
  refine Wl_v (r_as (v := .int .i64 0) rfl) ?_
  refine Wl_nil ?_
  refine W_block ?_
  refine W_loop (fun mu ρ ds w' => ∃ (i : Nat), (x / 8).toNat - i = mu ∧ ds = [] ∧ Liv ρ [(0, .int .u8 x), (3, .int .i64 (hwi x i)), (4, .int .i64 ((i : Nat) : Int))] ∧ i ≤ (x / 8).toNat ∧ hwi x i ≤ 268435456 ∧ Upd No w w') _ ⟨0, rfl, rfl, ⟨rfl, (Eq.trans (b := .int .i64 (1024 + ((x % 8) * 128))) rfl (vint (hwi_zero x).symm)), (by first | rfl | exact vint (by omega) | exact vint (by simp)), trivial⟩, (by omega), (by have := hwi_zero x; omega), Upd.refl _ _⟩ ?_
  rintro m1 ρ1 ds1 w1 ⟨i, rfl, rfl, hl1, hi, hm, hU1⟩
  obtain ⟨ρ1x, rfl⟩ : ∃ ρx, ρ1 = upds ρx [(0, .int .u8 x), (3, .int .i64 (hwi x i)), (4, .int .i64 ((i : Nat) : Int))] := ⟨_, upds_self hl1⟩
  clear hl1
  have hzw1 := hU1.size
  replace HU := HU.trans0 hU1
  have HL1 := hU1
  refine W_seq ?_
  refine W_seq ?_
  refine W_region ?_
  refine Wl_v (r_mv (v := .int .i64 ((i : Nat) : Int)) rfl) ?_
  refine Wl_v (r_mv (v := .int .u8 x) rfl) ?_
  refine Wl_v (r_quo rfl rfl (by omega) (tq (by omega) (wu8 (by omega) (by omega)))) ?_
  refine Wl_v (r_cvt Try.underlying5 Try.underlying3 rfl (wi64 (by omega) (by omega))) ?_
  refine Wl_v (r_lt rfl rfl) ?_
  refine Wl_v (r_mv (v := .bool (decide (((i : Nat) : Int) < (x / 8)))) rfl) ?_
  by_cases q1 : ((i : Nat) : Int) < (x / 8)
  · have hpos := hwi_nonneg (w := x) i (by omega)
    rw [decide_eq_true q1]
    refine Wl_guard_t rfl ?_
    refine Wl_v (r_mv (v := .int .i64 (hwi x i)) rfl) ?_
    refine Wl_guard_t rfl ?_
    refine Wl_v (r_le rfl rfl) ?_
    refine Wl_v (r_pick_t (v := .bool (decide ((hwi x i) ≤ 134217728))) rfl rfl) ?_
    refine Wl_nil ?_
    by_cases q2 : (hwi x i) ≤ 134217728
    · rw [decide_eq_true q2]
      refine W_cond_t rfl ?_
      refine W_skip ?_
      refine W_seq ?_
      refine W_block ?_
      refine W_region ?_
      refine Wl_v (r_mv (v := .int .i64 (hwi x i)) rfl) ?_
      refine Wl_v (r_mul rfl rfl (wi64 (by omega) (by omega))) ?_
      refine Wl_v (r_as (v := .int .i64 (2 * (hwi x i))) rfl) ?_
      refine Wl_nil ?_
      refine W_region ?_
      refine Wl_v (r_mv (v := .int .i64 ((i : Nat) : Int)) rfl) ?_
      refine Wl_v (r_add rfl rfl (wi64 (by omega) (by omega))) ?_
      refine Wl_v (r_as (v := .int .i64 (((i : Nat) : Int) + 1)) rfl) ?_
      refine Wl_nil ?_
      refine ⟨_, ?_, (i + 1), rfl, rfl, ⟨rfl, (Eq.trans (b := .int .i64 (2 * (hwi x i))) rfl (vint (hwi_succ x i).symm)), (Eq.trans (b := .int .i64 (((i : Nat) : Int) + 1)) rfl (vint (by omega))), trivial⟩, (by omega), (by have := hwi_succ x i; omega), HL1⟩
      omega
    · have hwe : hwi x i ≤ hwr x := hwi_mono (by omega) (show i ≤ (x / 8).toNat from by omega)
      rw [decide_eq_false q2]
      refine W_cond_f rfl ?_
      refine W_exit ?_
      refine W_seq ?_
      refine W_seq ?_
      refine W_region ?_
      refine Wl_v (r_mv (v := .int .i64 (hwi x i)) rfl) ?_
      refine Wl_v (r_gt rfl rfl) ?_
      refine Wl_nil ?_
      have q3 : 134217728 < (hwi x i) := (by omega)
      rw [decide_eq_true q3]
      refine W_cond_t rfl ?_
      refine W_seq ?_
      refine W_region ?_
      refine Wl_v (r_as (v := .int .i64 0) rfl) ?_
      refine Wl_nil ?_
      refine W_ret ?_
      refine ret_end (v := .int .i64 0) rfl (res1 Try.results14 rfl) ?_
      exact ⟨_, rfl, (vint (by first | (rw [hw_neg (by omega)]; done) | (rw [hw_pos (by omega)]; omega))), HU⟩
  · have hwe : hwr x = hwi x i := by rw [show i = (x / 8).toNat from by omega]; rfl
    rw [decide_eq_false q1]
    refine Wl_guard_f rfl ?_
    refine Wl_guard_f rfl ?_
    refine Wl_v (r_pick_f (v := .bool false) rfl rfl) ?_
    refine Wl_nil ?_
    refine W_cond_f rfl ?_
    refine W_exit ?_
    refine W_seq ?_
    refine W_seq ?_
    refine W_region ?_
    refine Wl_v (r_mv (v := .int .i64 (hwi x i)) rfl) ?_
    refine Wl_v (r_gt rfl rfl) ?_
    refine Wl_nil ?_
    by_cases q4 : 134217728 < (hwi x i)
    · rw [decide_eq_true q4]
      refine W_cond_t rfl ?_
      refine W_seq ?_
      refine W_region ?_
      refine Wl_v (r_as (v := .int .i64 0) rfl) ?_
      refine Wl_nil ?_
      refine W_ret ?_
      refine ret_end (v := .int .i64 0) rfl (res1 Try.results14 rfl) ?_
      exact ⟨_, rfl, (vint (by first | (rw [hw_neg (by omega)]; done) | (rw [hw_pos (by omega)]; omega))), HU⟩
    · rw [decide_eq_false q4]
      refine W_cond_f rfl ?_
      refine W_skip ?_
      refine W_seq ?_
      refine W_region ?_
      refine Wl_v (r_mv (v := .int .i64 (hwi x i)) rfl) ?_
      refine Wl_v (r_as (v := .int .i64 (hwi x i)) rfl) ?_
      refine Wl_nil ?_
      refine W_ret ?_
      refine ret_end (v := .int .i64 (hwi x i)) rfl (res1 Try.results14 rfl) ?_
      exact ⟨_, rfl, (vint (by first | (rw [hw_neg (by omega)]; done) | (rw [hw_pos (by omega)]; omega))), HU⟩

set_option maxRecDepth 100000 in
theorem byte_ok {x : Int} (w : World) (rx : 0 ≤ x ∧ x ≤ 134217728) :
    Calls Try.prog 15 #[.int .i64 x] w (Ret fun v w' => v = .tuple #[.int .u8 ((hb x : Nat) : Int), .int .i64 0] ∧ Upd No w w') := by
  have HU : Upd (fun b => False) w w := Upd.refl _ _
  refine calls_of_W Try.func15 rfl Try.ntmps15 (by simp) ?_
  refine W_seq ?_
  refine W_region ?_
  refine Wl_v (r_as (v := .int .u8 0) rfl) ?_
  refine Wl_v (r_as (v := .int .i64 0) rfl) ?_
  refine Wl_nil ?_
  refine W_seq ?_
  refine W_seq ?_
  refine W_region ?_
  refine Wl_v (r_mv (v := .int .i64 x) rfl) ?_
  refine Wl_v (r_lt rfl rfl) ?_
  refine Wl_v (r_mv (v := .bool (decide (x < 0))) rfl) ?_
  have q1 : ¬ (x < 0) := (by omega)
  rw [decide_eq_false q1]
  refine Wl_guard_t rfl ?_
  refine Wl_v (r_mv (v := .int .i64 x) rfl) ?_
  refine Wl_guard_t rfl ?_
  refine Wl_v (r_gt rfl rfl) ?_
  refine Wl_v (r_pick_f (v := .bool (decide (134217728 < x))) rfl rfl) ?_
  refine Wl_nil ?_
  have q2 : ¬ (134217728 < x) := (by omega)
  rw [decide_eq_false q2]
  refine W_cond_f rfl ?_
  refine W_skip ?_
  refine W_seq ?_
  refine W_region ?_
  refine Wl_v (r_as (v := .int .u8 0) rfl) ?_
  refine Wl_nil ?_
  refine W_seq ?_
  refine W_seq ?_
  refine W_region ?_
  refine Wl_v (r_mv (v := .int .u8 0) rfl) ?_
  refine Wl_call (r_call1 rfl Try.call13 rfl) (window_ok _ (by omega)) ?_
  rintro v w1 ⟨rfl, hU1⟩
  have hzw1 := hU1.size
  replace HU := HU.trans0 hU1
  refine Wl_v (r_mv (v := .tuple #[.int .i64 (hw 0), .int .i64 0]) rfl) ?_
  refine Wl_v (r_ext (v := .int .i64 (hw 0)) rfl rfl) ?_
  refine Wl_v (r_ext (v := .int .i64 0) rfl rfl) ?_
  refine Wl_v (r_as (v := .int .i64 (hw 0)) rfl) ?_
  refine Wl_v (r_as (v := .int .i64 0) rfl) ?_
  refine Wl_nil ?_
  refine W_block ?_
  refine W_loop (fun mu ρ ds w' => ∃ (k : Nat), 136 - k = mu ∧ ds = [] ∧ Liv ρ [(0, .int .i64 x), (4, .int .u8 ((k : Nat) : Int)), (5, .int .i64 (hw ((k : Nat) : Int))), (6, .int .i64 0)] ∧ k ≤ 136 ∧ (∀ i : Nat, i < k → hw i < x) ∧ Upd No w1 w') _ ⟨0, rfl, rfl, ⟨rfl, (by first | rfl | exact vint (by omega) | exact vint (by simp)), (by first | rfl | exact vint (by omega) | exact vint (by simp)), (by first | rfl | exact vint (by omega) | exact vint (by simp)), trivial⟩, (by omega), (fun i hi => absurd hi (by omega)), Upd.refl _ _⟩ ?_
  rintro m2 ρ2 ds2 w2 ⟨k, rfl, rfl, hl2, hk, hall, hU2⟩
  obtain ⟨ρ2x, rfl⟩ : ∃ ρx, ρ2 = upds ρx [(0, .int .i64 x), (4, .int .u8 ((k : Nat) : Int)), (5, .int .i64 (hw ((k : Nat) : Int))), (6, .int .i64 0)] := ⟨_, upds_self hl2⟩
  clear hl2
  have hzw2 := hU2.size
  replace HU := HU.trans0 hU2
  have HL2 := hU2
  refine W_seq ?_
  refine W_seq ?_
  refine W_region ?_
  refine Wl_v (r_mv (v := .int .i64 0) rfl) ?_
  refine Wl_v (v := .bool true) (r_eq (a := 0) (b := 0) rfl rfl) ?_
  refine Wl_v (r_mv (v := .bool true) rfl) ?_
  refine Wl_guard_t rfl ?_
  refine Wl_v (r_mv (v := .int .i64 (hw ((k : Nat) : Int))) rfl) ?_
  refine Wl_guard_t rfl ?_
  refine Wl_v (r_mv (v := .int .i64 x) rfl) ?_
  refine Wl_guard_t rfl ?_
  refine Wl_v (r_lt rfl rfl) ?_
  refine Wl_v (r_pick_t (v := .bool (decide ((hw ((k : Nat) : Int)) < x))) rfl rfl) ?_
  refine Wl_nil ?_
  by_cases q3 : (hw ((k : Nat) : Int)) < x
  · have hmore := hb_more rx.2 hk q3
    rw [decide_eq_true q3]
    refine W_cond_t rfl ?_
    refine W_skip ?_
    refine W_seq ?_
    refine W_block ?_
    refine W_region ?_
    refine Wl_v (r_mv (v := .int .u8 ((k : Nat) : Int)) rfl) ?_
    refine Wl_v (r_add rfl rfl (wu8 (by omega) (by omega))) ?_
    refine Wl_v (r_as (v := .int .u8 (((k : Nat) : Int) + 1)) rfl) ?_
    refine Wl_nil ?_
    refine W_region ?_
    refine Wl_v (r_mv (v := .int .u8 (((k : Nat) : Int) + 1)) rfl) ?_
    refine Wl_call (r_call1 rfl Try.call13 rfl) (window_ok _ (by omega)) ?_
    rintro v w3 ⟨rfl, hU3⟩
    have hzw3 := hU3.size
    replace HU := HU.trans0 hU3
    replace HL2 := HL2.trans0 hU3
    refine Wl_v (r_mv (v := .tuple #[.int .i64 (hw (((k : Nat) : Int) + 1)), .int .i64 0]) rfl) ?_
    refine Wl_v (r_ext (v := .int .i64 (hw (((k : Nat) : Int) + 1))) rfl rfl) ?_
    refine Wl_v (r_ext (v := .int .i64 0) rfl rfl) ?_
    refine Wl_v (r_as (v := .int .i64 (hw (((k : Nat) : Int) + 1))) rfl) ?_
    refine Wl_v (r_as (v := .int .i64 0) rfl) ?_
    refine Wl_nil ?_
    refine ⟨_, ?_, (k + 1), rfl, rfl, ⟨rfl, (by first | rfl | exact vint (by omega) | exact vint (by simp)), (Eq.trans (b := .int .i64 (hw (((k : Nat) : Int) + 1))) rfl (vint (congrArg hw (by omega)))), (by first | rfl | exact vint (by omega) | exact vint (by simp)), trivial⟩, (by omega), (fun i hi => by rcases Nat.lt_or_ge i k with h | h; exact hall i h; rw [show i = k from by omega]; exact q3), HL2⟩
    omega
  · have hbe := hb_eq hk hall (by omega)
    rw [decide_eq_false q3]
    refine W_cond_f rfl ?_
    refine W_exit ?_
    refine W_seq ?_
    refine W_region ?_
    refine Wl_v (r_mv (v := .int .u8 ((k : Nat) : Int)) rfl) ?_
    refine Wl_v (r_as (v := .int .u8 ((k : Nat) : Int)) rfl) ?_
    refine Wl_v (r_as (v := .int .i64 0) rfl) ?_
    refine Wl_nil ?_
    refine W_ret ?_
    refine ret_end (v := .tuple #[.int .u8 ((k : Nat) : Int), .int .i64 0]) rfl (res2 Try.results15 rfl rfl) ?_
    exact ⟨_, rfl, (vtup2 (by first | rfl | exact vint (by omega)) rfl), HU⟩

set_option maxRecDepth 100000 in
theorem byte_no {x : Int} (w : World) (rx : ¬ (0 ≤ x ∧ x ≤ 134217728)) :
    Calls Try.prog 15 #[.int .i64 x] w (Ret fun v w' => v = .tuple #[.int .u8 0, .int .i64 2] ∧ Upd No w w') := by
  have HU : Upd (fun b => False) w w := Upd.refl _ _
  refine calls_of_W Try.func15 rfl Try.ntmps15 (by simp) ?_
  refine W_seq ?_
  refine W_region ?_
  refine Wl_v (r_as (v := .int .u8 0) rfl) ?_
  refine Wl_v (r_as (v := .int .i64 0) rfl) ?_
  refine Wl_nil ?_
  refine W_seq ?_
  refine W_seq ?_
  refine W_region ?_
  refine Wl_v (r_mv (v := .int .i64 x) rfl) ?_
  refine Wl_v (r_lt rfl rfl) ?_
  refine Wl_v (r_mv (v := .bool (decide (x < 0))) rfl) ?_
  by_cases q1 : x < 0
  · rw [decide_eq_true q1]
    refine Wl_guard_f rfl ?_
    refine Wl_guard_f rfl ?_
    refine Wl_v (r_pick_t (v := .bool true) rfl rfl) ?_
    refine Wl_nil ?_
    refine W_cond_t rfl ?_
    refine W_seq ?_
    refine W_region ?_
    refine Wl_v (r_as (v := .int .u8 0) rfl) ?_
    refine Wl_v (r_as (v := .int .i64 2) rfl) ?_
    refine Wl_nil ?_
    refine W_ret ?_
    refine ret_end (v := .tuple #[.int .u8 0, .int .i64 2]) rfl (res2 Try.results15 rfl rfl) ?_
    exact ⟨_, rfl, rfl, HU⟩
  · rw [decide_eq_false q1]
    refine Wl_guard_t rfl ?_
    refine Wl_v (r_mv (v := .int .i64 x) rfl) ?_
    refine Wl_guard_t rfl ?_
    refine Wl_v (r_gt rfl rfl) ?_
    refine Wl_v (r_pick_f (v := .bool (decide (134217728 < x))) rfl rfl) ?_
    refine Wl_nil ?_
    have q2 : 134217728 < x := (by omega)
    rw [decide_eq_true q2]
    refine W_cond_t rfl ?_
    refine W_seq ?_
    refine W_region ?_
    refine Wl_v (r_as (v := .int .u8 0) rfl) ?_
    refine Wl_v (r_as (v := .int .i64 2) rfl) ?_
    refine Wl_nil ?_
    refine W_ret ?_
    refine ret_end (v := .tuple #[.int .u8 0, .int .i64 2]) rfl (res2 Try.results15 rfl rfl) ?_
    exact ⟨_, rfl, rfl, HU⟩

set_option maxRecDepth 100000 in
theorem rbyte {x : Int} (w : World) (rx : x ≤ 134217728) :
    Calls Try.prog 17 #[.int .i64 x] w (Ret fun v w' => v = .int .u8 ((hb x : Nat) : Int) ∧ Upd No w w') := by
  have HU : Upd (fun b => False) w w := Upd.refl _ _
  refine calls_of_W Try.func17 rfl Try.ntmps17 (by simp) ?_
  refine W_seq ?_
  refine W_region ?_
  refine Wl_v (r_as (v := .int .u8 0) rfl) ?_
  refine Wl_nil ?_
  refine W_seq ?_
  refine W_region ?_
  refine Wl_v (r_as (v := .int .u8 0) rfl) ?_
  refine Wl_nil ?_
  refine W_seq ?_
  refine W_block ?_
  refine W_loop (fun mu ρ ds w' => ∃ (k : Nat), 136 - k = mu ∧ ds = [] ∧ Liv ρ [(0, .int .i64 x), (3, .int .u8 ((k : Nat) : Int))] ∧ k ≤ 136 ∧ (∀ i : Nat, i < k → hw i < x) ∧ Upd No w w') _ ⟨0, rfl, rfl, ⟨rfl, (by first | rfl | exact vint (by omega) | exact vint (by simp)), trivial⟩, (by omega), (fun i hi => absurd hi (by omega)), Upd.refl _ _⟩ ?_
  rintro m1 ρ1 ds1 w1 ⟨k, rfl, rfl, hl1, hk, hall, hU1⟩
  obtain ⟨ρ1x, rfl⟩ : ∃ ρx, ρ1 = upds ρx [(0, .int .i64 x), (3, .int .u8 ((k : Nat) : Int))] := ⟨_, upds_self hl1⟩
  clear hl1
  have hzw1 := hU1.size
  replace HU := HU.trans0 hU1
  have HL1 := hU1
  refine W_seq ?_
  refine W_seq ?_
  refine W_region ?_
  refine Wl_v (r_mv (v := .int .u8 ((k : Nat) : Int)) rfl) ?_
  refine Wl_call (r_call1 rfl Try.call14 rfl) (rwindow _ (by omega)) ?_
  rintro v w2 ⟨rfl, hU2⟩
  have hzw2 := hU2.size
  replace HU := HU.trans0 hU2
  replace HL1 := HL1.trans0 hU2
  refine Wl_v (r_mv (v := .int .i64 x) rfl) ?_
  refine Wl_v (r_lt rfl rfl) ?_
  refine Wl_nil ?_
  by_cases q1 : (hw ((k : Nat) : Int)) < x
  · have hmore := hb_more rx hk q1
    rw [decide_eq_true q1]
    refine W_cond_t rfl ?_
    refine W_skip ?_
    refine W_block ?_
    refine W_region ?_
    refine Wl_v (r_mv (v := .int .u8 ((k : Nat) : Int)) rfl) ?_
    refine Wl_v (r_add rfl rfl (wu8 (by omega) (by omega))) ?_
    refine Wl_v (r_as (v := .int .u8 (((k : Nat) : Int) + 1)) rfl) ?_
    refine Wl_nil ?_
    refine ⟨_, ?_, (k + 1), rfl, rfl, ⟨rfl, (by first | rfl | exact vint (by omega) | exact vint (by simp)), trivial⟩, (by omega), (fun i hi => by rcases Nat.lt_or_ge i k with h | h; exact hall i h; rw [show i = k from by omega]; exact q1), HL1⟩
    omega
  · have hbe := hb_eq hk hall (by omega)
    rw [decide_eq_false q1]
    refine W_cond_f rfl ?_
    refine W_exit ?_
    refine W_seq ?_
    refine W_region ?_
    refine Wl_v (r_mv (v := .int .u8 ((k : Nat) : Int)) rfl) ?_
    refine Wl_v (r_as (v := .int .u8 ((k : Nat) : Int)) rfl) ?_
    refine Wl_nil ?_
    refine W_ret ?_
    refine ret_end (v := .int .u8 ((k : Nat) : Int)) rfl (res1 Try.results17 rfl) ?_
    exact ⟨_, rfl, (by first | rfl | exact vint (by omega)), HU⟩

set_option maxRecDepth 100000 in
theorem valid_spec {wz sz dn : Int} {sm : Bool} (w : World) (rwz : -9223372036854775808 ≤ wz ∧ wz ≤ 9223372036854775807) (rsz : -9223372036854775808 ≤ sz ∧ sz ≤ 9223372036854775807) (rdn : 0 ≤ dn ∧ dn < 4294967296) :
    Calls Try.prog 20 #[.agg #[.int .i64 wz, .int .i64 sz, .int .u32 dn, .bool (decide (sm = true))]] w (Ret fun v w' => v = .bool (decide (Hv wz sz)) ∧ Upd No w w') := by
  have HU : Upd (fun b => False) w w := Upd.refl _ _
  have hle : wz ≤ 134217728 → hb wz ≤ 136 := hb_le
  refine calls_of_W Try.func20 rfl Try.ntmps20 (by simp) ?_
  refine W_seq ?_
  refine W_region ?_
  refine Wl_box (v := .agg #[.int .i64 wz, .int .i64 sz, .int .u32 dn, .bool (decide (sm = true))]) (cs := [.int .i64 wz, .int .i64 sz, .int .u32 dn, .bool (decide (sm = true))]) rfl rfl ?_
  intro B1 w1 hB1 hU1 hzz1 hb1
  have hzw1 := hU1.size
  replace HU := HU.trans0 hU1
  refine Wl_v (r_as (v := .bool false) rfl) ?_
  refine Wl_nil ?_
  refine W_seq ?_
  refine W_region ?_
  refine Wl_v (r_fld Try.underlying34 rfl Try.sizeOf3 rfl rfl) ?_
  refine Wl_load (v := .int .i64 wz) Try.isAgg3 rfl hb1 rfl ?_
  by_cases q1 : 0 ≤ wz ∧ wz ≤ 134217728
  · refine Wl_call (r_call1 rfl Try.call15 rfl) (byte_ok _ (by omega)) ?_
    rintro v w2 ⟨rfl, hU2⟩
    have hzw2 := hU2.size
    replace HU := HU.trans0 hU2
    replace hb1 := hb1.upd0 hU2
    refine Wl_v (r_mv (v := .tuple #[.int .u8 ((hb wz : Nat) : Int), .int .i64 0]) rfl) ?_
    refine Wl_v (r_ext (v := .int .u8 ((hb wz : Nat) : Int)) rfl rfl) ?_
    refine Wl_v (r_ext (v := .int .i64 0) rfl rfl) ?_
    refine Wl_v (r_as (v := .int .u8 ((hb wz : Nat) : Int)) rfl) ?_
    refine Wl_v (r_as (v := .int .i64 0) rfl) ?_
    refine Wl_nil ?_
    refine W_seq ?_
    refine W_seq ?_
    refine W_region ?_
    refine Wl_v (r_mv (v := .int .i64 0) rfl) ?_
    refine Wl_v (v := .bool false) (r_ne (a := 0) (b := 0) rfl rfl) ?_
    refine Wl_v (r_mv (v := .bool false) rfl) ?_
    refine Wl_guard_t rfl ?_
    refine Wl_v (r_fld Try.underlying34 rfl Try.sizeOf3 rfl rfl) ?_
    refine Wl_guard_t rfl ?_
    refine Wl_load (v := .int .i64 sz) Try.isAgg3 rfl hb1 rfl ?_
    refine Wl_guard_t rfl ?_
    refine Wl_v (r_gt rfl rfl) ?_
    refine Wl_v (r_pick_f (v := .bool (decide (4611686018427387903 < sz))) rfl rfl) ?_
    refine Wl_nil ?_
    by_cases q2 : 4611686018427387903 < sz
    · rw [decide_eq_true q2]
      refine W_cond_t rfl ?_
      refine W_seq ?_
      refine W_region ?_
      refine Wl_v (r_as (v := .bool false) rfl) ?_
      refine Wl_nil ?_
      refine W_ret ?_
      refine ret_end (v := .bool false) rfl (res1 Try.results20 rfl) ?_
      exact ⟨_, rfl, (by rw [decide_eq_false (Hv_no (by omega))]), HU⟩
    · rw [decide_eq_false q2]
      refine W_cond_f rfl ?_
      refine W_skip ?_
      refine W_seq ?_
      refine W_region ?_
      refine Wl_v (r_mv (v := .int .u8 ((hb wz : Nat) : Int)) rfl) ?_
      refine Wl_call (r_call1 rfl Try.call13 rfl) (window_ok _ (by omega)) ?_
      rintro v w3 ⟨rfl, hU3⟩
      have hzw3 := hU3.size
      replace HU := HU.trans0 hU3
      replace hb1 := hb1.upd0 hU3
      refine Wl_v (r_mv (v := .tuple #[.int .i64 (hw ((hb wz : Nat) : Int)), .int .i64 0]) rfl) ?_
      refine Wl_v (r_ext (v := .int .i64 (hw ((hb wz : Nat) : Int))) rfl rfl) ?_
      refine Wl_v (r_ext (v := .int .i64 0) rfl rfl) ?_
      refine Wl_v (r_as (v := .int .i64 (hw ((hb wz : Nat) : Int))) rfl) ?_
      refine Wl_v (r_as (v := .int .i64 0) rfl) ?_
      refine Wl_nil ?_
      refine W_seq ?_
      refine W_region ?_
      refine Wl_v (r_mv (v := .int .i64 (hw ((hb wz : Nat) : Int))) rfl) ?_
      refine Wl_v (r_fld Try.underlying34 rfl Try.sizeOf3 rfl rfl) ?_
      refine Wl_load (v := .int .i64 wz) Try.isAgg3 rfl hb1 rfl ?_
      refine Wl_v (r_eq rfl rfl) ?_
      refine Wl_v (r_as (v := .bool (decide ((hw ((hb wz : Nat) : Int)) = wz))) rfl) ?_
      refine Wl_nil ?_
      refine W_ret ?_
      refine ret_end (v := .bool (decide ((hw ((hb wz : Nat) : Int)) = wz))) rfl (res1 Try.results20 rfl) ?_
      exact ⟨_, rfl, (vbool (Hv_iff (by omega) (by omega)).symm), HU⟩
  · refine Wl_call (r_call1 rfl Try.call15 rfl) (byte_no _ (by omega)) ?_
    rintro v w4 ⟨rfl, hU4⟩
    have hzw4 := hU4.size
    replace HU := HU.trans0 hU4
    replace hb1 := hb1.upd0 hU4
    refine Wl_v (r_mv (v := .tuple #[.int .u8 0, .int .i64 2]) rfl) ?_
    refine Wl_v (r_ext (v := .int .u8 0) rfl rfl) ?_
    refine Wl_v (r_ext (v := .int .i64 2) rfl rfl) ?_
    refine Wl_v (r_as (v := .int .u8 0) rfl) ?_
    refine Wl_v (r_as (v := .int .i64 2) rfl) ?_
    refine Wl_nil ?_
    refine W_seq ?_
    refine W_seq ?_
    refine W_region ?_
    refine Wl_v (r_mv (v := .int .i64 2) rfl) ?_
    refine Wl_v (v := .bool true) (r_ne (a := 2) (b := 0) rfl rfl) ?_
    refine Wl_v (r_mv (v := .bool true) rfl) ?_
    refine Wl_guard_f rfl ?_
    refine Wl_guard_f rfl ?_
    refine Wl_guard_f rfl ?_
    refine Wl_v (r_pick_t (v := .bool true) rfl rfl) ?_
    refine Wl_nil ?_
    refine W_cond_t rfl ?_
    refine W_seq ?_
    refine W_region ?_
    refine Wl_v (r_as (v := .bool false) rfl) ?_
    refine Wl_nil ?_
    refine W_ret ?_
    refine ret_end (v := .bool false) rfl (res1 Try.results20 rfl) ?_
    exact ⟨_, rfl, (by rw [decide_eq_false (Hv_no (by omega))]), HU⟩

set_option maxRecDepth 100000 in
theorem may_spec {wz sz dn : Int} {sm : Bool} (w : World) (rwz : -9223372036854775808 ≤ wz ∧ wz ≤ 9223372036854775807) (rsz : -9223372036854775808 ≤ sz ∧ sz ≤ 9223372036854775807) (rdn : 0 ≤ dn ∧ dn < 4294967296) :
    Calls Try.prog 19 #[.agg #[.int .i64 wz, .int .i64 sz, .int .u32 dn, .bool (decide (sm = true))]] w (Ret fun v w' => v = .bool (decide (Hv wz sz)) ∧ Upd No w w') := by
  have HU : Upd (fun b => False) w w := Upd.refl _ _
  have hle : wz ≤ 134217728 → hb wz ≤ 136 := hb_le
  refine calls_of_W Try.func19 rfl Try.ntmps19 (by simp) ?_
  refine W_seq ?_
  refine W_region ?_
  refine Wl_box (v := .agg #[.int .i64 wz, .int .i64 sz, .int .u32 dn, .bool (decide (sm = true))]) (cs := [.int .i64 wz, .int .i64 sz, .int .u32 dn, .bool (decide (sm = true))]) rfl rfl ?_
  intro B1 w1 hB1 hU1 hzz1 hb1
  have hzw1 := hU1.size
  replace HU := HU.trans0 hU1
  refine Wl_v (r_as (v := .bool false) rfl) ?_
  refine Wl_nil ?_
  refine W_seq ?_
  refine W_seq ?_
  refine W_region ?_
  refine Wl_v (r_fld Try.underlying34 rfl Try.sizeOf3 rfl rfl) ?_
  refine Wl_load (v := .int .i64 wz) Try.isAgg3 rfl hb1 rfl ?_
  refine Wl_v (r_lt rfl rfl) ?_
  refine Wl_v (r_mv (v := .bool (decide (wz < 1024))) rfl) ?_
  by_cases q1 : wz < 1024
  · rw [decide_eq_true q1]
    refine Wl_guard_f rfl ?_
    refine Wl_guard_f rfl ?_
    refine Wl_guard_f rfl ?_
    refine Wl_v (r_pick_t (v := .bool true) rfl rfl) ?_
    refine Wl_v (r_mv (v := .bool true) rfl) ?_
    refine Wl_guard_f rfl ?_
    refine Wl_guard_f rfl ?_
    refine Wl_guard_f rfl ?_
    refine Wl_v (r_pick_t (v := .bool true) rfl rfl) ?_
    refine Wl_nil ?_
    refine W_cond_t rfl ?_
    refine W_seq ?_
    refine W_region ?_
    refine Wl_v (r_as (v := .bool false) rfl) ?_
    refine Wl_nil ?_
    refine W_ret ?_
    refine ret_end (v := .bool false) rfl (res1 Try.results19 rfl) ?_
    exact ⟨_, rfl, (by rw [decide_eq_false (Hv_low (by omega))]), HU⟩
  · rw [decide_eq_false q1]
    refine Wl_guard_t rfl ?_
    refine Wl_v (r_fld Try.underlying34 rfl Try.sizeOf3 rfl rfl) ?_
    refine Wl_guard_t rfl ?_
    refine Wl_load (v := .int .i64 wz) Try.isAgg3 rfl hb1 rfl ?_
    refine Wl_guard_t rfl ?_
    refine Wl_v (r_gt rfl rfl) ?_
    refine Wl_v (r_pick_f (v := .bool (decide (134217728 < wz))) rfl rfl) ?_
    refine Wl_v (r_mv (v := .bool (decide (134217728 < wz))) rfl) ?_
    by_cases q2 : 134217728 < wz
    · rw [decide_eq_true q2]
      refine Wl_guard_f rfl ?_
      refine Wl_guard_f rfl ?_
      refine Wl_guard_f rfl ?_
      refine Wl_v (r_pick_t (v := .bool true) rfl rfl) ?_
      refine Wl_nil ?_
      refine W_cond_t rfl ?_
      refine W_seq ?_
      refine W_region ?_
      refine Wl_v (r_as (v := .bool false) rfl) ?_
      refine Wl_nil ?_
      refine W_ret ?_
      refine ret_end (v := .bool false) rfl (res1 Try.results19 rfl) ?_
      exact ⟨_, rfl, (by rw [decide_eq_false (Hv_no (by omega))]), HU⟩
    · rw [decide_eq_false q2]
      refine Wl_guard_t rfl ?_
      refine Wl_v (r_fld Try.underlying34 rfl Try.sizeOf3 rfl rfl) ?_
      refine Wl_guard_t rfl ?_
      refine Wl_load (v := .int .i64 sz) Try.isAgg3 rfl hb1 rfl ?_
      refine Wl_guard_t rfl ?_
      refine Wl_v (r_gt rfl rfl) ?_
      refine Wl_v (r_pick_f (v := .bool (decide (4611686018427387903 < sz))) rfl rfl) ?_
      refine Wl_nil ?_
      by_cases q3 : 4611686018427387903 < sz
      · rw [decide_eq_true q3]
        refine W_cond_t rfl ?_
        refine W_seq ?_
        refine W_region ?_
        refine Wl_v (r_as (v := .bool false) rfl) ?_
        refine Wl_nil ?_
        refine W_ret ?_
        refine ret_end (v := .bool false) rfl (res1 Try.results19 rfl) ?_
        exact ⟨_, rfl, (by rw [decide_eq_false (Hv_no (by omega))]), HU⟩
      · rw [decide_eq_false q3]
        refine W_cond_f rfl ?_
        refine W_skip ?_
        refine W_seq ?_
        refine W_drawt rfl (l0 := #[false, false, false, false, false, false, false, false]) (by kernel_rfl) ?_
        refine Wt_take (i := 0) (listed' := #[true, false, false, false, false, false, false, false]) (by kernel_rfl) rfl (by kernel_rfl) (by kernel_rfl) (by kernel_rfl) (by kernel_rfl) (YI_v (v := .pointer (some ⟨B1, 0, none⟩)) rfl (fun w' hw' => r_fld Try.underlying34 rfl Try.sizeOf3 rfl rfl)) ?_
        refine Wt_take (i := 1) (listed' := #[true, true, false, false, false, false, false, false]) (by kernel_rfl) rfl (by kernel_rfl) (by kernel_rfl) (by kernel_rfl) (by kernel_rfl) (YI_v (v := .int .i64 wz) rfl (fun w' hw' => r_load Try.isAgg3 rfl (by rw [(hb1.upd0 hw').cell]; rfl))) ?_
        refine Wt_take (i := 2) (listed' := #[true, true, true, false, false, false, false, false]) (by kernel_rfl) rfl (by kernel_rfl) (by kernel_rfl) (by kernel_rfl) (by kernel_rfl) (YI_c (v := .int .u8 ((hb wz : Nat) : Int)) rfl (fun w' => r_call1 rfl Try.call17 rfl) (fun w' hw' => rbyte w' (by omega))) ?_
        refine Wt_take (i := 3) (listed' := #[true, true, true, true, false, false, false, false]) (by kernel_rfl) rfl (by kernel_rfl) (by kernel_rfl) (by kernel_rfl) (by kernel_rfl) (YI_c (v := .int .i64 (hw ((hb wz : Nat) : Int))) rfl (fun w' => r_call1 rfl Try.call14 rfl) (fun w' hw' => rwindow w' (by omega))) ?_
        refine Wt_take (i := 4) (listed' := #[true, true, true, true, true, false, false, false]) (by kernel_rfl) rfl (by kernel_rfl) (by kernel_rfl) (by kernel_rfl) (by kernel_rfl) (YI_v (v := .pointer (some ⟨B1, 0, none⟩)) rfl (fun w' hw' => r_fld Try.underlying34 rfl Try.sizeOf3 rfl rfl)) ?_
        refine Wt_take (i := 5) (listed' := #[true, true, true, true, true, true, false, false]) (by kernel_rfl) rfl (by kernel_rfl) (by kernel_rfl) (by kernel_rfl) (by kernel_rfl) (YI_v (v := .int .i64 wz) rfl (fun w' hw' => r_load Try.isAgg3 rfl (by rw [(hb1.upd0 hw').cell]; rfl))) ?_
        refine Wt_take (i := 6) (listed' := #[true, true, true, true, true, true, true, false]) (by kernel_rfl) rfl (by kernel_rfl) (by kernel_rfl) (by kernel_rfl) (by kernel_rfl) (YI_v (v := .bool (decide ((hw ((hb wz : Nat) : Int)) = wz))) rfl (fun w' hw' => r_eq rfl rfl)) ?_
        refine Wt_take (i := 7) (listed' := #[true, true, true, true, true, true, true, true]) (by kernel_rfl) rfl (by kernel_rfl) (by kernel_rfl) (by kernel_rfl) (by kernel_rfl) (YI_v (v := .bool (decide ((hw ((hb wz : Nat) : Int)) = wz))) rfl (fun w' hw' => r_as (v := .bool (decide ((hw ((hb wz : Nat) : Int)) = wz))) rfl)) ?_
        intro w2 hU2
        have hzw2 := hU2.size
        replace HU := HU.trans0 hU2
        replace hb1 := hb1.upd0 hU2
        refine Wa_done (by kernel_rfl) ?_
        refine W_ret ?_
        refine ret_end (v := .bool (decide ((hw ((hb wz : Nat) : Int)) = wz))) rfl (res1 Try.results19 rfl) ?_
        exact ⟨_, rfl, (vbool (Hv_iff (by omega) (by omega)).symm), HU⟩

set_option maxRecDepth 100000 in
theorem put_ok {wz sz dn : Int} {sm : Bool} (w : World) (rwz : -9223372036854775808 ≤ wz ∧ wz ≤ 9223372036854775807) (rsz : -9223372036854775808 ≤ sz ∧ sz ≤ 9223372036854775807) (rdn : 0 ≤ dn ∧ dn < 4294967296) (hv : Hv wz sz) :
    Calls Try.prog 18 #[.agg #[.int .i64 wz, .int .i64 sz, .int .u32 dn, .bool (decide (sm = true))]] w (Ret fun v w' => ∃ (a' : Option Addr) (m' : Nat) (c' : Nat), v = .tuple #[.slice a' m' c', .int .i64 0] ∧ Own w' (fun g => w.heap.size ≤ g) 5 1 (.slice a' m' c') m' (ints .u8 (henc wz sz dn sm)) ∧ (henc wz sz dn sm).length = m' ∧ Upd No w w') := by
  have HU : Upd (fun b => False) w w := Upd.refl _ _
  have hw0 := hv.low
  have hw1 := hv.2.1
  have hs1 := hv.2.2.1
  have hle := hb_le hv.2.1
  have hvl := vi_len sz
  refine calls_of_W Try.func18 rfl Try.ntmps18 (by simp) ?_
  refine W_seq ?_
  refine W_region ?_
  refine Wl_box (v := .agg #[.int .i64 wz, .int .i64 sz, .int .u32 dn, .bool (decide (sm = true))]) (cs := [.int .i64 wz, .int .i64 sz, .int .u32 dn, .bool (decide (sm = true))]) rfl rfl ?_
  intro B1 w1 hB1 hU1 hzz1 hb1
  have hzw1 := hU1.size
  replace HU := HU.trans0 hU1
  refine Wl_v (r_as (v := .slice none 0 0) rfl) ?_
  refine Wl_v (r_as (v := .int .i64 0) rfl) ?_
  refine Wl_nil ?_
  refine W_seq ?_
  refine W_seq ?_
  refine W_region ?_
  refine Wl_v (r_loada (b := B1) (off := 0) (cs := [.int .i64 wz, .int .i64 sz, .int .u32 dn, .bool (decide (sm = true))]) Try.isAgg34 Try.sizeOf34 rfl rfl (fun j hj => by rw [hb1.cell]; match j, hj with | 0, _ => rfl | 1, _ => rfl | 2, _ => rfl | 3, _ => rfl)) ?_
  refine Wl_call (r_call1 rfl Try.call20 rfl) (valid_spec _ (by omega) (by omega) (by omega)) ?_
  rintro v w2 ⟨rfl, hU2⟩
  have hzw2 := hU2.size
  replace HU := HU.trans0 hU2
  replace hb1 := hb1.upd0 hU2
  refine Wl_v (r_not rfl) ?_
  refine Wl_nil ?_
  have q1 : Hv wz sz := hv
  rw [decide_eq_true q1]
  simp only [Bool.not_true, Bool.not_false]
  refine W_cond_f rfl ?_
  refine W_skip ?_
  refine W_seq ?_
  refine W_region ?_
  refine Wl_v (r_fld Try.underlying34 rfl Try.sizeOf3 rfl rfl) ?_
  refine Wl_load (v := .int .i64 wz) Try.isAgg3 rfl hb1 rfl ?_
  refine Wl_call (r_call1 rfl Try.call15 rfl) (byte_ok _ (by omega)) ?_
  rintro v w3 ⟨rfl, hU3⟩
  have hzw3 := hU3.size
  replace HU := HU.trans0 hU3
  replace hb1 := hb1.upd0 hU3
  refine Wl_v (r_mv (v := .tuple #[.int .u8 ((hb wz : Nat) : Int), .int .i64 0]) rfl) ?_
  refine Wl_v (r_ext (v := .int .u8 ((hb wz : Nat) : Int)) rfl rfl) ?_
  refine Wl_v (r_ext (v := .int .i64 0) rfl rfl) ?_
  refine Wl_v (r_as (v := .int .u8 ((hb wz : Nat) : Int)) rfl) ?_
  refine Wl_v (r_as (v := .int .i64 0) rfl) ?_
  refine Wl_nil ?_
  refine W_seq ?_
  refine W_region ?_
  refine Wl_v (r_as (v := .int .u8 0) rfl) ?_
  refine Wl_nil ?_
  refine W_seq ?_
  refine W_seq ?_
  refine W_region ?_
  refine Wl_v (r_fld Try.underlying34 rfl Try.sizeOf3 rfl rfl) ?_
  refine Wl_load (v := .int .i64 sz) Try.isAgg3 rfl hb1 rfl ?_
  refine Wl_v (r_ge rfl rfl) ?_
  refine Wl_nil ?_
  by_cases q2 : 0 ≤ sz
  · rw [decide_eq_true q2]
    refine W_cond_t rfl ?_
    refine W_region ?_
    refine Wl_v (r_mv (v := .int .u8 0) rfl) ?_
    refine Wl_v (r_or rfl rfl (show _ = (1 : Int) from by decide)) ?_
    refine Wl_v (r_as (v := .int .u8 1) rfl) ?_
    refine Wl_nil ?_
    refine W_seq ?_
    refine W_seq ?_
    refine W_region ?_
    refine Wl_v (r_fld Try.underlying34 rfl Try.sizeOf4 rfl rfl) ?_
    refine Wl_load (v := .bool (decide (sm = true))) Try.isAgg4 rfl hb1 rfl ?_
    refine Wl_nil ?_
    by_cases q3 : sm = true
    · rw [decide_eq_true q3]
      refine W_cond_t rfl ?_
      refine W_region ?_
      refine Wl_v (r_mv (v := .int .u8 1) rfl) ?_
      refine Wl_v (r_or rfl rfl (show _ = (3 : Int) from by decide)) ?_
      refine Wl_v (r_as (v := .int .u8 3) rfl) ?_
      refine Wl_nil ?_
      refine W_seq ?_
      refine W_seq ?_
      refine W_region ?_
      refine Wl_v (r_fld Try.underlying34 rfl Try.sizeOf32 rfl rfl) ?_
      refine Wl_load (v := .int .u32 dn) Try.isAgg32 rfl hb1 rfl ?_
      refine Wl_v (r_ne rfl rfl) ?_
      refine Wl_nil ?_
      by_cases q4 : dn ≠ 0
      · rw [decide_eq_true q4]
        refine W_cond_t rfl ?_
        refine W_region ?_
        refine Wl_v (r_mv (v := .int .u8 3) rfl) ?_
        refine Wl_v (r_or rfl rfl (show _ = (7 : Int) from by decide)) ?_
        refine Wl_v (r_as (v := .int .u8 7) rfl) ?_
        refine Wl_nil ?_
        refine W_seq ?_
        refine W_region ?_
        refine Wl_lit (pv := [(0, .int .u8 80), (1, .int .u8 77), (2, .int .u8 84), (3, .int .u8 30)]) (cs := [.int .u8 80, .int .u8 77, .int .u8 84, .int .u8 30]) Try.underlying35 Try.sizeOf5 Try.zeroValue5 (by decide) (by decide) (by simp only [List.map_toArray, List.map_cons, List.map_nil] <;> rfl) (by kernel_rfl) rfl (by decide) ?_
        intro B4 w4 hB4 hU4 hzz4 hs4
        have hzw4 := hU4.size
        replace HU := HU.trans0 hU4
        replace hb1 := hb1.upd0 hU4
        replace hs4 : Own w4 (Is B4) 5 1 (.slice (some ⟨B4, 0, none⟩) 4 4) 4 (ints .u8 [80, 77, 84, 30]) := hs4
        refine Wl_cvtsl Try.underlying35 Try.underlying5 rfl hs4 ?_
        intro w5 hU5 hzz5 hT5
        clear hs4
        have hzw5 := hU5.size
        replace HU := HU.trans1 hU5 (by show (False) ∨ w.heap.size ≤ B4; omega)
        replace hb1 := hb1.upd1 hU5 (by omega)
        refine Wl_v (r_mv (v := .int .u8 7) rfl) ?_
        refine Wl_v (r_mv (v := .int .u8 ((hb wz : Nat) : Int)) rfl) ?_
        refine Wl_lit (pv := [(0, .int .u8 7), (1, .int .u8 ((hb wz : Nat) : Int))]) (cs := [.int .u8 7, .int .u8 ((hb wz : Nat) : Int)]) Try.underlying35 Try.sizeOf5 Try.zeroValue5 (by decide) (by decide) (by simp only [List.map_toArray, List.map_cons, List.map_nil] <;> rfl) (by kernel_rfl) rfl (by decide) ?_
        intro B6 w6 hB6 hU6 hzz6 hs6
        have hzw6 := hU6.size
        replace HU := HU.trans0 hU6
        replace hb1 := hb1.upd0 hU6
        replace hT5 := hT5.upd0 hU6
        replace hs6 : Own w6 (Is B6) 5 1 (.slice (some ⟨B6, 0, none⟩) 2 2) 2 (ints .u8 [7, ((hb wz : Nat) : Int)]) := hs6
        refine Wl_appg (xs := [80, 77, 84, 30]) (ys := [7, ((hb wz : Nat) : Int)]) (zs := [80, 77, 84, 30] ++ [7, ((hb wz : Nat) : Int)]) (k' := .u8) (tot := 6) rfl Try.underlying35 (ti := Try.t5) (z := .int .u8 0) (sz := 1) (by' := 1) rfl rfl rfl rfl rfl rfl hT5 rfl hs6.sl (by omega) (by omega) (by omega) (by omega) (by simp only [maxLen]; omega) (by omega) ?_
        intro a7 c7 w7 hU7 hzz7 hO7
        have hzw7 := hU7.size
        replace HU := HU.trans0 hU7
        replace hb1 := hb1.upd0 hU7
        replace hT5 := hT5.upd0 hU7
        replace hs6 := hs6.upd0 hU7
        replace hO7 := hO7.tight
        have hl_hO7 := ilen hO7.sl
        have hc_hO7 := hO7.sl.cap.1
        refine Wl_v (r_as (v := .slice a7 6 c7) rfl) ?_
        refine Wl_nil ?_
        refine W_seq ?_
        refine W_seq ?_
        refine W_region ?_
        refine Wl_v (r_fld Try.underlying34 rfl Try.sizeOf32 rfl rfl) ?_
        refine Wl_load (v := .int .u32 dn) Try.isAgg32 rfl hb1 rfl ?_
        refine Wl_v (r_ne rfl rfl) ?_
        refine Wl_nil ?_
        have q5 : dn ≠ 0 := q4
        rw [decide_eq_true q5]
        refine W_cond_t rfl ?_
        refine W_region ?_
        refine Wl_v (r_mv (v := .slice a7 6 c7) rfl) ?_
        refine Wl_v (r_fld Try.underlying34 rfl Try.sizeOf32 rfl rfl) ?_
        refine Wl_load (v := .int .u32 dn) Try.isAgg32 rfl hb1 rfl ?_
        refine Wl_call (r_call2 rfl Try.call35 rfl rfl) (putword_spec _ hO7.sl.any (by omega) (by omega) (by omega)) ?_
        rintro v w8 ⟨a8, c8, rfl, hO8, hU8⟩
        have hzw8 := hU8.size
        replace HU := HU.trans0 hU8
        replace hb1 := hb1.upd0 hU8
        replace hT5 := hT5.upd0 hU8
        replace hs6 := hs6.upd0 hU8
        replace hO7 := hO7.upd0 hU8
        replace hO8 := hO8.tight
        have hl_hO8 := ilen hO8.sl
        have hc_hO8 := hO8.sl.cap.1
        refine Wl_v (r_as (v := .slice a8 (6 + 4) c8) rfl) ?_
        refine Wl_nil ?_
        refine W_seq ?_
        refine W_seq ?_
        refine W_region ?_
        refine Wl_v (r_fld Try.underlying34 rfl Try.sizeOf3 rfl rfl) ?_
        refine Wl_load (v := .int .i64 sz) Try.isAgg3 rfl hb1 rfl ?_
        refine Wl_v (r_ge rfl rfl) ?_
        refine Wl_nil ?_
        have q6 : 0 ≤ sz := q2
        rw [decide_eq_true q6]
        refine W_cond_t rfl ?_
        refine W_seq ?_
        refine W_region ?_
        refine Wl_v (r_mv (v := .slice a8 (6 + 4) c8) rfl) ?_
        refine Wl_v (r_fld Try.underlying34 rfl Try.sizeOf3 rfl rfl) ?_
        refine Wl_load (v := .int .i64 sz) Try.isAgg3 rfl hb1 rfl ?_
        refine Wl_v (r_cvt Try.underlying3 Try.underlying68 rfl (wu64 (by omega) (by omega))) ?_
        refine Wl_call (r_call2 rfl Try.call36 rfl rfl) (putvarint_spec _ hO8.sl.any (by omega) (by omega) (by omega)) ?_
        rintro v w9 ⟨a9, c9, rfl, hO9, hU9⟩
        have hzw9 := hU9.size
        replace HU := HU.trans0 hU9
        replace hb1 := hb1.upd0 hU9
        replace hT5 := hT5.upd0 hU9
        replace hs6 := hs6.upd0 hU9
        replace hO7 := hO7.upd0 hU9
        replace hO8 := hO8.upd0 hU9
        replace hO9 := hO9.tight
        have hl_hO9 := ilen hO9.sl
        have hc_hO9 := hO9.sl.cap.1
        refine Wl_v (r_ext (v := .slice a9 ((6 + 4) + (vi sz).length) c9) rfl rfl) ?_
        refine Wl_v (r_ext (v := .int .i64 0) rfl rfl) ?_
        refine Wl_v (r_as (v := .slice a9 ((6 + 4) + (vi sz).length) c9) rfl) ?_
        refine Wl_v (r_as (v := .int .i64 0) rfl) ?_
        refine Wl_nil ?_
        refine W_ret ?_
        refine ret_end (v := .tuple #[.slice a9 ((6 + 4) + (vi sz).length) c9, .int .i64 0]) rfl (res2 Try.results18 rfl rfl) ?_
        have hen : henc wz sz dn sm = (([80, 77, 84, 30] ++ [7, ((hb wz : Nat) : Int)]) ++ word dn) ++ vi sz := by unfold henc hbits; simp [q1, q2, q3, q4, q5, q6]
        rw [← hen] at hO9
        exact ⟨_, rfl, a9, (6 + 4) + (vi sz).length, c9, rfl, (hO9.weak (by intro g hg; have h3 : ((w8.heap.size ≤ g) ∧ g < w9.heap.size) := hg; show w.heap.size ≤ g; omega)), (ilen hO9.sl), HU⟩
      · rw [decide_eq_false q4]
        refine W_cond_f rfl ?_
        refine W_skip ?_
        refine W_seq ?_
        refine W_region ?_
        refine Wl_lit (pv := [(0, .int .u8 80), (1, .int .u8 77), (2, .int .u8 84), (3, .int .u8 30)]) (cs := [.int .u8 80, .int .u8 77, .int .u8 84, .int .u8 30]) Try.underlying35 Try.sizeOf5 Try.zeroValue5 (by decide) (by decide) (by simp only [List.map_toArray, List.map_cons, List.map_nil] <;> rfl) (by kernel_rfl) rfl (by decide) ?_
        intro B10 w10 hB10 hU10 hzz10 hs10
        have hzw10 := hU10.size
        replace HU := HU.trans0 hU10
        replace hb1 := hb1.upd0 hU10
        replace hs10 : Own w10 (Is B10) 5 1 (.slice (some ⟨B10, 0, none⟩) 4 4) 4 (ints .u8 [80, 77, 84, 30]) := hs10
        refine Wl_cvtsl Try.underlying35 Try.underlying5 rfl hs10 ?_
        intro w11 hU11 hzz11 hT11
        clear hs10
        have hzw11 := hU11.size
        replace HU := HU.trans1 hU11 (by show (False) ∨ w.heap.size ≤ B10; omega)
        replace hb1 := hb1.upd1 hU11 (by omega)
        refine Wl_v (r_mv (v := .int .u8 3) rfl) ?_
        refine Wl_v (r_mv (v := .int .u8 ((hb wz : Nat) : Int)) rfl) ?_
        refine Wl_lit (pv := [(0, .int .u8 3), (1, .int .u8 ((hb wz : Nat) : Int))]) (cs := [.int .u8 3, .int .u8 ((hb wz : Nat) : Int)]) Try.underlying35 Try.sizeOf5 Try.zeroValue5 (by decide) (by decide) (by simp only [List.map_toArray, List.map_cons, List.map_nil] <;> rfl) (by kernel_rfl) rfl (by decide) ?_
        intro B12 w12 hB12 hU12 hzz12 hs12
        have hzw12 := hU12.size
        replace HU := HU.trans0 hU12
        replace hb1 := hb1.upd0 hU12
        replace hT11 := hT11.upd0 hU12
        replace hs12 : Own w12 (Is B12) 5 1 (.slice (some ⟨B12, 0, none⟩) 2 2) 2 (ints .u8 [3, ((hb wz : Nat) : Int)]) := hs12
        refine Wl_appg (xs := [80, 77, 84, 30]) (ys := [3, ((hb wz : Nat) : Int)]) (zs := [80, 77, 84, 30] ++ [3, ((hb wz : Nat) : Int)]) (k' := .u8) (tot := 6) rfl Try.underlying35 (ti := Try.t5) (z := .int .u8 0) (sz := 1) (by' := 1) rfl rfl rfl rfl rfl rfl hT11 rfl hs12.sl (by omega) (by omega) (by omega) (by omega) (by simp only [maxLen]; omega) (by omega) ?_
        intro a13 c13 w13 hU13 hzz13 hO13
        have hzw13 := hU13.size
        replace HU := HU.trans0 hU13
        replace hb1 := hb1.upd0 hU13
        replace hT11 := hT11.upd0 hU13
        replace hs12 := hs12.upd0 hU13
        replace hO13 := hO13.tight
        have hl_hO13 := ilen hO13.sl
        have hc_hO13 := hO13.sl.cap.1
        refine Wl_v (r_as (v := .slice a13 6 c13) rfl) ?_
        refine Wl_nil ?_
        refine W_seq ?_
        refine W_seq ?_
        refine W_region ?_
        refine Wl_v (r_fld Try.underlying34 rfl Try.sizeOf32 rfl rfl) ?_
        refine Wl_load (v := .int .u32 dn) Try.isAgg32 rfl hb1 rfl ?_
        refine Wl_v (r_ne rfl rfl) ?_
        refine Wl_nil ?_
        have q7 : ¬ (dn ≠ 0) := q4
        rw [decide_eq_false q7]
        refine W_cond_f rfl ?_
        refine W_skip ?_
        refine W_seq ?_
        refine W_seq ?_
        refine W_region ?_
        refine Wl_v (r_fld Try.underlying34 rfl Try.sizeOf3 rfl rfl) ?_
        refine Wl_load (v := .int .i64 sz) Try.isAgg3 rfl hb1 rfl ?_
        refine Wl_v (r_ge rfl rfl) ?_
        refine Wl_nil ?_
        have q8 : 0 ≤ sz := q2
        rw [decide_eq_true q8]
        refine W_cond_t rfl ?_
        refine W_seq ?_
        refine W_region ?_
        refine Wl_v (r_mv (v := .slice a13 6 c13) rfl) ?_
        refine Wl_v (r_fld Try.underlying34 rfl Try.sizeOf3 rfl rfl) ?_
        refine Wl_load (v := .int .i64 sz) Try.isAgg3 rfl hb1 rfl ?_
        refine Wl_v (r_cvt Try.underlying3 Try.underlying68 rfl (wu64 (by omega) (by omega))) ?_
        refine Wl_call (r_call2 rfl Try.call36 rfl rfl) (putvarint_spec _ hO13.sl.any (by omega) (by omega) (by omega)) ?_
        rintro v w14 ⟨a14, c14, rfl, hO14, hU14⟩
        have hzw14 := hU14.size
        replace HU := HU.trans0 hU14
        replace hb1 := hb1.upd0 hU14
        replace hT11 := hT11.upd0 hU14
        replace hs12 := hs12.upd0 hU14
        replace hO13 := hO13.upd0 hU14
        replace hO14 := hO14.tight
        have hl_hO14 := ilen hO14.sl
        have hc_hO14 := hO14.sl.cap.1
        refine Wl_v (r_ext (v := .slice a14 (6 + (vi sz).length) c14) rfl rfl) ?_
        refine Wl_v (r_ext (v := .int .i64 0) rfl rfl) ?_
        refine Wl_v (r_as (v := .slice a14 (6 + (vi sz).length) c14) rfl) ?_
        refine Wl_v (r_as (v := .int .i64 0) rfl) ?_
        refine Wl_nil ?_
        refine W_ret ?_
        refine ret_end (v := .tuple #[.slice a14 (6 + (vi sz).length) c14, .int .i64 0]) rfl (res2 Try.results18 rfl rfl) ?_
        have hen : henc wz sz dn sm = ([80, 77, 84, 30] ++ [3, ((hb wz : Nat) : Int)]) ++ vi sz := by unfold henc hbits; simp [q1, q2, q3, Classical.not_not.1 q4, Classical.not_not.1 q7, q8]
        rw [← hen] at hO14
        exact ⟨_, rfl, a14, 6 + (vi sz).length, c14, rfl, (hO14.weak (by intro g hg; have h3 : ((w13.heap.size ≤ g) ∧ g < w14.heap.size) := hg; show w.heap.size ≤ g; omega)), (ilen hO14.sl), HU⟩
    · rw [decide_eq_false q3]
      refine W_cond_f rfl ?_
      refine W_skip ?_
      refine W_seq ?_
      refine W_seq ?_
      refine W_region ?_
      refine Wl_v (r_fld Try.underlying34 rfl Try.sizeOf32 rfl rfl) ?_
      refine Wl_load (v := .int .u32 dn) Try.isAgg32 rfl hb1 rfl ?_
      refine Wl_v (r_ne rfl rfl) ?_
      refine Wl_nil ?_
      by_cases q9 : dn ≠ 0
      · rw [decide_eq_true q9]
        refine W_cond_t rfl ?_
        refine W_region ?_
        refine Wl_v (r_mv (v := .int .u8 1) rfl) ?_
        refine Wl_v (r_or rfl rfl (show _ = (5 : Int) from by decide)) ?_
        refine Wl_v (r_as (v := .int .u8 5) rfl) ?_
        refine Wl_nil ?_
        refine W_seq ?_
        refine W_region ?_
        refine Wl_lit (pv := [(0, .int .u8 80), (1, .int .u8 77), (2, .int .u8 84), (3, .int .u8 30)]) (cs := [.int .u8 80, .int .u8 77, .int .u8 84, .int .u8 30]) Try.underlying35 Try.sizeOf5 Try.zeroValue5 (by decide) (by decide) (by simp only [List.map_toArray, List.map_cons, List.map_nil] <;> rfl) (by kernel_rfl) rfl (by decide) ?_
        intro B15 w15 hB15 hU15 hzz15 hs15
        have hzw15 := hU15.size
        replace HU := HU.trans0 hU15
        replace hb1 := hb1.upd0 hU15
        replace hs15 : Own w15 (Is B15) 5 1 (.slice (some ⟨B15, 0, none⟩) 4 4) 4 (ints .u8 [80, 77, 84, 30]) := hs15
        refine Wl_cvtsl Try.underlying35 Try.underlying5 rfl hs15 ?_
        intro w16 hU16 hzz16 hT16
        clear hs15
        have hzw16 := hU16.size
        replace HU := HU.trans1 hU16 (by show (False) ∨ w.heap.size ≤ B15; omega)
        replace hb1 := hb1.upd1 hU16 (by omega)
        refine Wl_v (r_mv (v := .int .u8 5) rfl) ?_
        refine Wl_v (r_mv (v := .int .u8 ((hb wz : Nat) : Int)) rfl) ?_
        refine Wl_lit (pv := [(0, .int .u8 5), (1, .int .u8 ((hb wz : Nat) : Int))]) (cs := [.int .u8 5, .int .u8 ((hb wz : Nat) : Int)]) Try.underlying35 Try.sizeOf5 Try.zeroValue5 (by decide) (by decide) (by simp only [List.map_toArray, List.map_cons, List.map_nil] <;> rfl) (by kernel_rfl) rfl (by decide) ?_
        intro B17 w17 hB17 hU17 hzz17 hs17
        have hzw17 := hU17.size
        replace HU := HU.trans0 hU17
        replace hb1 := hb1.upd0 hU17
        replace hT16 := hT16.upd0 hU17
        replace hs17 : Own w17 (Is B17) 5 1 (.slice (some ⟨B17, 0, none⟩) 2 2) 2 (ints .u8 [5, ((hb wz : Nat) : Int)]) := hs17
        refine Wl_appg (xs := [80, 77, 84, 30]) (ys := [5, ((hb wz : Nat) : Int)]) (zs := [80, 77, 84, 30] ++ [5, ((hb wz : Nat) : Int)]) (k' := .u8) (tot := 6) rfl Try.underlying35 (ti := Try.t5) (z := .int .u8 0) (sz := 1) (by' := 1) rfl rfl rfl rfl rfl rfl hT16 rfl hs17.sl (by omega) (by omega) (by omega) (by omega) (by simp only [maxLen]; omega) (by omega) ?_
        intro a18 c18 w18 hU18 hzz18 hO18
        have hzw18 := hU18.size
        replace HU := HU.trans0 hU18
        replace hb1 := hb1.upd0 hU18
        replace hT16 := hT16.upd0 hU18
        replace hs17 := hs17.upd0 hU18
        replace hO18 := hO18.tight
        have hl_hO18 := ilen hO18.sl
        have hc_hO18 := hO18.sl.cap.1
        refine Wl_v (r_as (v := .slice a18 6 c18) rfl) ?_
        refine Wl_nil ?_
        refine W_seq ?_
        refine W_seq ?_
        refine W_region ?_
        refine Wl_v (r_fld Try.underlying34 rfl Try.sizeOf32 rfl rfl) ?_
        refine Wl_load (v := .int .u32 dn) Try.isAgg32 rfl hb1 rfl ?_
        refine Wl_v (r_ne rfl rfl) ?_
        refine Wl_nil ?_
        have q10 : dn ≠ 0 := q9
        rw [decide_eq_true q10]
        refine W_cond_t rfl ?_
        refine W_region ?_
        refine Wl_v (r_mv (v := .slice a18 6 c18) rfl) ?_
        refine Wl_v (r_fld Try.underlying34 rfl Try.sizeOf32 rfl rfl) ?_
        refine Wl_load (v := .int .u32 dn) Try.isAgg32 rfl hb1 rfl ?_
        refine Wl_call (r_call2 rfl Try.call35 rfl rfl) (putword_spec _ hO18.sl.any (by omega) (by omega) (by omega)) ?_
        rintro v w19 ⟨a19, c19, rfl, hO19, hU19⟩
        have hzw19 := hU19.size
        replace HU := HU.trans0 hU19
        replace hb1 := hb1.upd0 hU19
        replace hT16 := hT16.upd0 hU19
        replace hs17 := hs17.upd0 hU19
        replace hO18 := hO18.upd0 hU19
        replace hO19 := hO19.tight
        have hl_hO19 := ilen hO19.sl
        have hc_hO19 := hO19.sl.cap.1
        refine Wl_v (r_as (v := .slice a19 (6 + 4) c19) rfl) ?_
        refine Wl_nil ?_
        refine W_seq ?_
        refine W_seq ?_
        refine W_region ?_
        refine Wl_v (r_fld Try.underlying34 rfl Try.sizeOf3 rfl rfl) ?_
        refine Wl_load (v := .int .i64 sz) Try.isAgg3 rfl hb1 rfl ?_
        refine Wl_v (r_ge rfl rfl) ?_
        refine Wl_nil ?_
        have q11 : 0 ≤ sz := q2
        rw [decide_eq_true q11]
        refine W_cond_t rfl ?_
        refine W_seq ?_
        refine W_region ?_
        refine Wl_v (r_mv (v := .slice a19 (6 + 4) c19) rfl) ?_
        refine Wl_v (r_fld Try.underlying34 rfl Try.sizeOf3 rfl rfl) ?_
        refine Wl_load (v := .int .i64 sz) Try.isAgg3 rfl hb1 rfl ?_
        refine Wl_v (r_cvt Try.underlying3 Try.underlying68 rfl (wu64 (by omega) (by omega))) ?_
        refine Wl_call (r_call2 rfl Try.call36 rfl rfl) (putvarint_spec _ hO19.sl.any (by omega) (by omega) (by omega)) ?_
        rintro v w20 ⟨a20, c20, rfl, hO20, hU20⟩
        have hzw20 := hU20.size
        replace HU := HU.trans0 hU20
        replace hb1 := hb1.upd0 hU20
        replace hT16 := hT16.upd0 hU20
        replace hs17 := hs17.upd0 hU20
        replace hO18 := hO18.upd0 hU20
        replace hO19 := hO19.upd0 hU20
        replace hO20 := hO20.tight
        have hl_hO20 := ilen hO20.sl
        have hc_hO20 := hO20.sl.cap.1
        refine Wl_v (r_ext (v := .slice a20 ((6 + 4) + (vi sz).length) c20) rfl rfl) ?_
        refine Wl_v (r_ext (v := .int .i64 0) rfl rfl) ?_
        refine Wl_v (r_as (v := .slice a20 ((6 + 4) + (vi sz).length) c20) rfl) ?_
        refine Wl_v (r_as (v := .int .i64 0) rfl) ?_
        refine Wl_nil ?_
        refine W_ret ?_
        refine ret_end (v := .tuple #[.slice a20 ((6 + 4) + (vi sz).length) c20, .int .i64 0]) rfl (res2 Try.results18 rfl rfl) ?_
        have hen : henc wz sz dn sm = (([80, 77, 84, 30] ++ [5, ((hb wz : Nat) : Int)]) ++ word dn) ++ vi sz := by unfold henc hbits; simp [q1, q2, q3, q9, q10, q11]
        rw [← hen] at hO20
        exact ⟨_, rfl, a20, (6 + 4) + (vi sz).length, c20, rfl, (hO20.weak (by intro g hg; have h3 : ((w19.heap.size ≤ g) ∧ g < w20.heap.size) := hg; show w.heap.size ≤ g; omega)), (ilen hO20.sl), HU⟩
      · rw [decide_eq_false q9]
        refine W_cond_f rfl ?_
        refine W_skip ?_
        refine W_seq ?_
        refine W_region ?_
        refine Wl_lit (pv := [(0, .int .u8 80), (1, .int .u8 77), (2, .int .u8 84), (3, .int .u8 30)]) (cs := [.int .u8 80, .int .u8 77, .int .u8 84, .int .u8 30]) Try.underlying35 Try.sizeOf5 Try.zeroValue5 (by decide) (by decide) (by simp only [List.map_toArray, List.map_cons, List.map_nil] <;> rfl) (by kernel_rfl) rfl (by decide) ?_
        intro B21 w21 hB21 hU21 hzz21 hs21
        have hzw21 := hU21.size
        replace HU := HU.trans0 hU21
        replace hb1 := hb1.upd0 hU21
        replace hs21 : Own w21 (Is B21) 5 1 (.slice (some ⟨B21, 0, none⟩) 4 4) 4 (ints .u8 [80, 77, 84, 30]) := hs21
        refine Wl_cvtsl Try.underlying35 Try.underlying5 rfl hs21 ?_
        intro w22 hU22 hzz22 hT22
        clear hs21
        have hzw22 := hU22.size
        replace HU := HU.trans1 hU22 (by show (False) ∨ w.heap.size ≤ B21; omega)
        replace hb1 := hb1.upd1 hU22 (by omega)
        refine Wl_v (r_mv (v := .int .u8 1) rfl) ?_
        refine Wl_v (r_mv (v := .int .u8 ((hb wz : Nat) : Int)) rfl) ?_
        refine Wl_lit (pv := [(0, .int .u8 1), (1, .int .u8 ((hb wz : Nat) : Int))]) (cs := [.int .u8 1, .int .u8 ((hb wz : Nat) : Int)]) Try.underlying35 Try.sizeOf5 Try.zeroValue5 (by decide) (by decide) (by simp only [List.map_toArray, List.map_cons, List.map_nil] <;> rfl) (by kernel_rfl) rfl (by decide) ?_
        intro B23 w23 hB23 hU23 hzz23 hs23
        have hzw23 := hU23.size
        replace HU := HU.trans0 hU23
        replace hb1 := hb1.upd0 hU23
        replace hT22 := hT22.upd0 hU23
        replace hs23 : Own w23 (Is B23) 5 1 (.slice (some ⟨B23, 0, none⟩) 2 2) 2 (ints .u8 [1, ((hb wz : Nat) : Int)]) := hs23
        refine Wl_appg (xs := [80, 77, 84, 30]) (ys := [1, ((hb wz : Nat) : Int)]) (zs := [80, 77, 84, 30] ++ [1, ((hb wz : Nat) : Int)]) (k' := .u8) (tot := 6) rfl Try.underlying35 (ti := Try.t5) (z := .int .u8 0) (sz := 1) (by' := 1) rfl rfl rfl rfl rfl rfl hT22 rfl hs23.sl (by omega) (by omega) (by omega) (by omega) (by simp only [maxLen]; omega) (by omega) ?_
        intro a24 c24 w24 hU24 hzz24 hO24
        have hzw24 := hU24.size
        replace HU := HU.trans0 hU24
        replace hb1 := hb1.upd0 hU24
        replace hT22 := hT22.upd0 hU24
        replace hs23 := hs23.upd0 hU24
        replace hO24 := hO24.tight
        have hl_hO24 := ilen hO24.sl
        have hc_hO24 := hO24.sl.cap.1
        refine Wl_v (r_as (v := .slice a24 6 c24) rfl) ?_
        refine Wl_nil ?_
        refine W_seq ?_
        refine W_seq ?_
        refine W_region ?_
        refine Wl_v (r_fld Try.underlying34 rfl Try.sizeOf32 rfl rfl) ?_
        refine Wl_load (v := .int .u32 dn) Try.isAgg32 rfl hb1 rfl ?_
        refine Wl_v (r_ne rfl rfl) ?_
        refine Wl_nil ?_
        have q12 : ¬ (dn ≠ 0) := q9
        rw [decide_eq_false q12]
        refine W_cond_f rfl ?_
        refine W_skip ?_
        refine W_seq ?_
        refine W_seq ?_
        refine W_region ?_
        refine Wl_v (r_fld Try.underlying34 rfl Try.sizeOf3 rfl rfl) ?_
        refine Wl_load (v := .int .i64 sz) Try.isAgg3 rfl hb1 rfl ?_
        refine Wl_v (r_ge rfl rfl) ?_
        refine Wl_nil ?_
        have q13 : 0 ≤ sz := q2
        rw [decide_eq_true q13]
        refine W_cond_t rfl ?_
        refine W_seq ?_
        refine W_region ?_
        refine Wl_v (r_mv (v := .slice a24 6 c24) rfl) ?_
        refine Wl_v (r_fld Try.underlying34 rfl Try.sizeOf3 rfl rfl) ?_
        refine Wl_load (v := .int .i64 sz) Try.isAgg3 rfl hb1 rfl ?_
        refine Wl_v (r_cvt Try.underlying3 Try.underlying68 rfl (wu64 (by omega) (by omega))) ?_
        refine Wl_call (r_call2 rfl Try.call36 rfl rfl) (putvarint_spec _ hO24.sl.any (by omega) (by omega) (by omega)) ?_
        rintro v w25 ⟨a25, c25, rfl, hO25, hU25⟩
        have hzw25 := hU25.size
        replace HU := HU.trans0 hU25
        replace hb1 := hb1.upd0 hU25
        replace hT22 := hT22.upd0 hU25
        replace hs23 := hs23.upd0 hU25
        replace hO24 := hO24.upd0 hU25
        replace hO25 := hO25.tight
        have hl_hO25 := ilen hO25.sl
        have hc_hO25 := hO25.sl.cap.1
        refine Wl_v (r_ext (v := .slice a25 (6 + (vi sz).length) c25) rfl rfl) ?_
        refine Wl_v (r_ext (v := .int .i64 0) rfl rfl) ?_
        refine Wl_v (r_as (v := .slice a25 (6 + (vi sz).length) c25) rfl) ?_
        refine Wl_v (r_as (v := .int .i64 0) rfl) ?_
        refine Wl_nil ?_
        refine W_ret ?_
        refine ret_end (v := .tuple #[.slice a25 (6 + (vi sz).length) c25, .int .i64 0]) rfl (res2 Try.results18 rfl rfl) ?_
        have hen : henc wz sz dn sm = ([80, 77, 84, 30] ++ [1, ((hb wz : Nat) : Int)]) ++ vi sz := by unfold henc hbits; simp [q1, q2, q3, Classical.not_not.1 q9, Classical.not_not.1 q12, q13]
        rw [← hen] at hO25
        exact ⟨_, rfl, a25, 6 + (vi sz).length, c25, rfl, (hO25.weak (by intro g hg; have h3 : ((w24.heap.size ≤ g) ∧ g < w25.heap.size) := hg; show w.heap.size ≤ g; omega)), (ilen hO25.sl), HU⟩
  · rw [decide_eq_false q2]
    refine W_cond_f rfl ?_
    refine W_skip ?_
    refine W_seq ?_
    refine W_seq ?_
    refine W_region ?_
    refine Wl_v (r_fld Try.underlying34 rfl Try.sizeOf4 rfl rfl) ?_
    refine Wl_load (v := .bool (decide (sm = true))) Try.isAgg4 rfl hb1 rfl ?_
    refine Wl_nil ?_
    by_cases q14 : sm = true
    · rw [decide_eq_true q14]
      refine W_cond_t rfl ?_
      refine W_region ?_
      refine Wl_v (r_mv (v := .int .u8 0) rfl) ?_
      refine Wl_v (r_or rfl rfl (show _ = (2 : Int) from by decide)) ?_
      refine Wl_v (r_as (v := .int .u8 2) rfl) ?_
      refine Wl_nil ?_
      refine W_seq ?_
      refine W_seq ?_
      refine W_region ?_
      refine Wl_v (r_fld Try.underlying34 rfl Try.sizeOf32 rfl rfl) ?_
      refine Wl_load (v := .int .u32 dn) Try.isAgg32 rfl hb1 rfl ?_
      refine Wl_v (r_ne rfl rfl) ?_
      refine Wl_nil ?_
      by_cases q15 : dn ≠ 0
      · rw [decide_eq_true q15]
        refine W_cond_t rfl ?_
        refine W_region ?_
        refine Wl_v (r_mv (v := .int .u8 2) rfl) ?_
        refine Wl_v (r_or rfl rfl (show _ = (6 : Int) from by decide)) ?_
        refine Wl_v (r_as (v := .int .u8 6) rfl) ?_
        refine Wl_nil ?_
        refine W_seq ?_
        refine W_region ?_
        refine Wl_lit (pv := [(0, .int .u8 80), (1, .int .u8 77), (2, .int .u8 84), (3, .int .u8 30)]) (cs := [.int .u8 80, .int .u8 77, .int .u8 84, .int .u8 30]) Try.underlying35 Try.sizeOf5 Try.zeroValue5 (by decide) (by decide) (by simp only [List.map_toArray, List.map_cons, List.map_nil] <;> rfl) (by kernel_rfl) rfl (by decide) ?_
        intro B26 w26 hB26 hU26 hzz26 hs26
        have hzw26 := hU26.size
        replace HU := HU.trans0 hU26
        replace hb1 := hb1.upd0 hU26
        replace hs26 : Own w26 (Is B26) 5 1 (.slice (some ⟨B26, 0, none⟩) 4 4) 4 (ints .u8 [80, 77, 84, 30]) := hs26
        refine Wl_cvtsl Try.underlying35 Try.underlying5 rfl hs26 ?_
        intro w27 hU27 hzz27 hT27
        clear hs26
        have hzw27 := hU27.size
        replace HU := HU.trans1 hU27 (by show (False) ∨ w.heap.size ≤ B26; omega)
        replace hb1 := hb1.upd1 hU27 (by omega)
        refine Wl_v (r_mv (v := .int .u8 6) rfl) ?_
        refine Wl_v (r_mv (v := .int .u8 ((hb wz : Nat) : Int)) rfl) ?_
        refine Wl_lit (pv := [(0, .int .u8 6), (1, .int .u8 ((hb wz : Nat) : Int))]) (cs := [.int .u8 6, .int .u8 ((hb wz : Nat) : Int)]) Try.underlying35 Try.sizeOf5 Try.zeroValue5 (by decide) (by decide) (by simp only [List.map_toArray, List.map_cons, List.map_nil] <;> rfl) (by kernel_rfl) rfl (by decide) ?_
        intro B28 w28 hB28 hU28 hzz28 hs28
        have hzw28 := hU28.size
        replace HU := HU.trans0 hU28
        replace hb1 := hb1.upd0 hU28
        replace hT27 := hT27.upd0 hU28
        replace hs28 : Own w28 (Is B28) 5 1 (.slice (some ⟨B28, 0, none⟩) 2 2) 2 (ints .u8 [6, ((hb wz : Nat) : Int)]) := hs28
        refine Wl_appg (xs := [80, 77, 84, 30]) (ys := [6, ((hb wz : Nat) : Int)]) (zs := [80, 77, 84, 30] ++ [6, ((hb wz : Nat) : Int)]) (k' := .u8) (tot := 6) rfl Try.underlying35 (ti := Try.t5) (z := .int .u8 0) (sz := 1) (by' := 1) rfl rfl rfl rfl rfl rfl hT27 rfl hs28.sl (by omega) (by omega) (by omega) (by omega) (by simp only [maxLen]; omega) (by omega) ?_
        intro a29 c29 w29 hU29 hzz29 hO29
        have hzw29 := hU29.size
        replace HU := HU.trans0 hU29
        replace hb1 := hb1.upd0 hU29
        replace hT27 := hT27.upd0 hU29
        replace hs28 := hs28.upd0 hU29
        replace hO29 := hO29.tight
        have hl_hO29 := ilen hO29.sl
        have hc_hO29 := hO29.sl.cap.1
        refine Wl_v (r_as (v := .slice a29 6 c29) rfl) ?_
        refine Wl_nil ?_
        refine W_seq ?_
        refine W_seq ?_
        refine W_region ?_
        refine Wl_v (r_fld Try.underlying34 rfl Try.sizeOf32 rfl rfl) ?_
        refine Wl_load (v := .int .u32 dn) Try.isAgg32 rfl hb1 rfl ?_
        refine Wl_v (r_ne rfl rfl) ?_
        refine Wl_nil ?_
        have q16 : dn ≠ 0 := q15
        rw [decide_eq_true q16]
        refine W_cond_t rfl ?_
        refine W_region ?_
        refine Wl_v (r_mv (v := .slice a29 6 c29) rfl) ?_
        refine Wl_v (r_fld Try.underlying34 rfl Try.sizeOf32 rfl rfl) ?_
        refine Wl_load (v := .int .u32 dn) Try.isAgg32 rfl hb1 rfl ?_
        refine Wl_call (r_call2 rfl Try.call35 rfl rfl) (putword_spec _ hO29.sl.any (by omega) (by omega) (by omega)) ?_
        rintro v w30 ⟨a30, c30, rfl, hO30, hU30⟩
        have hzw30 := hU30.size
        replace HU := HU.trans0 hU30
        replace hb1 := hb1.upd0 hU30
        replace hT27 := hT27.upd0 hU30
        replace hs28 := hs28.upd0 hU30
        replace hO29 := hO29.upd0 hU30
        replace hO30 := hO30.tight
        have hl_hO30 := ilen hO30.sl
        have hc_hO30 := hO30.sl.cap.1
        refine Wl_v (r_as (v := .slice a30 (6 + 4) c30) rfl) ?_
        refine Wl_nil ?_
        refine W_seq ?_
        refine W_seq ?_
        refine W_region ?_
        refine Wl_v (r_fld Try.underlying34 rfl Try.sizeOf3 rfl rfl) ?_
        refine Wl_load (v := .int .i64 sz) Try.isAgg3 rfl hb1 rfl ?_
        refine Wl_v (r_ge rfl rfl) ?_
        refine Wl_nil ?_
        have q17 : ¬ (0 ≤ sz) := q2
        rw [decide_eq_false q17]
        refine W_cond_f rfl ?_
        refine W_skip ?_
        refine W_seq ?_
        refine W_region ?_
        refine Wl_v (r_mv (v := .slice a30 (6 + 4) c30) rfl) ?_
        refine Wl_v (r_as (v := .slice a30 (6 + 4) c30) rfl) ?_
        refine Wl_v (r_as (v := .int .i64 0) rfl) ?_
        refine Wl_nil ?_
        refine W_ret ?_
        refine ret_end (v := .tuple #[.slice a30 (6 + 4) c30, .int .i64 0]) rfl (res2 Try.results18 rfl rfl) ?_
        have hen : henc wz sz dn sm = ([80, 77, 84, 30] ++ [6, ((hb wz : Nat) : Int)]) ++ word dn := by unfold henc hbits; simp [q1, q2, q14, q15, q16, q17]
        rw [← hen] at hO30
        exact ⟨_, rfl, a30, 6 + 4, c30, rfl, (hO30.weak (by intro g hg; have h3 : ((w29.heap.size ≤ g) ∧ g < w30.heap.size) := hg; show w.heap.size ≤ g; omega)), (ilen hO30.sl), HU⟩
      · rw [decide_eq_false q15]
        refine W_cond_f rfl ?_
        refine W_skip ?_
        refine W_seq ?_
        refine W_region ?_
        refine Wl_lit (pv := [(0, .int .u8 80), (1, .int .u8 77), (2, .int .u8 84), (3, .int .u8 30)]) (cs := [.int .u8 80, .int .u8 77, .int .u8 84, .int .u8 30]) Try.underlying35 Try.sizeOf5 Try.zeroValue5 (by decide) (by decide) (by simp only [List.map_toArray, List.map_cons, List.map_nil] <;> rfl) (by kernel_rfl) rfl (by decide) ?_
        intro B31 w31 hB31 hU31 hzz31 hs31
        have hzw31 := hU31.size
        replace HU := HU.trans0 hU31
        replace hb1 := hb1.upd0 hU31
        replace hs31 : Own w31 (Is B31) 5 1 (.slice (some ⟨B31, 0, none⟩) 4 4) 4 (ints .u8 [80, 77, 84, 30]) := hs31
        refine Wl_cvtsl Try.underlying35 Try.underlying5 rfl hs31 ?_
        intro w32 hU32 hzz32 hT32
        clear hs31
        have hzw32 := hU32.size
        replace HU := HU.trans1 hU32 (by show (False) ∨ w.heap.size ≤ B31; omega)
        replace hb1 := hb1.upd1 hU32 (by omega)
        refine Wl_v (r_mv (v := .int .u8 2) rfl) ?_
        refine Wl_v (r_mv (v := .int .u8 ((hb wz : Nat) : Int)) rfl) ?_
        refine Wl_lit (pv := [(0, .int .u8 2), (1, .int .u8 ((hb wz : Nat) : Int))]) (cs := [.int .u8 2, .int .u8 ((hb wz : Nat) : Int)]) Try.underlying35 Try.sizeOf5 Try.zeroValue5 (by decide) (by decide) (by simp only [List.map_toArray, List.map_cons, List.map_nil] <;> rfl) (by kernel_rfl) rfl (by decide) ?_
        intro B33 w33 hB33 hU33 hzz33 hs33
        have hzw33 := hU33.size
        replace HU := HU.trans0 hU33
        replace hb1 := hb1.upd0 hU33
        replace hT32 := hT32.upd0 hU33
        replace hs33 : Own w33 (Is B33) 5 1 (.slice (some ⟨B33, 0, none⟩) 2 2) 2 (ints .u8 [2, ((hb wz : Nat) : Int)]) := hs33
        refine Wl_appg (xs := [80, 77, 84, 30]) (ys := [2, ((hb wz : Nat) : Int)]) (zs := [80, 77, 84, 30] ++ [2, ((hb wz : Nat) : Int)]) (k' := .u8) (tot := 6) rfl Try.underlying35 (ti := Try.t5) (z := .int .u8 0) (sz := 1) (by' := 1) rfl rfl rfl rfl rfl rfl hT32 rfl hs33.sl (by omega) (by omega) (by omega) (by omega) (by simp only [maxLen]; omega) (by omega) ?_
        intro a34 c34 w34 hU34 hzz34 hO34
        have hzw34 := hU34.size
        replace HU := HU.trans0 hU34
        replace hb1 := hb1.upd0 hU34
        replace hT32 := hT32.upd0 hU34
        replace hs33 := hs33.upd0 hU34
        replace hO34 := hO34.tight
        have hl_hO34 := ilen hO34.sl
        have hc_hO34 := hO34.sl.cap.1
        refine Wl_v (r_as (v := .slice a34 6 c34) rfl) ?_
        refine Wl_nil ?_
        refine W_seq ?_
        refine W_seq ?_
        refine W_region ?_
        refine Wl_v (r_fld Try.underlying34 rfl Try.sizeOf32 rfl rfl) ?_
        refine Wl_load (v := .int .u32 dn) Try.isAgg32 rfl hb1 rfl ?_
        refine Wl_v (r_ne rfl rfl) ?_
        refine Wl_nil ?_
        have q18 : ¬ (dn ≠ 0) := q15
        rw [decide_eq_false q18]
        refine W_cond_f rfl ?_
        refine W_skip ?_
        refine W_seq ?_
        refine W_seq ?_
        refine W_region ?_
        refine Wl_v (r_fld Try.underlying34 rfl Try.sizeOf3 rfl rfl) ?_
        refine Wl_load (v := .int .i64 sz) Try.isAgg3 rfl hb1 rfl ?_
        refine Wl_v (r_ge rfl rfl) ?_
        refine Wl_nil ?_
        have q19 : ¬ (0 ≤ sz) := q2
        rw [decide_eq_false q19]
        refine W_cond_f rfl ?_
        refine W_skip ?_
        refine W_seq ?_
        refine W_region ?_
        refine Wl_v (r_mv (v := .slice a34 6 c34) rfl) ?_
        refine Wl_v (r_as (v := .slice a34 6 c34) rfl) ?_
        refine Wl_v (r_as (v := .int .i64 0) rfl) ?_
        refine Wl_nil ?_
        refine W_ret ?_
        refine ret_end (v := .tuple #[.slice a34 6 c34, .int .i64 0]) rfl (res2 Try.results18 rfl rfl) ?_
        have hen : henc wz sz dn sm = [80, 77, 84, 30] ++ [2, ((hb wz : Nat) : Int)] := by unfold henc hbits; simp [q1, q2, q14, Classical.not_not.1 q15, Classical.not_not.1 q18, q19]
        rw [← hen] at hO34
        exact ⟨_, rfl, a34, 6, c34, rfl, (hO34.weak (by intro g hg; have h3 : ((g = w33.heap.size) ∧ g < w34.heap.size) := hg; show w.heap.size ≤ g; omega)), (ilen hO34.sl), HU⟩
    · rw [decide_eq_false q14]
      refine W_cond_f rfl ?_
      refine W_skip ?_
      refine W_seq ?_
      refine W_seq ?_
      refine W_region ?_
      refine Wl_v (r_fld Try.underlying34 rfl Try.sizeOf32 rfl rfl) ?_
      refine Wl_load (v := .int .u32 dn) Try.isAgg32 rfl hb1 rfl ?_
      refine Wl_v (r_ne rfl rfl) ?_
      refine Wl_nil ?_
      by_cases q20 : dn ≠ 0
      · rw [decide_eq_true q20]
        refine W_cond_t rfl ?_
        refine W_region ?_
        refine Wl_v (r_mv (v := .int .u8 0) rfl) ?_
        refine Wl_v (r_or rfl rfl (show _ = (4 : Int) from by decide)) ?_
        refine Wl_v (r_as (v := .int .u8 4) rfl) ?_
        refine Wl_nil ?_
        refine W_seq ?_
        refine W_region ?_
        refine Wl_lit (pv := [(0, .int .u8 80), (1, .int .u8 77), (2, .int .u8 84), (3, .int .u8 30)]) (cs := [.int .u8 80, .int .u8 77, .int .u8 84, .int .u8 30]) Try.underlying35 Try.sizeOf5 Try.zeroValue5 (by decide) (by decide) (by simp only [List.map_toArray, List.map_cons, List.map_nil] <;> rfl) (by kernel_rfl) rfl (by decide) ?_
        intro B35 w35 hB35 hU35 hzz35 hs35
        have hzw35 := hU35.size
        replace HU := HU.trans0 hU35
        replace hb1 := hb1.upd0 hU35
        replace hs35 : Own w35 (Is B35) 5 1 (.slice (some ⟨B35, 0, none⟩) 4 4) 4 (ints .u8 [80, 77, 84, 30]) := hs35
        refine Wl_cvtsl Try.underlying35 Try.underlying5 rfl hs35 ?_
        intro w36 hU36 hzz36 hT36
        clear hs35
        have hzw36 := hU36.size
        replace HU := HU.trans1 hU36 (by show (False) ∨ w.heap.size ≤ B35; omega)
        replace hb1 := hb1.upd1 hU36 (by omega)
        refine Wl_v (r_mv (v := .int .u8 4) rfl) ?_
        refine Wl_v (r_mv (v := .int .u8 ((hb wz : Nat) : Int)) rfl) ?_
        refine Wl_lit (pv := [(0, .int .u8 4), (1, .int .u8 ((hb wz : Nat) : Int))]) (cs := [.int .u8 4, .int .u8 ((hb wz : Nat) : Int)]) Try.underlying35 Try.sizeOf5 Try.zeroValue5 (by decide) (by decide) (by simp only [List.map_toArray, List.map_cons, List.map_nil] <;> rfl) (by kernel_rfl) rfl (by decide) ?_
        intro B37 w37 hB37 hU37 hzz37 hs37
        have hzw37 := hU37.size
        replace HU := HU.trans0 hU37
        replace hb1 := hb1.upd0 hU37
        replace hT36 := hT36.upd0 hU37
        replace hs37 : Own w37 (Is B37) 5 1 (.slice (some ⟨B37, 0, none⟩) 2 2) 2 (ints .u8 [4, ((hb wz : Nat) : Int)]) := hs37
        refine Wl_appg (xs := [80, 77, 84, 30]) (ys := [4, ((hb wz : Nat) : Int)]) (zs := [80, 77, 84, 30] ++ [4, ((hb wz : Nat) : Int)]) (k' := .u8) (tot := 6) rfl Try.underlying35 (ti := Try.t5) (z := .int .u8 0) (sz := 1) (by' := 1) rfl rfl rfl rfl rfl rfl hT36 rfl hs37.sl (by omega) (by omega) (by omega) (by omega) (by simp only [maxLen]; omega) (by omega) ?_
        intro a38 c38 w38 hU38 hzz38 hO38
        have hzw38 := hU38.size
        replace HU := HU.trans0 hU38
        replace hb1 := hb1.upd0 hU38
        replace hT36 := hT36.upd0 hU38
        replace hs37 := hs37.upd0 hU38
        replace hO38 := hO38.tight
        have hl_hO38 := ilen hO38.sl
        have hc_hO38 := hO38.sl.cap.1
        refine Wl_v (r_as (v := .slice a38 6 c38) rfl) ?_
        refine Wl_nil ?_
        refine W_seq ?_
        refine W_seq ?_
        refine W_region ?_
        refine Wl_v (r_fld Try.underlying34 rfl Try.sizeOf32 rfl rfl) ?_
        refine Wl_load (v := .int .u32 dn) Try.isAgg32 rfl hb1 rfl ?_
        refine Wl_v (r_ne rfl rfl) ?_
        refine Wl_nil ?_
        have q21 : dn ≠ 0 := q20
        rw [decide_eq_true q21]
        refine W_cond_t rfl ?_
        refine W_region ?_
        refine Wl_v (r_mv (v := .slice a38 6 c38) rfl) ?_
        refine Wl_v (r_fld Try.underlying34 rfl Try.sizeOf32 rfl rfl) ?_
        refine Wl_load (v := .int .u32 dn) Try.isAgg32 rfl hb1 rfl ?_
        refine Wl_call (r_call2 rfl Try.call35 rfl rfl) (putword_spec _ hO38.sl.any (by omega) (by omega) (by omega)) ?_
        rintro v w39 ⟨a39, c39, rfl, hO39, hU39⟩
        have hzw39 := hU39.size
        replace HU := HU.trans0 hU39
        replace hb1 := hb1.upd0 hU39
        replace hT36 := hT36.upd0 hU39
        replace hs37 := hs37.upd0 hU39
        replace hO38 := hO38.upd0 hU39
        replace hO39 := hO39.tight
        have hl_hO39 := ilen hO39.sl
        have hc_hO39 := hO39.sl.cap.1
        refine Wl_v (r_as (v := .slice a39 (6 + 4) c39) rfl) ?_
        refine Wl_nil ?_
        refine W_seq ?_
        refine W_seq ?_
        refine W_region ?_
        refine Wl_v (r_fld Try.underlying34 rfl Try.sizeOf3 rfl rfl) ?_
        refine Wl_load (v := .int .i64 sz) Try.isAgg3 rfl hb1 rfl ?_
        refine Wl_v (r_ge rfl rfl) ?_
        refine Wl_nil ?_
        have q22 : ¬ (0 ≤ sz) := q2
        rw [decide_eq_false q22]
        refine W_cond_f rfl ?_
        refine W_skip ?_
        refine W_seq ?_
        refine W_region ?_
        refine Wl_v (r_mv (v := .slice a39 (6 + 4) c39) rfl) ?_
        refine Wl_v (r_as (v := .slice a39 (6 + 4) c39) rfl) ?_
        refine Wl_v (r_as (v := .int .i64 0) rfl) ?_
        refine Wl_nil ?_
        refine W_ret ?_
        refine ret_end (v := .tuple #[.slice a39 (6 + 4) c39, .int .i64 0]) rfl (res2 Try.results18 rfl rfl) ?_
        have hen : henc wz sz dn sm = ([80, 77, 84, 30] ++ [4, ((hb wz : Nat) : Int)]) ++ word dn := by unfold henc hbits; simp [q1, q2, q14, q20, q21, q22]
        rw [← hen] at hO39
        exact ⟨_, rfl, a39, 6 + 4, c39, rfl, (hO39.weak (by intro g hg; have h3 : ((w38.heap.size ≤ g) ∧ g < w39.heap.size) := hg; show w.heap.size ≤ g; omega)), (ilen hO39.sl), HU⟩
      · rw [decide_eq_false q20]
        refine W_cond_f rfl ?_
        refine W_skip ?_
        refine W_seq ?_
        refine W_region ?_
        refine Wl_lit (pv := [(0, .int .u8 80), (1, .int .u8 77), (2, .int .u8 84), (3, .int .u8 30)]) (cs := [.int .u8 80, .int .u8 77, .int .u8 84, .int .u8 30]) Try.underlying35 Try.sizeOf5 Try.zeroValue5 (by decide) (by decide) (by simp only [List.map_toArray, List.map_cons, List.map_nil] <;> rfl) (by kernel_rfl) rfl (by decide) ?_
        intro B40 w40 hB40 hU40 hzz40 hs40
        have hzw40 := hU40.size
        replace HU := HU.trans0 hU40
        replace hb1 := hb1.upd0 hU40
        replace hs40 : Own w40 (Is B40) 5 1 (.slice (some ⟨B40, 0, none⟩) 4 4) 4 (ints .u8 [80, 77, 84, 30]) := hs40
        refine Wl_cvtsl Try.underlying35 Try.underlying5 rfl hs40 ?_
        intro w41 hU41 hzz41 hT41
        clear hs40
        have hzw41 := hU41.size
        replace HU := HU.trans1 hU41 (by show (False) ∨ w.heap.size ≤ B40; omega)
        replace hb1 := hb1.upd1 hU41 (by omega)
        refine Wl_v (r_mv (v := .int .u8 0) rfl) ?_
        refine Wl_v (r_mv (v := .int .u8 ((hb wz : Nat) : Int)) rfl) ?_
        refine Wl_lit (pv := [(0, .int .u8 0), (1, .int .u8 ((hb wz : Nat) : Int))]) (cs := [.int .u8 0, .int .u8 ((hb wz : Nat) : Int)]) Try.underlying35 Try.sizeOf5 Try.zeroValue5 (by decide) (by decide) (by simp only [List.map_toArray, List.map_cons, List.map_nil] <;> rfl) (by kernel_rfl) rfl (by decide) ?_
        intro B42 w42 hB42 hU42 hzz42 hs42
        have hzw42 := hU42.size
        replace HU := HU.trans0 hU42
        replace hb1 := hb1.upd0 hU42
        replace hT41 := hT41.upd0 hU42
        replace hs42 : Own w42 (Is B42) 5 1 (.slice (some ⟨B42, 0, none⟩) 2 2) 2 (ints .u8 [0, ((hb wz : Nat) : Int)]) := hs42
        refine Wl_appg (xs := [80, 77, 84, 30]) (ys := [0, ((hb wz : Nat) : Int)]) (zs := [80, 77, 84, 30] ++ [0, ((hb wz : Nat) : Int)]) (k' := .u8) (tot := 6) rfl Try.underlying35 (ti := Try.t5) (z := .int .u8 0) (sz := 1) (by' := 1) rfl rfl rfl rfl rfl rfl hT41 rfl hs42.sl (by omega) (by omega) (by omega) (by omega) (by simp only [maxLen]; omega) (by omega) ?_
        intro a43 c43 w43 hU43 hzz43 hO43
        have hzw43 := hU43.size
        replace HU := HU.trans0 hU43
        replace hb1 := hb1.upd0 hU43
        replace hT41 := hT41.upd0 hU43
        replace hs42 := hs42.upd0 hU43
        replace hO43 := hO43.tight
        have hl_hO43 := ilen hO43.sl
        have hc_hO43 := hO43.sl.cap.1
        refine Wl_v (r_as (v := .slice a43 6 c43) rfl) ?_
        refine Wl_nil ?_
        refine W_seq ?_
        refine W_seq ?_
        refine W_region ?_
        refine Wl_v (r_fld Try.underlying34 rfl Try.sizeOf32 rfl rfl) ?_
        refine Wl_load (v := .int .u32 dn) Try.isAgg32 rfl hb1 rfl ?_
        refine Wl_v (r_ne rfl rfl) ?_
        refine Wl_nil ?_
        have q23 : ¬ (dn ≠ 0) := q20
        rw [decide_eq_false q23]
        refine W_cond_f rfl ?_
        refine W_skip ?_
        refine W_seq ?_
        refine W_seq ?_
        refine W_region ?_
        refine Wl_v (r_fld Try.underlying34 rfl Try.sizeOf3 rfl rfl) ?_
        refine Wl_load (v := .int .i64 sz) Try.isAgg3 rfl hb1 rfl ?_
        refine Wl_v (r_ge rfl rfl) ?_
        refine Wl_nil ?_
        have q24 : ¬ (0 ≤ sz) := q2
        rw [decide_eq_false q24]
        refine W_cond_f rfl ?_
        refine W_skip ?_
        refine W_seq ?_
        refine W_region ?_
        refine Wl_v (r_mv (v := .slice a43 6 c43) rfl) ?_
        refine Wl_v (r_as (v := .slice a43 6 c43) rfl) ?_
        refine Wl_v (r_as (v := .int .i64 0) rfl) ?_
        refine Wl_nil ?_
        refine W_ret ?_
        refine ret_end (v := .tuple #[.slice a43 6 c43, .int .i64 0]) rfl (res2 Try.results18 rfl rfl) ?_
        have hen : henc wz sz dn sm = [80, 77, 84, 30] ++ [0, ((hb wz : Nat) : Int)] := by unfold henc hbits; simp [q1, q2, q14, Classical.not_not.1 q20, Classical.not_not.1 q23, q24]
        rw [← hen] at hO43
        exact ⟨_, rfl, a43, 6, c43, rfl, (hO43.weak (by intro g hg; have h3 : ((g = w42.heap.size) ∧ g < w43.heap.size) := hg; show w.heap.size ≤ g; omega)), (ilen hO43.sl), HU⟩

set_option maxRecDepth 100000 in
theorem put_no {wz sz dn : Int} {sm : Bool} (w : World) (rwz : -9223372036854775808 ≤ wz ∧ wz ≤ 9223372036854775807) (rsz : -9223372036854775808 ≤ sz ∧ sz ≤ 9223372036854775807) (rdn : 0 ≤ dn ∧ dn < 4294967296) (hv : ¬ Hv wz sz) :
    Calls Try.prog 18 #[.agg #[.int .i64 wz, .int .i64 sz, .int .u32 dn, .bool (decide (sm = true))]] w (Ret fun v w' => v = .tuple #[.slice none 0 0, .int .i64 2] ∧ Upd No w w') := by
  have HU : Upd (fun b => False) w w := Upd.refl _ _
  refine calls_of_W Try.func18 rfl Try.ntmps18 (by simp) ?_
  refine W_seq ?_
  refine W_region ?_
  refine Wl_box (v := .agg #[.int .i64 wz, .int .i64 sz, .int .u32 dn, .bool (decide (sm = true))]) (cs := [.int .i64 wz, .int .i64 sz, .int .u32 dn, .bool (decide (sm = true))]) rfl rfl ?_
  intro B1 w1 hB1 hU1 hzz1 hb1
  have hzw1 := hU1.size
  replace HU := HU.trans0 hU1
  refine Wl_v (r_as (v := .slice none 0 0) rfl) ?_
  refine Wl_v (r_as (v := .int .i64 0) rfl) ?_
  refine Wl_nil ?_
  refine W_seq ?_
  refine W_seq ?_
  refine W_region ?_
  refine Wl_v (r_loada (b := B1) (off := 0) (cs := [.int .i64 wz, .int .i64 sz, .int .u32 dn, .bool (decide (sm = true))]) Try.isAgg34 Try.sizeOf34 rfl rfl (fun j hj => by rw [hb1.cell]; match j, hj with | 0, _ => rfl | 1, _ => rfl | 2, _ => rfl | 3, _ => rfl)) ?_
  refine Wl_call (r_call1 rfl Try.call20 rfl) (valid_spec _ (by omega) (by omega) (by omega)) ?_
  rintro v w2 ⟨rfl, hU2⟩
  have hzw2 := hU2.size
  replace HU := HU.trans0 hU2
  replace hb1 := hb1.upd0 hU2
  refine Wl_v (r_not rfl) ?_
  refine Wl_nil ?_
  have q1 : ¬ (Hv wz sz) := hv
  rw [decide_eq_false q1]
  simp only [Bool.not_true, Bool.not_false]
  refine W_cond_t rfl ?_
  refine W_seq ?_
  refine W_region ?_
  refine Wl_v (r_as (v := .slice none 0 0) rfl) ?_
  refine Wl_v (r_as (v := .int .i64 2) rfl) ?_
  refine Wl_nil ?_
  refine W_ret ?_
  refine ret_end (v := .tuple #[.slice none 0 0, .int .i64 2]) rfl (res2 Try.results18 rfl rfl) ?_
  exact ⟨_, rfl, rfl, HU⟩

set_option maxRecDepth 100000 in
theorem rbytes38 {wz sz dn : Int} {sm : Bool} (w : World) (rwz : -9223372036854775808 ≤ wz ∧ wz ≤ 9223372036854775807) (rsz : -9223372036854775808 ≤ sz ∧ sz ≤ 9223372036854775807) (rdn : 0 ≤ dn ∧ dn < 4294967296) (hv : Hv wz sz) :
    Calls Try.prog 22 #[.agg #[.int .i64 wz, .int .i64 sz, .int .u32 dn, .bool (decide (sm = true))]] w (Ret fun v w' => ∃ (a' : Option Addr) (m' : Nat) (c' : Nat), v = .slice a' m' c' ∧ Own w' (fun g => w.heap.size ≤ g) 5 1 (.slice a' m' c') m' (ints .u8 (henc wz sz dn sm)) ∧ (henc wz sz dn sm).length = m' ∧ Upd No w w') := by
  have HU : Upd (fun b => False) w w := Upd.refl _ _
  have hw0 := hv.low
  have hw1 := hv.2.1
  have hs1 := hv.2.2.1
  have hle := hb_le hv.2.1
  have hvl := vi_len sz
  refine calls_of_W Try.func22 rfl Try.ntmps22 (by simp) ?_
  refine W_seq ?_
  refine W_region ?_
  refine Wl_box (v := .agg #[.int .i64 wz, .int .i64 sz, .int .u32 dn, .bool (decide (sm = true))]) (cs := [.int .i64 wz, .int .i64 sz, .int .u32 dn, .bool (decide (sm = true))]) rfl rfl ?_
  intro B1 w1 hB1 hU1 hzz1 hb1
  have hzw1 := hU1.size
  replace HU := HU.trans0 hU1
  refine Wl_v (r_as (v := .slice none 0 0) rfl) ?_
  refine Wl_nil ?_
  refine W_seq ?_
  refine W_region ?_
  refine Wl_v (r_as (v := .int .u8 0) rfl) ?_
  refine Wl_nil ?_
  refine W_seq ?_
  refine W_seq ?_
  refine W_region ?_
  refine Wl_v (r_fld Try.underlying34 rfl Try.sizeOf3 rfl rfl) ?_
  refine Wl_load (v := .int .i64 sz) Try.isAgg3 rfl hb1 rfl ?_
  refine Wl_v (r_ge rfl rfl) ?_
  refine Wl_nil ?_
  by_cases q1 : 0 ≤ sz
  · rw [decide_eq_true q1]
    refine W_cond_t rfl ?_
    refine W_region ?_
    refine Wl_v (r_mv (v := .int .u8 0) rfl) ?_
    refine Wl_v (r_add rfl rfl (show _ = (1 : Int) from by decide)) ?_
    refine Wl_v (r_as (v := .int .u8 1) rfl) ?_
    refine Wl_nil ?_
    refine W_seq ?_
    refine W_seq ?_
    refine W_region ?_
    refine Wl_v (r_fld Try.underlying34 rfl Try.sizeOf4 rfl rfl) ?_
    refine Wl_load (v := .bool (decide (sm = true))) Try.isAgg4 rfl hb1 rfl ?_
    refine Wl_nil ?_
    by_cases q2 : sm = true
    · rw [decide_eq_true q2]
      refine W_cond_t rfl ?_
      refine W_region ?_
      refine Wl_v (r_mv (v := .int .u8 1) rfl) ?_
      refine Wl_v (r_add rfl rfl (show _ = (3 : Int) from by decide)) ?_
      refine Wl_v (r_as (v := .int .u8 3) rfl) ?_
      refine Wl_nil ?_
      refine W_seq ?_
      refine W_seq ?_
      refine W_region ?_
      refine Wl_v (r_fld Try.underlying34 rfl Try.sizeOf32 rfl rfl) ?_
      refine Wl_load (v := .int .u32 dn) Try.isAgg32 rfl hb1 rfl ?_
      refine Wl_v (r_ne rfl rfl) ?_
      refine Wl_nil ?_
      by_cases q3 : dn ≠ 0
      · rw [decide_eq_true q3]
        refine W_cond_t rfl ?_
        refine W_region ?_
        refine Wl_v (r_mv (v := .int .u8 3) rfl) ?_
        refine Wl_v (r_add rfl rfl (show _ = (7 : Int) from by decide)) ?_
        refine Wl_v (r_as (v := .int .u8 7) rfl) ?_
        refine Wl_nil ?_
        refine W_seq ?_
        refine W_region ?_
        refine Wl_v (r_mv (v := .int .u8 7) rfl) ?_
        refine Wl_v (r_fld Try.underlying34 rfl Try.sizeOf3 rfl rfl) ?_
        refine Wl_load (v := .int .i64 wz) Try.isAgg3 rfl hb1 rfl ?_
        refine Wl_call (r_call1 rfl Try.call17 rfl) (rbyte _ (by omega)) ?_
        rintro v w2 ⟨rfl, hU2⟩
        have hzw2 := hU2.size
        replace HU := HU.trans0 hU2
        replace hb1 := hb1.upd0 hU2
        refine Wl_lit (pv := [(0, .int .u8 80), (1, .int .u8 77), (2, .int .u8 84), (3, .int .u8 30), (4, .int .u8 7), (5, .int .u8 ((hb wz : Nat) : Int))]) (cs := [.int .u8 80, .int .u8 77, .int .u8 84, .int .u8 30, .int .u8 7, .int .u8 ((hb wz : Nat) : Int)]) Try.underlying35 Try.sizeOf5 Try.zeroValue5 (by decide) (by decide) (by simp only [List.map_toArray, List.map_cons, List.map_nil] <;> rfl) (by kernel_rfl) rfl (by decide) ?_
        intro B3 w3 hB3 hU3 hzz3 hs3
        have hzw3 := hU3.size
        replace HU := HU.trans0 hU3
        replace hb1 := hb1.upd0 hU3
        replace hs3 : Own w3 (Is B3) 5 1 (.slice (some ⟨B3, 0, none⟩) 6 6) 6 (ints .u8 [80, 77, 84, 30, 7, ((hb wz : Nat) : Int)]) := hs3
        refine Wl_v (r_as (v := .slice (some ⟨B3, 0, none⟩) 6 6) rfl) ?_
        refine Wl_nil ?_
        refine W_seq ?_
        refine W_seq ?_
        refine W_region ?_
        refine Wl_v (r_fld Try.underlying34 rfl Try.sizeOf32 rfl rfl) ?_
        refine Wl_load (v := .int .u32 dn) Try.isAgg32 rfl hb1 rfl ?_
        refine Wl_v (r_ne rfl rfl) ?_
        refine Wl_nil ?_
        have q4 : dn ≠ 0 := q3
        rw [decide_eq_true q4]
        refine W_cond_t rfl ?_
        refine W_region ?_
        refine Wl_v (r_mv (v := .slice (some ⟨B3, 0, none⟩) 6 6) rfl) ?_
        refine Wl_v (r_fld Try.underlying34 rfl Try.sizeOf32 rfl rfl) ?_
        refine Wl_load (v := .int .u32 dn) Try.isAgg32 rfl hb1 rfl ?_
        refine Wl_call (r_call1 rfl Try.call37 rfl) (word_spec _ (by omega) (by omega)) ?_
        rintro v w4 ⟨a4, c4, rfl, hO4, hU4⟩
        have hzw4 := hU4.size
        replace HU := HU.trans0 hU4
        replace hb1 := hb1.upd0 hU4
        replace hs3 := hs3.upd0 hU4
        replace hO4 := hO4.tight
        have hl_hO4 := ilen hO4.sl
        have hc_hO4 := hO4.sl.cap.1
        refine Wl_appendi (xs := [80, 77, 84, 30, 7, ((hb wz : Nat) : Int)]) (ys := word dn) (zs := [80, 77, 84, 30, 7, ((hb wz : Nat) : Int)] ++ (word dn)) (k' := .u8) (tot := 6 + 4) (by first | rfl | simp) Try.underlying35 (ti := Try.t5) (z := .int .u8 0) (sz := 1) (by' := 1) rfl rfl rfl rfl rfl (by decide) rfl hs3 rfl hO4.sl  (by omega) (by simp only [maxLen]; omega) (by omega) ?_
        intro a5 c5 w5 hU5 hzz5 hO5
        clear hs3
        have hzw5 := hU5.size
        replace HU := HU.trans hU5 (by intro x hx; have hx2 : x = B3 := hx; show (False) ∨ w.heap.size ≤ x; omega)
        replace hb1 := hb1.upd hU5 (by intro hx; have hx2 : B1 = B3 := hx; omega)
        replace hO4 := hO4.upd hU5 (by intro x h1 h2; have h3 : ((w3.heap.size ≤ x) ∧ x < w4.heap.size) := h1; have h4 : x = B3 := h2; omega)
        replace hO5 := hO5.tight
        have hl_hO5 := ilen hO5.sl
        have hc_hO5 := hO5.sl.cap.1
        refine Wl_v (r_as (v := .slice a5 (6 + 4) c5) rfl) ?_
        refine Wl_nil ?_
        refine W_seq ?_
        refine W_seq ?_
        refine W_region ?_
        refine Wl_v (r_fld Try.underlying34 rfl Try.sizeOf3 rfl rfl) ?_
        refine Wl_load (v := .int .i64 sz) Try.isAgg3 rfl hb1 rfl ?_
        refine Wl_v (r_ge rfl rfl) ?_
        refine Wl_nil ?_
        have q5 : 0 ≤ sz := q1
        rw [decide_eq_true q5]
        refine W_cond_t rfl ?_
        refine W_region ?_
        refine Wl_v (r_mv (v := .slice a5 (6 + 4) c5) rfl) ?_
        refine Wl_v (r_fld Try.underlying34 rfl Try.sizeOf3 rfl rfl) ?_
        refine Wl_load (v := .int .i64 sz) Try.isAgg3 rfl hb1 rfl ?_
        refine Wl_v (r_cvt Try.underlying3 Try.underlying68 rfl (wu64 (by omega) (by omega))) ?_
        refine Wl_call (r_call1 rfl Try.call38 rfl) (rvarint_spec _ (by omega) (by omega)) ?_
        rintro v w6 ⟨a6, c6, rfl, hO6, hU6⟩
        have hzw6 := hU6.size
        replace HU := HU.trans0 hU6
        replace hb1 := hb1.upd0 hU6
        replace hO4 := hO4.upd0 hU6
        replace hO5 := hO5.upd0 hU6
        replace hO6 := hO6.tight
        have hl_hO6 := ilen hO6.sl
        have hc_hO6 := hO6.sl.cap.1
        refine Wl_appendi (xs := [80, 77, 84, 30, 7, ((hb wz : Nat) : Int)] ++ (word dn)) (ys := vi sz) (zs := [80, 77, 84, 30, 7, ((hb wz : Nat) : Int)] ++ (word dn) ++ (vi sz)) (k' := .u8) (tot := 6 + 4 + ((vi sz).length)) (by first | rfl | simp) Try.underlying35 (ti := Try.t5) (z := .int .u8 0) (sz := 1) (by' := 1) rfl rfl rfl rfl rfl (by decide) rfl hO5 rfl hO6.sl  (by omega) (by simp only [maxLen]; omega) (by omega) ?_
        intro a7 c7 w7 hU7 hzz7 hO7
        clear hO5
        have hzw7 := hU7.size
        replace HU := HU.trans hU7 (by intro x hx; have hx2 : ((((x = B3) ∨ x = w4.heap.size)) ∧ x < w5.heap.size) := hx; show (False) ∨ w.heap.size ≤ x; omega)
        replace hb1 := hb1.upd hU7 (by intro hx; have hx2 : ((((B1 = B3) ∨ B1 = w4.heap.size)) ∧ B1 < w5.heap.size) := hx; omega)
        replace hO4 := hO4.upd hU7 (by intro x h1 h2; have h3 : ((w3.heap.size ≤ x) ∧ x < w4.heap.size) := h1; have h4 : ((((x = B3) ∨ x = w4.heap.size)) ∧ x < w5.heap.size) := h2; omega)
        replace hO6 := hO6.upd hU7 (by intro x h1 h2; have h3 : ((w5.heap.size ≤ x) ∧ x < w6.heap.size) := h1; have h4 : ((((x = B3) ∨ x = w4.heap.size)) ∧ x < w5.heap.size) := h2; omega)
        replace hO7 := hO7.tight
        have hl_hO7 := ilen hO7.sl
        have hc_hO7 := hO7.sl.cap.1
        refine Wl_v (r_as (v := .slice a7 (6 + 4 + ((vi sz).length)) c7) rfl) ?_
        refine Wl_nil ?_
        refine W_seq ?_
        refine W_region ?_
        refine Wl_v (r_mv (v := .slice a7 (6 + 4 + ((vi sz).length)) c7) rfl) ?_
        refine Wl_v (r_as (v := .slice a7 (6 + 4 + ((vi sz).length)) c7) rfl) ?_
        refine Wl_nil ?_
        refine W_ret ?_
        refine ret_end (v := .slice a7 (6 + 4 + ((vi sz).length)) c7) rfl (res1 Try.results22 rfl) ?_
        have hen : henc wz sz dn sm = [80, 77, 84, 30, 7, ((hb wz : Nat) : Int)] ++ (word dn) ++ (vi sz) := by unfold henc hbits; simp [q1, q2, q3, q4, q5]
        rw [← hen] at hO7
        exact ⟨_, rfl, a7, 6 + 4 + ((vi sz).length), c7, rfl, (hO7.weak (by intro g hg; have h3 : ((((((((g = B3) ∨ g = w4.heap.size)) ∧ g < w5.heap.size)) ∨ g = w6.heap.size)) ∧ g < w7.heap.size) := hg; show w.heap.size ≤ g; omega)), (ilen hO7.sl), HU⟩
      · rw [decide_eq_false q3]
        refine W_cond_f rfl ?_
        refine W_skip ?_
        refine W_seq ?_
        refine W_region ?_
        refine Wl_v (r_mv (v := .int .u8 3) rfl) ?_
        refine Wl_v (r_fld Try.underlying34 rfl Try.sizeOf3 rfl rfl) ?_
        refine Wl_load (v := .int .i64 wz) Try.isAgg3 rfl hb1 rfl ?_
        refine Wl_call (r_call1 rfl Try.call17 rfl) (rbyte _ (by omega)) ?_
        rintro v w8 ⟨rfl, hU8⟩
        have hzw8 := hU8.size
        replace HU := HU.trans0 hU8
        replace hb1 := hb1.upd0 hU8
        refine Wl_lit (pv := [(0, .int .u8 80), (1, .int .u8 77), (2, .int .u8 84), (3, .int .u8 30), (4, .int .u8 3), (5, .int .u8 ((hb wz : Nat) : Int))]) (cs := [.int .u8 80, .int .u8 77, .int .u8 84, .int .u8 30, .int .u8 3, .int .u8 ((hb wz : Nat) : Int)]) Try.underlying35 Try.sizeOf5 Try.zeroValue5 (by decide) (by decide) (by simp only [List.map_toArray, List.map_cons, List.map_nil] <;> rfl) (by kernel_rfl) rfl (by decide) ?_
        intro B9 w9 hB9 hU9 hzz9 hs9
        have hzw9 := hU9.size
        replace HU := HU.trans0 hU9
        replace hb1 := hb1.upd0 hU9
        replace hs9 : Own w9 (Is B9) 5 1 (.slice (some ⟨B9, 0, none⟩) 6 6) 6 (ints .u8 [80, 77, 84, 30, 3, ((hb wz : Nat) : Int)]) := hs9
        refine Wl_v (r_as (v := .slice (some ⟨B9, 0, none⟩) 6 6) rfl) ?_
        refine Wl_nil ?_
        refine W_seq ?_
        refine W_seq ?_
        refine W_region ?_
        refine Wl_v (r_fld Try.underlying34 rfl Try.sizeOf32 rfl rfl) ?_
        refine Wl_load (v := .int .u32 dn) Try.isAgg32 rfl hb1 rfl ?_
        refine Wl_v (r_ne rfl rfl) ?_
        refine Wl_nil ?_
        have q6 : ¬ (dn ≠ 0) := q3
        rw [decide_eq_false q6]
        refine W_cond_f rfl ?_
        refine W_skip ?_
        refine W_seq ?_
        refine W_seq ?_
        refine W_region ?_
        refine Wl_v (r_fld Try.underlying34 rfl Try.sizeOf3 rfl rfl) ?_
        refine Wl_load (v := .int .i64 sz) Try.isAgg3 rfl hb1 rfl ?_
        refine Wl_v (r_ge rfl rfl) ?_
        refine Wl_nil ?_
        have q7 : 0 ≤ sz := q1
        rw [decide_eq_true q7]
        refine W_cond_t rfl ?_
        refine W_region ?_
        refine Wl_v (r_mv (v := .slice (some ⟨B9, 0, none⟩) 6 6) rfl) ?_
        refine Wl_v (r_fld Try.underlying34 rfl Try.sizeOf3 rfl rfl) ?_
        refine Wl_load (v := .int .i64 sz) Try.isAgg3 rfl hb1 rfl ?_
        refine Wl_v (r_cvt Try.underlying3 Try.underlying68 rfl (wu64 (by omega) (by omega))) ?_
        refine Wl_call (r_call1 rfl Try.call38 rfl) (rvarint_spec _ (by omega) (by omega)) ?_
        rintro v w10 ⟨a10, c10, rfl, hO10, hU10⟩
        have hzw10 := hU10.size
        replace HU := HU.trans0 hU10
        replace hb1 := hb1.upd0 hU10
        replace hs9 := hs9.upd0 hU10
        replace hO10 := hO10.tight
        have hl_hO10 := ilen hO10.sl
        have hc_hO10 := hO10.sl.cap.1
        refine Wl_appendi (xs := [80, 77, 84, 30, 3, ((hb wz : Nat) : Int)]) (ys := vi sz) (zs := [80, 77, 84, 30, 3, ((hb wz : Nat) : Int)] ++ (vi sz)) (k' := .u8) (tot := 6 + ((vi sz).length)) (by first | rfl | simp) Try.underlying35 (ti := Try.t5) (z := .int .u8 0) (sz := 1) (by' := 1) rfl rfl rfl rfl rfl (by decide) rfl hs9 rfl hO10.sl  (by omega) (by simp only [maxLen]; omega) (by omega) ?_
        intro a11 c11 w11 hU11 hzz11 hO11
        clear hs9
        have hzw11 := hU11.size
        replace HU := HU.trans hU11 (by intro x hx; have hx2 : x = B9 := hx; show (False) ∨ w.heap.size ≤ x; omega)
        replace hb1 := hb1.upd hU11 (by intro hx; have hx2 : B1 = B9 := hx; omega)
        replace hO10 := hO10.upd hU11 (by intro x h1 h2; have h3 : ((w9.heap.size ≤ x) ∧ x < w10.heap.size) := h1; have h4 : x = B9 := h2; omega)
        replace hO11 := hO11.tight
        have hl_hO11 := ilen hO11.sl
        have hc_hO11 := hO11.sl.cap.1
        refine Wl_v (r_as (v := .slice a11 (6 + ((vi sz).length)) c11) rfl) ?_
        refine Wl_nil ?_
        refine W_seq ?_
        refine W_region ?_
        refine Wl_v (r_mv (v := .slice a11 (6 + ((vi sz).length)) c11) rfl) ?_
        refine Wl_v (r_as (v := .slice a11 (6 + ((vi sz).length)) c11) rfl) ?_
        refine Wl_nil ?_
        refine W_ret ?_
        refine ret_end (v := .slice a11 (6 + ((vi sz).length)) c11) rfl (res1 Try.results22 rfl) ?_
        have hen : henc wz sz dn sm = [80, 77, 84, 30, 3, ((hb wz : Nat) : Int)] ++ (vi sz) := by unfold henc hbits; simp [q1, q2, Classical.not_not.1 q3, Classical.not_not.1 q6, q7]
        rw [← hen] at hO11
        exact ⟨_, rfl, a11, 6 + ((vi sz).length), c11, rfl, (hO11.weak (by intro g hg; have h3 : ((((g = B9) ∨ g = w10.heap.size)) ∧ g < w11.heap.size) := hg; show w.heap.size ≤ g; omega)), (ilen hO11.sl), HU⟩
    · rw [decide_eq_false q2]
      refine W_cond_f rfl ?_
      refine W_skip ?_
      refine W_seq ?_
      refine W_seq ?_
      refine W_region ?_
      refine Wl_v (r_fld Try.underlying34 rfl Try.sizeOf32 rfl rfl) ?_
      refine Wl_load (v := .int .u32 dn) Try.isAgg32 rfl hb1 rfl ?_
      refine Wl_v (r_ne rfl rfl) ?_
      refine Wl_nil ?_
      by_cases q8 : dn ≠ 0
      · rw [decide_eq_true q8]
        refine W_cond_t rfl ?_
        refine W_region ?_
        refine Wl_v (r_mv (v := .int .u8 1) rfl) ?_
        refine Wl_v (r_add rfl rfl (show _ = (5 : Int) from by decide)) ?_
        refine Wl_v (r_as (v := .int .u8 5) rfl) ?_
        refine Wl_nil ?_
        refine W_seq ?_
        refine W_region ?_
        refine Wl_v (r_mv (v := .int .u8 5) rfl) ?_
        refine Wl_v (r_fld Try.underlying34 rfl Try.sizeOf3 rfl rfl) ?_
        refine Wl_load (v := .int .i64 wz) Try.isAgg3 rfl hb1 rfl ?_
        refine Wl_call (r_call1 rfl Try.call17 rfl) (rbyte _ (by omega)) ?_
        rintro v w12 ⟨rfl, hU12⟩
        have hzw12 := hU12.size
        replace HU := HU.trans0 hU12
        replace hb1 := hb1.upd0 hU12
        refine Wl_lit (pv := [(0, .int .u8 80), (1, .int .u8 77), (2, .int .u8 84), (3, .int .u8 30), (4, .int .u8 5), (5, .int .u8 ((hb wz : Nat) : Int))]) (cs := [.int .u8 80, .int .u8 77, .int .u8 84, .int .u8 30, .int .u8 5, .int .u8 ((hb wz : Nat) : Int)]) Try.underlying35 Try.sizeOf5 Try.zeroValue5 (by decide) (by decide) (by simp only [List.map_toArray, List.map_cons, List.map_nil] <;> rfl) (by kernel_rfl) rfl (by decide) ?_
        intro B13 w13 hB13 hU13 hzz13 hs13
        have hzw13 := hU13.size
        replace HU := HU.trans0 hU13
        replace hb1 := hb1.upd0 hU13
        replace hs13 : Own w13 (Is B13) 5 1 (.slice (some ⟨B13, 0, none⟩) 6 6) 6 (ints .u8 [80, 77, 84, 30, 5, ((hb wz : Nat) : Int)]) := hs13
        refine Wl_v (r_as (v := .slice (some ⟨B13, 0, none⟩) 6 6) rfl) ?_
        refine Wl_nil ?_
        refine W_seq ?_
        refine W_seq ?_
        refine W_region ?_
        refine Wl_v (r_fld Try.underlying34 rfl Try.sizeOf32 rfl rfl) ?_
        refine Wl_load (v := .int .u32 dn) Try.isAgg32 rfl hb1 rfl ?_
        refine Wl_v (r_ne rfl rfl) ?_
        refine Wl_nil ?_
        have q9 : dn ≠ 0 := q8
        rw [decide_eq_true q9]
        refine W_cond_t rfl ?_
        refine W_region ?_
        refine Wl_v (r_mv (v := .slice (some ⟨B13, 0, none⟩) 6 6) rfl) ?_
        refine Wl_v (r_fld Try.underlying34 rfl Try.sizeOf32 rfl rfl) ?_
        refine Wl_load (v := .int .u32 dn) Try.isAgg32 rfl hb1 rfl ?_
        refine Wl_call (r_call1 rfl Try.call37 rfl) (word_spec _ (by omega) (by omega)) ?_
        rintro v w14 ⟨a14, c14, rfl, hO14, hU14⟩
        have hzw14 := hU14.size
        replace HU := HU.trans0 hU14
        replace hb1 := hb1.upd0 hU14
        replace hs13 := hs13.upd0 hU14
        replace hO14 := hO14.tight
        have hl_hO14 := ilen hO14.sl
        have hc_hO14 := hO14.sl.cap.1
        refine Wl_appendi (xs := [80, 77, 84, 30, 5, ((hb wz : Nat) : Int)]) (ys := word dn) (zs := [80, 77, 84, 30, 5, ((hb wz : Nat) : Int)] ++ (word dn)) (k' := .u8) (tot := 6 + 4) (by first | rfl | simp) Try.underlying35 (ti := Try.t5) (z := .int .u8 0) (sz := 1) (by' := 1) rfl rfl rfl rfl rfl (by decide) rfl hs13 rfl hO14.sl  (by omega) (by simp only [maxLen]; omega) (by omega) ?_
        intro a15 c15 w15 hU15 hzz15 hO15
        clear hs13
        have hzw15 := hU15.size
        replace HU := HU.trans hU15 (by intro x hx; have hx2 : x = B13 := hx; show (False) ∨ w.heap.size ≤ x; omega)
        replace hb1 := hb1.upd hU15 (by intro hx; have hx2 : B1 = B13 := hx; omega)
        replace hO14 := hO14.upd hU15 (by intro x h1 h2; have h3 : ((w13.heap.size ≤ x) ∧ x < w14.heap.size) := h1; have h4 : x = B13 := h2; omega)
        replace hO15 := hO15.tight
        have hl_hO15 := ilen hO15.sl
        have hc_hO15 := hO15.sl.cap.1
        refine Wl_v (r_as (v := .slice a15 (6 + 4) c15) rfl) ?_
        refine Wl_nil ?_
        refine W_seq ?_
        refine W_seq ?_
        refine W_region ?_
        refine Wl_v (r_fld Try.underlying34 rfl Try.sizeOf3 rfl rfl) ?_
        refine Wl_load (v := .int .i64 sz) Try.isAgg3 rfl hb1 rfl ?_
        refine Wl_v (r_ge rfl rfl) ?_
        refine Wl_nil ?_
        have q10 : 0 ≤ sz := q1
        rw [decide_eq_true q10]
        refine W_cond_t rfl ?_
        refine W_region ?_
        refine Wl_v (r_mv (v := .slice a15 (6 + 4) c15) rfl) ?_
        refine Wl_v (r_fld Try.underlying34 rfl Try.sizeOf3 rfl rfl) ?_
        refine Wl_load (v := .int .i64 sz) Try.isAgg3 rfl hb1 rfl ?_
        refine Wl_v (r_cvt Try.underlying3 Try.underlying68 rfl (wu64 (by omega) (by omega))) ?_
        refine Wl_call (r_call1 rfl Try.call38 rfl) (rvarint_spec _ (by omega) (by omega)) ?_
        rintro v w16 ⟨a16, c16, rfl, hO16, hU16⟩
        have hzw16 := hU16.size
        replace HU := HU.trans0 hU16
        replace hb1 := hb1.upd0 hU16
        replace hO14 := hO14.upd0 hU16
        replace hO15 := hO15.upd0 hU16
        replace hO16 := hO16.tight
        have hl_hO16 := ilen hO16.sl
        have hc_hO16 := hO16.sl.cap.1
        refine Wl_appendi (xs := [80, 77, 84, 30, 5, ((hb wz : Nat) : Int)] ++ (word dn)) (ys := vi sz) (zs := [80, 77, 84, 30, 5, ((hb wz : Nat) : Int)] ++ (word dn) ++ (vi sz)) (k' := .u8) (tot := 6 + 4 + ((vi sz).length)) (by first | rfl | simp) Try.underlying35 (ti := Try.t5) (z := .int .u8 0) (sz := 1) (by' := 1) rfl rfl rfl rfl rfl (by decide) rfl hO15 rfl hO16.sl  (by omega) (by simp only [maxLen]; omega) (by omega) ?_
        intro a17 c17 w17 hU17 hzz17 hO17
        clear hO15
        have hzw17 := hU17.size
        replace HU := HU.trans hU17 (by intro x hx; have hx2 : ((((x = B13) ∨ x = w14.heap.size)) ∧ x < w15.heap.size) := hx; show (False) ∨ w.heap.size ≤ x; omega)
        replace hb1 := hb1.upd hU17 (by intro hx; have hx2 : ((((B1 = B13) ∨ B1 = w14.heap.size)) ∧ B1 < w15.heap.size) := hx; omega)
        replace hO14 := hO14.upd hU17 (by intro x h1 h2; have h3 : ((w13.heap.size ≤ x) ∧ x < w14.heap.size) := h1; have h4 : ((((x = B13) ∨ x = w14.heap.size)) ∧ x < w15.heap.size) := h2; omega)
        replace hO16 := hO16.upd hU17 (by intro x h1 h2; have h3 : ((w15.heap.size ≤ x) ∧ x < w16.heap.size) := h1; have h4 : ((((x = B13) ∨ x = w14.heap.size)) ∧ x < w15.heap.size) := h2; omega)
        replace hO17 := hO17.tight
        have hl_hO17 := ilen hO17.sl
        have hc_hO17 := hO17.sl.cap.1
        refine Wl_v (r_as (v := .slice a17 (6 + 4 + ((vi sz).length)) c17) rfl) ?_
        refine Wl_nil ?_
        refine W_seq ?_
        refine W_region ?_
        refine Wl_v (r_mv (v := .slice a17 (6 + 4 + ((vi sz).length)) c17) rfl) ?_
        refine Wl_v (r_as (v := .slice a17 (6 + 4 + ((vi sz).length)) c17) rfl) ?_
        refine Wl_nil ?_
        refine W_ret ?_
        refine ret_end (v := .slice a17 (6 + 4 + ((vi sz).length)) c17) rfl (res1 Try.results22 rfl) ?_
        have hen : henc wz sz dn sm = [80, 77, 84, 30, 5, ((hb wz : Nat) : Int)] ++ (word dn) ++ (vi sz) := by unfold henc hbits; simp [q1, q2, q8, q9, q10]
        rw [← hen] at hO17
        exact ⟨_, rfl, a17, 6 + 4 + ((vi sz).length), c17, rfl, (hO17.weak (by intro g hg; have h3 : ((((((((g = B13) ∨ g = w14.heap.size)) ∧ g < w15.heap.size)) ∨ g = w16.heap.size)) ∧ g < w17.heap.size) := hg; show w.heap.size ≤ g; omega)), (ilen hO17.sl), HU⟩
      · rw [decide_eq_false q8]
        refine W_cond_f rfl ?_
        refine W_skip ?_
        refine W_seq ?_
        refine W_region ?_
        refine Wl_v (r_mv (v := .int .u8 1) rfl) ?_
        refine Wl_v (r_fld Try.underlying34 rfl Try.sizeOf3 rfl rfl) ?_
        refine Wl_load (v := .int .i64 wz) Try.isAgg3 rfl hb1 rfl ?_
        refine Wl_call (r_call1 rfl Try.call17 rfl) (rbyte _ (by omega)) ?_
        rintro v w18 ⟨rfl, hU18⟩
        have hzw18 := hU18.size
        replace HU := HU.trans0 hU18
        replace hb1 := hb1.upd0 hU18
        refine Wl_lit (pv := [(0, .int .u8 80), (1, .int .u8 77), (2, .int .u8 84), (3, .int .u8 30), (4, .int .u8 1), (5, .int .u8 ((hb wz : Nat) : Int))]) (cs := [.int .u8 80, .int .u8 77, .int .u8 84, .int .u8 30, .int .u8 1, .int .u8 ((hb wz : Nat) : Int)]) Try.underlying35 Try.sizeOf5 Try.zeroValue5 (by decide) (by decide) (by simp only [List.map_toArray, List.map_cons, List.map_nil] <;> rfl) (by kernel_rfl) rfl (by decide) ?_
        intro B19 w19 hB19 hU19 hzz19 hs19
        have hzw19 := hU19.size
        replace HU := HU.trans0 hU19
        replace hb1 := hb1.upd0 hU19
        replace hs19 : Own w19 (Is B19) 5 1 (.slice (some ⟨B19, 0, none⟩) 6 6) 6 (ints .u8 [80, 77, 84, 30, 1, ((hb wz : Nat) : Int)]) := hs19
        refine Wl_v (r_as (v := .slice (some ⟨B19, 0, none⟩) 6 6) rfl) ?_
        refine Wl_nil ?_
        refine W_seq ?_
        refine W_seq ?_
        refine W_region ?_
        refine Wl_v (r_fld Try.underlying34 rfl Try.sizeOf32 rfl rfl) ?_
        refine Wl_load (v := .int .u32 dn) Try.isAgg32 rfl hb1 rfl ?_
        refine Wl_v (r_ne rfl rfl) ?_
        refine Wl_nil ?_
        have q11 : ¬ (dn ≠ 0) := q8
        rw [decide_eq_false q11]
        refine W_cond_f rfl ?_
        refine W_skip ?_
        refine W_seq ?_
        refine W_seq ?_
        refine W_region ?_
        refine Wl_v (r_fld Try.underlying34 rfl Try.sizeOf3 rfl rfl) ?_
        refine Wl_load (v := .int .i64 sz) Try.isAgg3 rfl hb1 rfl ?_
        refine Wl_v (r_ge rfl rfl) ?_
        refine Wl_nil ?_
        have q12 : 0 ≤ sz := q1
        rw [decide_eq_true q12]
        refine W_cond_t rfl ?_
        refine W_region ?_
        refine Wl_v (r_mv (v := .slice (some ⟨B19, 0, none⟩) 6 6) rfl) ?_
        refine Wl_v (r_fld Try.underlying34 rfl Try.sizeOf3 rfl rfl) ?_
        refine Wl_load (v := .int .i64 sz) Try.isAgg3 rfl hb1 rfl ?_
        refine Wl_v (r_cvt Try.underlying3 Try.underlying68 rfl (wu64 (by omega) (by omega))) ?_
        refine Wl_call (r_call1 rfl Try.call38 rfl) (rvarint_spec _ (by omega) (by omega)) ?_
        rintro v w20 ⟨a20, c20, rfl, hO20, hU20⟩
        have hzw20 := hU20.size
        replace HU := HU.trans0 hU20
        replace hb1 := hb1.upd0 hU20
        replace hs19 := hs19.upd0 hU20
        replace hO20 := hO20.tight
        have hl_hO20 := ilen hO20.sl
        have hc_hO20 := hO20.sl.cap.1
        refine Wl_appendi (xs := [80, 77, 84, 30, 1, ((hb wz : Nat) : Int)]) (ys := vi sz) (zs := [80, 77, 84, 30, 1, ((hb wz : Nat) : Int)] ++ (vi sz)) (k' := .u8) (tot := 6 + ((vi sz).length)) (by first | rfl | simp) Try.underlying35 (ti := Try.t5) (z := .int .u8 0) (sz := 1) (by' := 1) rfl rfl rfl rfl rfl (by decide) rfl hs19 rfl hO20.sl  (by omega) (by simp only [maxLen]; omega) (by omega) ?_
        intro a21 c21 w21 hU21 hzz21 hO21
        clear hs19
        have hzw21 := hU21.size
        replace HU := HU.trans hU21 (by intro x hx; have hx2 : x = B19 := hx; show (False) ∨ w.heap.size ≤ x; omega)
        replace hb1 := hb1.upd hU21 (by intro hx; have hx2 : B1 = B19 := hx; omega)
        replace hO20 := hO20.upd hU21 (by intro x h1 h2; have h3 : ((w19.heap.size ≤ x) ∧ x < w20.heap.size) := h1; have h4 : x = B19 := h2; omega)
        replace hO21 := hO21.tight
        have hl_hO21 := ilen hO21.sl
        have hc_hO21 := hO21.sl.cap.1
        refine Wl_v (r_as (v := .slice a21 (6 + ((vi sz).length)) c21) rfl) ?_
        refine Wl_nil ?_
        refine W_seq ?_
        refine W_region ?_
        refine Wl_v (r_mv (v := .slice a21 (6 + ((vi sz).length)) c21) rfl) ?_
        refine Wl_v (r_as (v := .slice a21 (6 + ((vi sz).length)) c21) rfl) ?_
        refine Wl_nil ?_
        refine W_ret ?_
        refine ret_end (v := .slice a21 (6 + ((vi sz).length)) c21) rfl (res1 Try.results22 rfl) ?_
        have hen : henc wz sz dn sm = [80, 77, 84, 30, 1, ((hb wz : Nat) : Int)] ++ (vi sz) := by unfold henc hbits; simp [q1, q2, Classical.not_not.1 q8, Classical.not_not.1 q11, q12]
        rw [← hen] at hO21
        exact ⟨_, rfl, a21, 6 + ((vi sz).length), c21, rfl, (hO21.weak (by intro g hg; have h3 : ((((g = B19) ∨ g = w20.heap.size)) ∧ g < w21.heap.size) := hg; show w.heap.size ≤ g; omega)), (ilen hO21.sl), HU⟩
  · rw [decide_eq_false q1]
    refine W_cond_f rfl ?_
    refine W_skip ?_
    refine W_seq ?_
    refine W_seq ?_
    refine W_region ?_
    refine Wl_v (r_fld Try.underlying34 rfl Try.sizeOf4 rfl rfl) ?_
    refine Wl_load (v := .bool (decide (sm = true))) Try.isAgg4 rfl hb1 rfl ?_
    refine Wl_nil ?_
    by_cases q13 : sm = true
    · rw [decide_eq_true q13]
      refine W_cond_t rfl ?_
      refine W_region ?_
      refine Wl_v (r_mv (v := .int .u8 0) rfl) ?_
      refine Wl_v (r_add rfl rfl (show _ = (2 : Int) from by decide)) ?_
      refine Wl_v (r_as (v := .int .u8 2) rfl) ?_
      refine Wl_nil ?_
      refine W_seq ?_
      refine W_seq ?_
      refine W_region ?_
      refine Wl_v (r_fld Try.underlying34 rfl Try.sizeOf32 rfl rfl) ?_
      refine Wl_load (v := .int .u32 dn) Try.isAgg32 rfl hb1 rfl ?_
      refine Wl_v (r_ne rfl rfl) ?_
      refine Wl_nil ?_
      by_cases q14 : dn ≠ 0
      · rw [decide_eq_true q14]
        refine W_cond_t rfl ?_
        refine W_region ?_
        refine Wl_v (r_mv (v := .int .u8 2) rfl) ?_
        refine Wl_v (r_add rfl rfl (show _ = (6 : Int) from by decide)) ?_
        refine Wl_v (r_as (v := .int .u8 6) rfl) ?_
        refine Wl_nil ?_
        refine W_seq ?_
        refine W_region ?_
        refine Wl_v (r_mv (v := .int .u8 6) rfl) ?_
        refine Wl_v (r_fld Try.underlying34 rfl Try.sizeOf3 rfl rfl) ?_
        refine Wl_load (v := .int .i64 wz) Try.isAgg3 rfl hb1 rfl ?_
        refine Wl_call (r_call1 rfl Try.call17 rfl) (rbyte _ (by omega)) ?_
        rintro v w22 ⟨rfl, hU22⟩
        have hzw22 := hU22.size
        replace HU := HU.trans0 hU22
        replace hb1 := hb1.upd0 hU22
        refine Wl_lit (pv := [(0, .int .u8 80), (1, .int .u8 77), (2, .int .u8 84), (3, .int .u8 30), (4, .int .u8 6), (5, .int .u8 ((hb wz : Nat) : Int))]) (cs := [.int .u8 80, .int .u8 77, .int .u8 84, .int .u8 30, .int .u8 6, .int .u8 ((hb wz : Nat) : Int)]) Try.underlying35 Try.sizeOf5 Try.zeroValue5 (by decide) (by decide) (by simp only [List.map_toArray, List.map_cons, List.map_nil] <;> rfl) (by kernel_rfl) rfl (by decide) ?_
        intro B23 w23 hB23 hU23 hzz23 hs23
        have hzw23 := hU23.size
        replace HU := HU.trans0 hU23
        replace hb1 := hb1.upd0 hU23
        replace hs23 : Own w23 (Is B23) 5 1 (.slice (some ⟨B23, 0, none⟩) 6 6) 6 (ints .u8 [80, 77, 84, 30, 6, ((hb wz : Nat) : Int)]) := hs23
        refine Wl_v (r_as (v := .slice (some ⟨B23, 0, none⟩) 6 6) rfl) ?_
        refine Wl_nil ?_
        refine W_seq ?_
        refine W_seq ?_
        refine W_region ?_
        refine Wl_v (r_fld Try.underlying34 rfl Try.sizeOf32 rfl rfl) ?_
        refine Wl_load (v := .int .u32 dn) Try.isAgg32 rfl hb1 rfl ?_
        refine Wl_v (r_ne rfl rfl) ?_
        refine Wl_nil ?_
        have q15 : dn ≠ 0 := q14
        rw [decide_eq_true q15]
        refine W_cond_t rfl ?_
        refine W_region ?_
        refine Wl_v (r_mv (v := .slice (some ⟨B23, 0, none⟩) 6 6) rfl) ?_
        refine Wl_v (r_fld Try.underlying34 rfl Try.sizeOf32 rfl rfl) ?_
        refine Wl_load (v := .int .u32 dn) Try.isAgg32 rfl hb1 rfl ?_
        refine Wl_call (r_call1 rfl Try.call37 rfl) (word_spec _ (by omega) (by omega)) ?_
        rintro v w24 ⟨a24, c24, rfl, hO24, hU24⟩
        have hzw24 := hU24.size
        replace HU := HU.trans0 hU24
        replace hb1 := hb1.upd0 hU24
        replace hs23 := hs23.upd0 hU24
        replace hO24 := hO24.tight
        have hl_hO24 := ilen hO24.sl
        have hc_hO24 := hO24.sl.cap.1
        refine Wl_appendi (xs := [80, 77, 84, 30, 6, ((hb wz : Nat) : Int)]) (ys := word dn) (zs := [80, 77, 84, 30, 6, ((hb wz : Nat) : Int)] ++ (word dn)) (k' := .u8) (tot := 6 + 4) (by first | rfl | simp) Try.underlying35 (ti := Try.t5) (z := .int .u8 0) (sz := 1) (by' := 1) rfl rfl rfl rfl rfl (by decide) rfl hs23 rfl hO24.sl  (by omega) (by simp only [maxLen]; omega) (by omega) ?_
        intro a25 c25 w25 hU25 hzz25 hO25
        clear hs23
        have hzw25 := hU25.size
        replace HU := HU.trans hU25 (by intro x hx; have hx2 : x = B23 := hx; show (False) ∨ w.heap.size ≤ x; omega)
        replace hb1 := hb1.upd hU25 (by intro hx; have hx2 : B1 = B23 := hx; omega)
        replace hO24 := hO24.upd hU25 (by intro x h1 h2; have h3 : ((w23.heap.size ≤ x) ∧ x < w24.heap.size) := h1; have h4 : x = B23 := h2; omega)
        replace hO25 := hO25.tight
        have hl_hO25 := ilen hO25.sl
        have hc_hO25 := hO25.sl.cap.1
        refine Wl_v (r_as (v := .slice a25 (6 + 4) c25) rfl) ?_
        refine Wl_nil ?_
        refine W_seq ?_
        refine W_seq ?_
        refine W_region ?_
        refine Wl_v (r_fld Try.underlying34 rfl Try.sizeOf3 rfl rfl) ?_
        refine Wl_load (v := .int .i64 sz) Try.isAgg3 rfl hb1 rfl ?_
        refine Wl_v (r_ge rfl rfl) ?_
        refine Wl_nil ?_
        have q16 : ¬ (0 ≤ sz) := q1
        rw [decide_eq_false q16]
        refine W_cond_f rfl ?_
        refine W_skip ?_
        refine W_seq ?_
        refine W_region ?_
        refine Wl_v (r_mv (v := .slice a25 (6 + 4) c25) rfl) ?_
        refine Wl_v (r_as (v := .slice a25 (6 + 4) c25) rfl) ?_
        refine Wl_nil ?_
        refine W_ret ?_
        refine ret_end (v := .slice a25 (6 + 4) c25) rfl (res1 Try.results22 rfl) ?_
        have hen : henc wz sz dn sm = [80, 77, 84, 30, 6, ((hb wz : Nat) : Int)] ++ (word dn) := by unfold henc hbits; simp [q1, q13, q14, q15, q16]
        rw [← hen] at hO25
        exact ⟨_, rfl, a25, 6 + 4, c25, rfl, (hO25.weak (by intro g hg; have h3 : ((((g = B23) ∨ g = w24.heap.size)) ∧ g < w25.heap.size) := hg; show w.heap.size ≤ g; omega)), (ilen hO25.sl), HU⟩
      · rw [decide_eq_false q14]
        refine W_cond_f rfl ?_
        refine W_skip ?_
        refine W_seq ?_
        refine W_region ?_
        refine Wl_v (r_mv (v := .int .u8 2) rfl) ?_
        refine Wl_v (r_fld Try.underlying34 rfl Try.sizeOf3 rfl rfl) ?_
        refine Wl_load (v := .int .i64 wz) Try.isAgg3 rfl hb1 rfl ?_
        refine Wl_call (r_call1 rfl Try.call17 rfl) (rbyte _ (by omega)) ?_
        rintro v w26 ⟨rfl, hU26⟩
        have hzw26 := hU26.size
        replace HU := HU.trans0 hU26
        replace hb1 := hb1.upd0 hU26
        refine Wl_lit (pv := [(0, .int .u8 80), (1, .int .u8 77), (2, .int .u8 84), (3, .int .u8 30), (4, .int .u8 2), (5, .int .u8 ((hb wz : Nat) : Int))]) (cs := [.int .u8 80, .int .u8 77, .int .u8 84, .int .u8 30, .int .u8 2, .int .u8 ((hb wz : Nat) : Int)]) Try.underlying35 Try.sizeOf5 Try.zeroValue5 (by decide) (by decide) (by simp only [List.map_toArray, List.map_cons, List.map_nil] <;> rfl) (by kernel_rfl) rfl (by decide) ?_
        intro B27 w27 hB27 hU27 hzz27 hs27
        have hzw27 := hU27.size
        replace HU := HU.trans0 hU27
        replace hb1 := hb1.upd0 hU27
        replace hs27 : Own w27 (Is B27) 5 1 (.slice (some ⟨B27, 0, none⟩) 6 6) 6 (ints .u8 [80, 77, 84, 30, 2, ((hb wz : Nat) : Int)]) := hs27
        refine Wl_v (r_as (v := .slice (some ⟨B27, 0, none⟩) 6 6) rfl) ?_
        refine Wl_nil ?_
        refine W_seq ?_
        refine W_seq ?_
        refine W_region ?_
        refine Wl_v (r_fld Try.underlying34 rfl Try.sizeOf32 rfl rfl) ?_
        refine Wl_load (v := .int .u32 dn) Try.isAgg32 rfl hb1 rfl ?_
        refine Wl_v (r_ne rfl rfl) ?_
        refine Wl_nil ?_
        have q17 : ¬ (dn ≠ 0) := q14
        rw [decide_eq_false q17]
        refine W_cond_f rfl ?_
        refine W_skip ?_
        refine W_seq ?_
        refine W_seq ?_
        refine W_region ?_
        refine Wl_v (r_fld Try.underlying34 rfl Try.sizeOf3 rfl rfl) ?_
        refine Wl_load (v := .int .i64 sz) Try.isAgg3 rfl hb1 rfl ?_
        refine Wl_v (r_ge rfl rfl) ?_
        refine Wl_nil ?_
        have q18 : ¬ (0 ≤ sz) := q1
        rw [decide_eq_false q18]
        refine W_cond_f rfl ?_
        refine W_skip ?_
        refine W_seq ?_
        refine W_region ?_
        refine Wl_v (r_mv (v := .slice (some ⟨B27, 0, none⟩) 6 6) rfl) ?_
        refine Wl_v (r_as (v := .slice (some ⟨B27, 0, none⟩) 6 6) rfl) ?_
        refine Wl_nil ?_
        refine W_ret ?_
        refine ret_end (v := .slice (some ⟨B27, 0, none⟩) 6 6) rfl (res1 Try.results22 rfl) ?_
        have hen : henc wz sz dn sm = [80, 77, 84, 30, 2, ((hb wz : Nat) : Int)] := by unfold henc hbits; simp [q1, q13, Classical.not_not.1 q14, Classical.not_not.1 q17, q18]
        rw [← hen] at hs27
        exact ⟨_, rfl, (some ⟨B27, 0, none⟩), 6, 6, rfl, (hs27.weak (by intro g hg; have h3 : g = B27 := hg; show w.heap.size ≤ g; omega)), (ilen hs27.sl), HU⟩
    · rw [decide_eq_false q13]
      refine W_cond_f rfl ?_
      refine W_skip ?_
      refine W_seq ?_
      refine W_seq ?_
      refine W_region ?_
      refine Wl_v (r_fld Try.underlying34 rfl Try.sizeOf32 rfl rfl) ?_
      refine Wl_load (v := .int .u32 dn) Try.isAgg32 rfl hb1 rfl ?_
      refine Wl_v (r_ne rfl rfl) ?_
      refine Wl_nil ?_
      by_cases q19 : dn ≠ 0
      · rw [decide_eq_true q19]
        refine W_cond_t rfl ?_
        refine W_region ?_
        refine Wl_v (r_mv (v := .int .u8 0) rfl) ?_
        refine Wl_v (r_add rfl rfl (show _ = (4 : Int) from by decide)) ?_
        refine Wl_v (r_as (v := .int .u8 4) rfl) ?_
        refine Wl_nil ?_
        refine W_seq ?_
        refine W_region ?_
        refine Wl_v (r_mv (v := .int .u8 4) rfl) ?_
        refine Wl_v (r_fld Try.underlying34 rfl Try.sizeOf3 rfl rfl) ?_
        refine Wl_load (v := .int .i64 wz) Try.isAgg3 rfl hb1 rfl ?_
        refine Wl_call (r_call1 rfl Try.call17 rfl) (rbyte _ (by omega)) ?_
        rintro v w28 ⟨rfl, hU28⟩
        have hzw28 := hU28.size
        replace HU := HU.trans0 hU28
        replace hb1 := hb1.upd0 hU28
        refine Wl_lit (pv := [(0, .int .u8 80), (1, .int .u8 77), (2, .int .u8 84), (3, .int .u8 30), (4, .int .u8 4), (5, .int .u8 ((hb wz : Nat) : Int))]) (cs := [.int .u8 80, .int .u8 77, .int .u8 84, .int .u8 30, .int .u8 4, .int .u8 ((hb wz : Nat) : Int)]) Try.underlying35 Try.sizeOf5 Try.zeroValue5 (by decide) (by decide) (by simp only [List.map_toArray, List.map_cons, List.map_nil] <;> rfl) (by kernel_rfl) rfl (by decide) ?_
        intro B29 w29 hB29 hU29 hzz29 hs29
        have hzw29 := hU29.size
        replace HU := HU.trans0 hU29
        replace hb1 := hb1.upd0 hU29
        replace hs29 : Own w29 (Is B29) 5 1 (.slice (some ⟨B29, 0, none⟩) 6 6) 6 (ints .u8 [80, 77, 84, 30, 4, ((hb wz : Nat) : Int)]) := hs29
        refine Wl_v (r_as (v := .slice (some ⟨B29, 0, none⟩) 6 6) rfl) ?_
        refine Wl_nil ?_
        refine W_seq ?_
        refine W_seq ?_
        refine W_region ?_
        refine Wl_v (r_fld Try.underlying34 rfl Try.sizeOf32 rfl rfl) ?_
        refine Wl_load (v := .int .u32 dn) Try.isAgg32 rfl hb1 rfl ?_
        refine Wl_v (r_ne rfl rfl) ?_
        refine Wl_nil ?_
        have q20 : dn ≠ 0 := q19
        rw [decide_eq_true q20]
        refine W_cond_t rfl ?_
        refine W_region ?_
        refine Wl_v (r_mv (v := .slice (some ⟨B29, 0, none⟩) 6 6) rfl) ?_
        refine Wl_v (r_fld Try.underlying34 rfl Try.sizeOf32 rfl rfl) ?_
        refine Wl_load (v := .int .u32 dn) Try.isAgg32 rfl hb1 rfl ?_
        refine Wl_call (r_call1 rfl Try.call37 rfl) (word_spec _ (by omega) (by omega)) ?_
        rintro v w30 ⟨a30, c30, rfl, hO30, hU30⟩
        have hzw30 := hU30.size
        replace HU := HU.trans0 hU30
        replace hb1 := hb1.upd0 hU30
        replace hs29 := hs29.upd0 hU30
        replace hO30 := hO30.tight
        have hl_hO30 := ilen hO30.sl
        have hc_hO30 := hO30.sl.cap.1
        refine Wl_appendi (xs := [80, 77, 84, 30, 4, ((hb wz : Nat) : Int)]) (ys := word dn) (zs := [80, 77, 84, 30, 4, ((hb wz : Nat) : Int)] ++ (word dn)) (k' := .u8) (tot := 6 + 4) (by first | rfl | simp) Try.underlying35 (ti := Try.t5) (z := .int .u8 0) (sz := 1) (by' := 1) rfl rfl rfl rfl rfl (by decide) rfl hs29 rfl hO30.sl  (by omega) (by simp only [maxLen]; omega) (by omega) ?_
        intro a31 c31 w31 hU31 hzz31 hO31
        clear hs29
        have hzw31 := hU31.size
        replace HU := HU.trans hU31 (by intro x hx; have hx2 : x = B29 := hx; show (False) ∨ w.heap.size ≤ x; omega)
        replace hb1 := hb1.upd hU31 (by intro hx; have hx2 : B1 = B29 := hx; omega)
        replace hO30 := hO30.upd hU31 (by intro x h1 h2; have h3 : ((w29.heap.size ≤ x) ∧ x < w30.heap.size) := h1; have h4 : x = B29 := h2; omega)
        replace hO31 := hO31.tight
        have hl_hO31 := ilen hO31.sl
        have hc_hO31 := hO31.sl.cap.1
        refine Wl_v (r_as (v := .slice a31 (6 + 4) c31) rfl) ?_
        refine Wl_nil ?_
        refine W_seq ?_
        refine W_seq ?_
        refine W_region ?_
        refine Wl_v (r_fld Try.underlying34 rfl Try.sizeOf3 rfl rfl) ?_
        refine Wl_load (v := .int .i64 sz) Try.isAgg3 rfl hb1 rfl ?_
        refine Wl_v (r_ge rfl rfl) ?_
        refine Wl_nil ?_
        have q21 : ¬ (0 ≤ sz) := q1
        rw [decide_eq_false q21]
        refine W_cond_f rfl ?_
        refine W_skip ?_
        refine W_seq ?_
        refine W_region ?_
        refine Wl_v (r_mv (v := .slice a31 (6 + 4) c31) rfl) ?_
        refine Wl_v (r_as (v := .slice a31 (6 + 4) c31) rfl) ?_
        refine Wl_nil ?_
        refine W_ret ?_
        refine ret_end (v := .slice a31 (6 + 4) c31) rfl (res1 Try.results22 rfl) ?_
        have hen : henc wz sz dn sm = [80, 77, 84, 30, 4, ((hb wz : Nat) : Int)] ++ (word dn) := by unfold henc hbits; simp [q1, q13, q19, q20, q21]
        rw [← hen] at hO31
        exact ⟨_, rfl, a31, 6 + 4, c31, rfl, (hO31.weak (by intro g hg; have h3 : ((((g = B29) ∨ g = w30.heap.size)) ∧ g < w31.heap.size) := hg; show w.heap.size ≤ g; omega)), (ilen hO31.sl), HU⟩
      · rw [decide_eq_false q19]
        refine W_cond_f rfl ?_
        refine W_skip ?_
        refine W_seq ?_
        refine W_region ?_
        refine Wl_v (r_mv (v := .int .u8 0) rfl) ?_
        refine Wl_v (r_fld Try.underlying34 rfl Try.sizeOf3 rfl rfl) ?_
        refine Wl_load (v := .int .i64 wz) Try.isAgg3 rfl hb1 rfl ?_
        refine Wl_call (r_call1 rfl Try.call17 rfl) (rbyte _ (by omega)) ?_
        rintro v w32 ⟨rfl, hU32⟩
        have hzw32 := hU32.size
        replace HU := HU.trans0 hU32
        replace hb1 := hb1.upd0 hU32
        refine Wl_lit (pv := [(0, .int .u8 80), (1, .int .u8 77), (2, .int .u8 84), (3, .int .u8 30), (4, .int .u8 0), (5, .int .u8 ((hb wz : Nat) : Int))]) (cs := [.int .u8 80, .int .u8 77, .int .u8 84, .int .u8 30, .int .u8 0, .int .u8 ((hb wz : Nat) : Int)]) Try.underlying35 Try.sizeOf5 Try.zeroValue5 (by decide) (by decide) (by simp only [List.map_toArray, List.map_cons, List.map_nil] <;> rfl) (by kernel_rfl) rfl (by decide) ?_
        intro B33 w33 hB33 hU33 hzz33 hs33
        have hzw33 := hU33.size
        replace HU := HU.trans0 hU33
        replace hb1 := hb1.upd0 hU33
        replace hs33 : Own w33 (Is B33) 5 1 (.slice (some ⟨B33, 0, none⟩) 6 6) 6 (ints .u8 [80, 77, 84, 30, 0, ((hb wz : Nat) : Int)]) := hs33
        refine Wl_v (r_as (v := .slice (some ⟨B33, 0, none⟩) 6 6) rfl) ?_
        refine Wl_nil ?_
        refine W_seq ?_
        refine W_seq ?_
        refine W_region ?_
        refine Wl_v (r_fld Try.underlying34 rfl Try.sizeOf32 rfl rfl) ?_
        refine Wl_load (v := .int .u32 dn) Try.isAgg32 rfl hb1 rfl ?_
        refine Wl_v (r_ne rfl rfl) ?_
        refine Wl_nil ?_
        have q22 : ¬ (dn ≠ 0) := q19
        rw [decide_eq_false q22]
        refine W_cond_f rfl ?_
        refine W_skip ?_
        refine W_seq ?_
        refine W_seq ?_
        refine W_region ?_
        refine Wl_v (r_fld Try.underlying34 rfl Try.sizeOf3 rfl rfl) ?_
        refine Wl_load (v := .int .i64 sz) Try.isAgg3 rfl hb1 rfl ?_
        refine Wl_v (r_ge rfl rfl) ?_
        refine Wl_nil ?_
        have q23 : ¬ (0 ≤ sz) := q1
        rw [decide_eq_false q23]
        refine W_cond_f rfl ?_
        refine W_skip ?_
        refine W_seq ?_
        refine W_region ?_
        refine Wl_v (r_mv (v := .slice (some ⟨B33, 0, none⟩) 6 6) rfl) ?_
        refine Wl_v (r_as (v := .slice (some ⟨B33, 0, none⟩) 6 6) rfl) ?_
        refine Wl_nil ?_
        refine W_ret ?_
        refine ret_end (v := .slice (some ⟨B33, 0, none⟩) 6 6) rfl (res1 Try.results22 rfl) ?_
        have hen : henc wz sz dn sm = [80, 77, 84, 30, 0, ((hb wz : Nat) : Int)] := by unfold henc hbits; simp [q1, q13, Classical.not_not.1 q19, Classical.not_not.1 q22, q23]
        rw [← hen] at hs33
        exact ⟨_, rfl, (some ⟨B33, 0, none⟩), 6, 6, rfl, (hs33.weak (by intro g hg; have h3 : g = B33 := hg; show w.heap.size ≤ g; omega)), (ilen hs33.sl), HU⟩

end Go.Proofs.Ytflmjdnhjbiobaa
