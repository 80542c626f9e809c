/-
  Walks, printed by a small program of this project (gen.py).
-/
import Derived.Test.YtigojafhogjnfaaWk
set_option linter.unusedVariables false
namespace Go.Proofs.Ytigojafhogjnfaa
open Go.Fw

set_option maxHeartbeats 2000000 in
set_option maxRecDepth 100000 in
theorem numnil {kd kn nn : Int} (w : World) (rkn : -9223372036854775808 ≤ kn ∧ kn ≤ 9223372036854775807) (rnn : -9223372036854775808 ≤ nn ∧ nn ≤ 9223372036854775807) :
    Calls Try.prog 12 #[.agg #[.int .i64 kd, .int .i64 kn], .int .i64 nn] w (Ret fun v w' => v = .bool true ∧ Upd No w w') := by
  have HU : Upd (fun b => False) w w := Upd.refl _ _
  refine calls_of_W Try.func12 rfl Try.ntmps12 (by simp) ?_
  refine W_seq ?_
  refine W_region ?_
  refine Wl_box (v := .agg #[.int .i64 kd, .int .i64 kn]) (cs := [.int .i64 kd, .int .i64 kn]) rfl rfl ?_
  intro B1 w1 hB1 hU1 hzz1 hb1
  have hzw1 := hU1.size
  replace HU := HU.trans0 hU1
  refine Wl_v (r_as (v := .bool false) rfl) ?_
  refine Wl_nil ?_
  refine W_seq ?_
  refine W_region ?_
  refine Wl_v (r_as (v := .pointer none) rfl) ?_
  refine Wl_nil ?_
  refine W_seq ?_
  refine W_region ?_
  refine Wl_alloc (cs := [.slice none 0 0, .int .i64 0]) Try.zeroValue66 rfl ?_
  intro B2 w2 hB2 hU2 hzz2 hb2
  have hzw2 := hU2.size
  replace HU := HU.trans0 hU2
  replace hb1 := hb1.upd0 hU2
  refine Wl_nil ?_
  refine W_seq ?_
  refine W_region ?_
  refine Wl_v (r_mv (v := .pointer none) rfl) ?_
  refine Wl_v (r_loada (b := B1) (off := 0) (cs := [.int .i64 kd, .int .i64 kn]) Try.isAgg56 Try.sizeOf56 rfl rfl (fun j hj => by rw [hb1.cell]; match j, hj with | 0, _ => rfl | 1, _ => rfl)) ?_
  refine Wl_call (r_call2 rfl Try.call31 rfl rfl) (ask_nil _ ) ?_
  rintro v w3 ⟨rfl, hU3⟩
  have hzw3 := hU3.size
  replace HU := HU.trans0 hU3
  replace hb1 := hb1.upd0 hU3
  replace hb2 := hb2.upd0 hU3
  refine Wl_v (r_mv (v := .tuple #[.int .u64 0, .slice none 0 0, .int .i64 1]) rfl) ?_
  refine Wl_v (r_ext (v := .int .u64 0) rfl rfl) ?_
  refine Wl_v (r_ext (v := .slice none 0 0) rfl rfl) ?_
  refine Wl_v (r_ext (v := .int .i64 1) rfl rfl) ?_
  refine Wl_v (r_as (v := .int .u64 0) rfl) ?_
  refine Wl_v (r_as (v := .slice none 0 0) rfl) ?_
  refine Wl_v (r_as (v := .int .i64 1) rfl) ?_
  refine Wl_nil ?_
  refine W_seq ?_
  refine W_region ?_
  refine Wl_v (r_mv (v := .pointer none) rfl) ?_
  refine Wl_v (r_mv (v := .int .i64 nn) rfl) ?_
  refine Wl_call (r_call2 rfl Try.call33 rfl rfl) (csub_nil _ ) ?_
  rintro v w4 ⟨rfl, hU4⟩
  have hzw4 := hU4.size
  replace HU := HU.trans0 hU4
  replace hb1 := hb1.upd0 hU4
  replace hb2 := hb2.upd0 hU4
  refine Wl_v (r_mv (v := .tuple #[.pointer none, .int .i64 1]) rfl) ?_
  refine Wl_v (r_ext (v := .pointer none) rfl rfl) ?_
  refine Wl_v (r_ext (v := .int .i64 1) rfl rfl) ?_
  refine Wl_v (r_as (v := .pointer none) rfl) ?_
  refine Wl_v (r_as (v := .int .i64 1) rfl) ?_
  refine Wl_nil ?_
  refine W_seq ?_
  refine W_seq ?_
  refine W_region ?_
  refine Wl_v (r_mv (v := .int .u64 0) rfl) ?_
  refine Wl_v (v := .bool false) (r_ne (a := 0) (b := 0) rfl rfl) ?_
  refine Wl_v (r_mv (v := .bool false) rfl) ?_
  refine Wl_guard_t rfl ?_
  refine Wl_v (r_mv (v := .slice none 0 0) rfl) ?_
  refine Wl_guard_t rfl ?_
  refine Wl_v (r_len Try.underlying22 rfl) ?_
  refine Wl_guard_t rfl ?_
  refine Wl_v (v := .bool false) (r_ne (a := 0) (b := 0) rfl rfl) ?_
  refine Wl_v (r_pick_f (v := .bool false) rfl rfl) ?_
  refine Wl_v (r_mv (v := .bool false) rfl) ?_
  refine Wl_guard_t rfl ?_
  refine Wl_v (r_mv (v := .int .i64 1) rfl) ?_
  refine Wl_guard_t rfl ?_
  refine Wl_v (v := .bool false) (r_ne (a := 1) (b := 1) rfl rfl) ?_
  refine Wl_v (r_pick_f (v := .bool false) rfl rfl) ?_
  refine Wl_v (r_mv (v := .bool false) rfl) ?_
  refine Wl_guard_t rfl ?_
  refine Wl_v (r_mv (v := .pointer none) rfl) ?_
  refine Wl_guard_t rfl ?_
  refine Wl_v (r_nepn_n Try.underlying38 rfl rfl) ?_
  refine Wl_v (r_pick_f (v := .bool false) rfl rfl) ?_
  refine Wl_v (r_mv (v := .bool false) rfl) ?_
  refine Wl_guard_t rfl ?_
  refine Wl_v (r_mv (v := .int .i64 1) rfl) ?_
  refine Wl_guard_t rfl ?_
  refine Wl_v (v := .bool false) (r_ne (a := 1) (b := 1) rfl rfl) ?_
  refine Wl_v (r_pick_f (v := .bool false) rfl rfl) ?_
  refine Wl_v (r_mv (v := .bool false) rfl) ?_
  refine Wl_guard_t rfl ?_
  refine Wl_v (r_mv (v := .pointer none) rfl) ?_
  refine Wl_guard_t rfl ?_
  refine Wl_call (r_call1 rfl Try.call24 rfl) (at_nil _ ) ?_
  rintro v w5 ⟨rfl, hU5⟩
  have hzw5 := hU5.size
  replace HU := HU.trans0 hU5
  replace hb1 := hb1.upd0 hU5
  replace hb2 := hb2.upd0 hU5
  refine Wl_guard_t rfl ?_
  refine Wl_v (v := .bool false) (r_ne (a := 0) (b := 0) rfl rfl) ?_
  refine Wl_v (r_pick_f (v := .bool false) rfl rfl) ?_
  refine Wl_v (r_mv (v := .bool false) rfl) ?_
  refine Wl_guard_t rfl ?_
  refine Wl_v (r_mv (v := .pointer none) rfl) ?_
  refine Wl_guard_t rfl ?_
  refine Wl_call (r_call1 rfl Try.call29 rfl) (left_nil _ ) ?_
  rintro v w6 ⟨rfl, hU6⟩
  have hzw6 := hU6.size
  replace HU := HU.trans0 hU6
  replace hb1 := hb1.upd0 hU6
  replace hb2 := hb2.upd0 hU6
  refine Wl_guard_t rfl ?_
  refine Wl_v (v := .bool false) (r_ne (a := 0) (b := 0) rfl rfl) ?_
  refine Wl_v (r_pick_f (v := .bool false) rfl rfl) ?_
  refine Wl_v (r_mv (v := .bool false) rfl) ?_
  refine Wl_guard_t rfl ?_
  refine Wl_v (r_mv (v := .pointer none) rfl) ?_
  refine Wl_guard_t rfl ?_
  refine Wl_call (r_call1 rfl Try.call25 rfl) (rest_nil _ ) ?_
  rintro v w7 ⟨rfl, hU7⟩
  have hzw7 := hU7.size
  replace HU := HU.trans0 hU7
  replace hb1 := hb1.upd0 hU7
  replace hb2 := hb2.upd0 hU7
  refine Wl_guard_t rfl ?_
  refine Wl_v (r_len Try.underlying22 rfl) ?_
  refine Wl_guard_t rfl ?_
  refine Wl_v (v := .bool false) (r_ne (a := 0) (b := 0) rfl rfl) ?_
  refine Wl_v (r_pick_f (v := .bool false) rfl rfl) ?_
  refine Wl_v (r_mv (v := .bool false) rfl) ?_
  refine Wl_guard_t rfl ?_
  refine Wl_v (r_mv (v := .pointer none) rfl) ?_
  refine Wl_guard_t rfl ?_
  refine Wl_v (r_mv (v := .int .i64 nn) rfl) ?_
  refine Wl_guard_t rfl ?_
  refine Wl_call (r_call2 rfl Try.call27 rfl rfl) (peek_nil _ ) ?_
  rintro v w8 ⟨rfl, hU8⟩
  have hzw8 := hU8.size
  replace HU := HU.trans0 hU8
  replace hb1 := hb1.upd0 hU8
  replace hb2 := hb2.upd0 hU8
  refine Wl_guard_t rfl ?_
  refine Wl_v (r_len Try.underlying22 rfl) ?_
  refine Wl_guard_t rfl ?_
  refine Wl_v (v := .bool false) (r_ne (a := 0) (b := 0) rfl rfl) ?_
  refine Wl_v (r_pick_f (v := .bool false) rfl rfl) ?_
  refine Wl_nil ?_
  refine W_cond_f rfl ?_
  refine W_skip ?_
  refine W_seq ?_
  refine W_region ?_
  refine Wl_v (r_loada (b := B1) (off := 0) (cs := [.int .i64 kd, .int .i64 kn]) Try.isAgg56 Try.sizeOf56 rfl rfl (fun j hj => by rw [hb1.cell]; match j, hj with | 0, _ => rfl | 1, _ => rfl)) ?_
  refine Wl_call (r_call2 rfl Try.call31 rfl rfl) (ask_spec (bs := []) (p := 0) _ hb2 (Sl.nil _ _ _) byt_nil (by omega) (by omega) (by omega)) ?_
  rintro v w9 ⟨a9, m9, c9, rfl, hp9, hO9, hm_9, hU9⟩
  have hzw9 := hU9.size
  replace HU := HU.trans1 hU9 (by show (False) ∨ w.heap.size ≤ B2; omega)
  replace hb1 := hb1.upd1 hU9 (by omega)
  have hbl_hp9 := hp9.lt
  replace hO9 := hO9.tight
  have hl_hO9 := ilen hO9.sl
  have hc_hO9 := hO9.sl.cap.1
  have hle9 := stp_le byt_nil (p := 0) (Nat.zero_le _) kd kn
  simp only [List.length_nil] at hle9
  refine Wl_v (r_mv (v := .tuple #[.int .u64 ((stp [] 0 kd kn).1), .slice a9 m9 c9, .int .i64 ((stp [] 0 kd kn).2.2.2)]) rfl) ?_
  refine Wl_v (r_ext (v := .int .u64 ((stp [] 0 kd kn).1)) rfl rfl) ?_
  refine Wl_v (r_ext (v := .slice a9 m9 c9) rfl rfl) ?_
  refine Wl_v (r_ext (v := .int .i64 ((stp [] 0 kd kn).2.2.2)) rfl rfl) ?_
  refine Wl_v (r_as (v := .int .u64 ((stp [] 0 kd kn).1)) rfl) ?_
  refine Wl_v (r_as (v := .slice a9 m9 c9) rfl) ?_
  refine Wl_v (r_as (v := .int .i64 ((stp [] 0 kd kn).2.2.2)) rfl) ?_
  refine Wl_nil ?_
  refine W_seq ?_
  refine W_drawt rfl (l0 := #[false, false, false, false, false, false, false, false, false, false]) (by kernel_rfl) ?_
  refine Wt_take (i := 1) (listed' := #[false, true, false, false, false, false, false, false, false, false]) (by kernel_rfl) rfl (by kernel_rfl) (by kernel_rfl) (by kernel_rfl) (by kernel_rfl) (YI_v (v := .agg #[.int .i64 kd, .int .i64 kn]) rfl (fun w' hw' => r_loada (b := B1) (off := 0) (cs := [.int .i64 kd, .int .i64 kn]) Try.isAgg56 Try.sizeOf56 rfl rfl (fun j hj => by rw [(hb1.upd0 hw').cell]; match j, hj with | 0, _ => rfl | 1, _ => rfl))) ?_
  intro w10 hU10
  have hzw10 := hU10.size
  replace HU := HU.trans0 hU10
  replace hb1 := hb1.upd0 hU10
  replace hp9 := hp9.upd0 hU10
  replace hO9 := hO9.upd0 hU10
  refine Wa_one (i := 0) (listed' := #[true, true, false, false, false, false, false, false, false, false]) (by kernel_rfl) rfl (by kernel_rfl) ?_
  refine Ws_of_Wl ?_
  have hW : Upd No w9 w10 := hU10
  refine Wl_call (r_call1 rfl Try.call21 rfl) (new_spec (bs := []) _ (Sl.nil _ _ _) (by omega)) ?_
  rintro v w11 ⟨pb11, a11, c11, rfl, hp11, hO11, hpg_11, hU11⟩
  have hzw11 := hU11.size
  replace HU := HU.trans0 hU11
  replace hb1 := hb1.upd0 hU11
  replace hp9 := hp9.upd0 hU11
  replace hO9 := hO9.upd0 hU11
  try replace hW := hW.trans0 hU11
  have hbl_hp11 := hp11.lt
  replace hO11 := hO11.tight
  have hl_hO11 := ilen hO11.sl
  have hc_hO11 := hO11.sl.cap.1
  refine Wl_nil ?_
  intro w12 hS12
  have hX : Upd No w9 w12 := hW.trans0 hS12.upd
  refine ⟨fun _ => ⟨hX, ?_⟩, fun h => absurd h (by rw [show barOp _ 0 = false from by kernel_rfl]; simp)⟩
  have hU12 := hS12.upd
  have hzw12 := hU12.size
  replace HU := HU.trans0 hU12
  replace hb1 := hb1.upd0 hU12
  replace hp9 := hp9.upd0 hU12
  replace hO9 := hO9.upd0 hU12
  replace hp11 := hp11.upd0 hU12
  replace hO11 := hO11.upd0 hU12
  try replace hW := hW.trans0 hU12
  refine Wt_base hX ?_
  intro w13 hU13
  have hzw13 := hU13.size
  replace HU := HU.trans0 hU13
  replace hb1 := hb1.upd0 hU13
  replace hp9 := hp9.upd0 hU13
  replace hO9 := hO9.upd0 hU13
  replace hp11 := hp11.upd0 hU13
  replace hO11 := hO11.upd0 hU13
  try replace hW := hW.trans0 hU13
  refine Wa_one (i := 2) (listed' := #[true, true, true, false, false, false, false, false, false, false]) (by kernel_rfl) rfl (by kernel_rfl) ?_
  refine Ws_of_Wl ?_
  have hW : Upd No w12 w13 := hU13
  refine Wl_call (r_call2 rfl Try.call31 rfl rfl) (ask_spec (p := 0) _ hp11 (hO11.sl.cur (by intro h1; have h3 : ((w10.heap.size ≤ pb11 ∧ pb11 ≠ pb11) ∧ pb11 < w11.heap.size) := h1; first | omega | simp at h3)) byt_nil (by omega) (by omega) (by omega)) ?_
  rintro v w14 ⟨a14, m14, c14, rfl, hp14, hO14, hm_14, hU14⟩
  have hzw14 := hU14.size
  replace HU := HU.trans1 hU14 (by show (False) ∨ w.heap.size ≤ pb11; omega)
  replace hb1 := hb1.upd1 hU14 (by omega)
  replace hp9 := hp9.upd1 hU14 (by omega)
  replace hO9 := hO9.upd1 hU14 (by intro h1; have h3 : ((w8.heap.size ≤ pb11) ∧ pb11 < w9.heap.size) := h1; omega)
  replace hO11 := hO11.upd1 hU14 (by intro h1; have h3 : ((w10.heap.size ≤ pb11 ∧ pb11 ≠ pb11) ∧ pb11 < w11.heap.size) := h1; omega)
  have hbl_hp14 := hp14.lt
  replace hO14 := hO14.tight
  have hl_hO14 := ilen hO14.sl
  have hc_hO14 := hO14.sl.cap.1
  have hle14 := stp_le byt_nil (p := 0) (Nat.zero_le _) kd kn
  simp only [List.length_nil] at hle14
  refine Wl_nil ?_
  intro w15 hS15
  refine ⟨fun h => absurd h (by rw [show barOp _ 2 = true from by kernel_rfl]; simp), fun _ => ⟨Upd No w15, ?_⟩⟩
  have hU15 := hS15.upd
  have hzw15 := hU15.size
  replace HU := HU.trans0 hU15
  replace hb1 := hb1.upd0 hU15
  replace hp9 := hp9.upd0 hU15
  replace hO9 := hO9.upd0 hU15
  replace hO11 := hO11.upd0 hU15
  replace hp14 := hp14.upd0 hU15
  replace hO14 := hO14.upd0 hU15
  try replace hW := hW.trans0 hU15
  refine Wt_base (Upd.refl _ _) ?_
  refine Wt_take (i := 3) (listed' := #[true, true, true, true, false, false, false, false, false, false]) (by kernel_rfl) rfl (by kernel_rfl) (by kernel_rfl) (by kernel_rfl) (by kernel_rfl) (YI_v (v := .tuple #[.int .u64 ((stp [] 0 kd kn).1), .slice a14 m14 c14, .int .i64 ((stp [] 0 kd kn).2.2.2)]) rfl (fun w' hw' => r_mv (v := .tuple #[.int .u64 ((stp [] 0 kd kn).1), .slice a14 m14 c14, .int .i64 ((stp [] 0 kd kn).2.2.2)]) rfl)) ?_
  refine Wt_take (i := 4) (listed' := #[true, true, true, true, true, false, false, false, false, false]) (by kernel_rfl) rfl (by kernel_rfl) (by kernel_rfl) (by kernel_rfl) (by kernel_rfl) (YI_v (v := .int .u64 ((stp [] 0 kd kn).1)) rfl (fun w' hw' => r_ext (v := .int .u64 ((stp [] 0 kd kn).1)) rfl rfl)) ?_
  refine Wt_take (i := 5) (listed' := #[true, true, true, true, true, true, false, false, false, false]) (by kernel_rfl) rfl (by kernel_rfl) (by kernel_rfl) (by kernel_rfl) (by kernel_rfl) (YI_v (v := .slice a14 m14 c14) rfl (fun w' hw' => r_ext (v := .slice a14 m14 c14) rfl rfl)) ?_
  refine Wt_take (i := 6) (listed' := #[true, true, true, true, true, true, true, false, false, false]) (by kernel_rfl) rfl (by kernel_rfl) (by kernel_rfl) (by kernel_rfl) (by kernel_rfl) (YI_v (v := .int .i64 ((stp [] 0 kd kn).2.2.2)) rfl (fun w' hw' => r_ext (v := .int .i64 ((stp [] 0 kd kn).2.2.2)) rfl rfl)) ?_
  refine Wt_take (i := 7) (listed' := #[true, true, true, true, true, true, true, true, false, false]) (by kernel_rfl) rfl (by kernel_rfl) (by kernel_rfl) (by kernel_rfl) (by kernel_rfl) (YI_v (v := .int .u64 ((stp [] 0 kd kn).1)) rfl (fun w' hw' => r_as (v := .int .u64 ((stp [] 0 kd kn).1)) rfl)) ?_
  refine Wt_take (i := 8) (listed' := #[true, true, true, true, true, true, true, true, true, false]) (by kernel_rfl) rfl (by kernel_rfl) (by kernel_rfl) (by kernel_rfl) (by kernel_rfl) (YI_v (v := .slice a14 m14 c14) rfl (fun w' hw' => r_as (v := .slice a14 m14 c14) rfl)) ?_
  refine Wt_take (i := 9) (listed' := #[true, true, true, true, true, true, true, true, true, true]) (by kernel_rfl) rfl (by kernel_rfl) (by kernel_rfl) (by kernel_rfl) (by kernel_rfl) (YI_v (v := .int .i64 ((stp [] 0 kd kn).2.2.2)) rfl (fun w' hw' => r_as (v := .int .i64 ((stp [] 0 kd kn).2.2.2)) rfl)) ?_
  intro w16 hU16
  have hzw16 := hU16.size
  replace HU := HU.trans0 hU16
  replace hb1 := hb1.upd0 hU16
  replace hp9 := hp9.upd0 hU16
  replace hO9 := hO9.upd0 hU16
  replace hO11 := hO11.upd0 hU16
  replace hp14 := hp14.upd0 hU16
  replace hO14 := hO14.upd0 hU16
  try replace hW := hW.trans0 hU16
  refine Wa_done (by kernel_rfl) ?_
  refine W_seq ?_
  refine W_region ?_
  refine Wl_v (r_mv (v := .int .u64 ((stp [] 0 kd kn).1)) rfl) ?_
  refine Wl_v (r_mv (v := .int .u64 ((stp [] 0 kd kn).1)) rfl) ?_
  refine Wl_v (r_eq rfl rfl) ?_
  refine Wl_v (r_mv (v := .bool (decide (((stp [] 0 kd kn).1) = ((stp [] 0 kd kn).1)))) rfl) ?_
  have q1 : ((stp [] 0 kd kn).1) = ((stp [] 0 kd kn).1) := rfl
  rw [decide_eq_true q1]
  refine Wl_guard_t rfl ?_
  refine Wl_v (r_mv (v := .slice a9 m9 c9) rfl) ?_
  refine Wl_guard_t rfl ?_
  refine Wl_v (r_mv (v := .slice a14 m14 c14) rfl) ?_
  refine Wl_guard_t rfl ?_
  refine Wl_call (r_call2 rfl Try.call13 rfl rfl) (same_spec _ hO9.sl.any hO14.sl.any (stp_byt byt_nil) (stp_byt byt_nil)) ?_
  rintro v w17 ⟨rfl, hU17⟩
  have hzw17 := hU17.size
  replace HU := HU.trans0 hU17
  replace hb1 := hb1.upd0 hU17
  replace hp9 := hp9.upd0 hU17
  replace hO9 := hO9.upd0 hU17
  replace hO11 := hO11.upd0 hU17
  replace hp14 := hp14.upd0 hU17
  replace hO14 := hO14.upd0 hU17
  try replace hW := hW.trans0 hU17
  refine Wl_v (r_pick_t (v := .bool (decide (((stp [] 0 kd kn).2.1) = ((stp [] 0 kd kn).2.1)))) rfl rfl) ?_
  refine Wl_v (r_mv (v := .bool (decide (((stp [] 0 kd kn).2.1) = ((stp [] 0 kd kn).2.1)))) rfl) ?_
  have q2 : ((stp [] 0 kd kn).2.1) = ((stp [] 0 kd kn).2.1) := rfl
  rw [decide_eq_true q2]
  refine Wl_guard_t rfl ?_
  refine Wl_v (r_mv (v := .int .i64 ((stp [] 0 kd kn).2.2.2)) rfl) ?_
  refine Wl_guard_t rfl ?_
  refine Wl_v (r_mv (v := .int .i64 ((stp [] 0 kd kn).2.2.2)) rfl) ?_
  refine Wl_guard_t rfl ?_
  refine Wl_v (r_eq rfl rfl) ?_
  refine Wl_v (r_pick_t (v := .bool (decide (((stp [] 0 kd kn).2.2.2) = ((stp [] 0 kd kn).2.2.2)))) rfl rfl) ?_
  refine Wl_v (r_mv (v := .bool (decide (((stp [] 0 kd kn).2.2.2) = ((stp [] 0 kd kn).2.2.2)))) rfl) ?_
  have q3 : ((stp [] 0 kd kn).2.2.2) = ((stp [] 0 kd kn).2.2.2) := rfl
  rw [decide_eq_true q3]
  refine Wl_guard_t rfl ?_
  refine Wl_call (r_call1 rfl Try.call24 rfl) (at_spec _ hp9 (by omega) (by omega) (by omega)) ?_
  rintro v w18 ⟨rfl, hU18⟩
  have hzw18 := hU18.size
  replace HU := HU.trans0 hU18
  replace hb1 := hb1.upd0 hU18
  replace hp9 := hp9.upd0 hU18
  replace hO9 := hO9.upd0 hU18
  replace hO11 := hO11.upd0 hU18
  replace hp14 := hp14.upd0 hU18
  replace hO14 := hO14.upd0 hU18
  try replace hW := hW.trans0 hU18
  refine Wl_guard_t rfl ?_
  refine Wl_v (r_eq rfl rfl) ?_
  refine Wl_v (r_pick_t (v := .bool (decide ((((stp [] 0 kd kn).2.2.1 : Nat) : Int) = 0))) rfl rfl) ?_
  refine Wl_v (r_mv (v := .bool (decide ((((stp [] 0 kd kn).2.2.1 : Nat) : Int) = 0))) rfl) ?_
  have q4 : (((stp [] 0 kd kn).2.2.1 : Nat) : Int) = 0 := (by omega)
  rw [decide_eq_true q4]
  refine Wl_guard_t rfl ?_
  refine Wl_call (r_call1 rfl Try.call29 rfl) (left_spec _ hp9 (by omega) (by omega) (by omega)) ?_
  rintro v w19 ⟨rfl, hU19⟩
  have hzw19 := hU19.size
  replace HU := HU.trans0 hU19
  replace hb1 := hb1.upd0 hU19
  replace hp9 := hp9.upd0 hU19
  replace hO9 := hO9.upd0 hU19
  replace hO11 := hO11.upd0 hU19
  replace hp14 := hp14.upd0 hU19
  replace hO14 := hO14.upd0 hU19
  try replace hW := hW.trans0 hU19
  refine Wl_guard_t rfl ?_
  refine Wl_v (r_eq rfl rfl) ?_
  refine Wl_v (r_pick_t (v := .bool (decide ((((0 : Nat) : Int) - (((stp [] 0 kd kn).2.2.1 : Nat) : Int)) = 0))) rfl rfl) ?_
  refine Wl_v (r_mv (v := .bool (decide ((((0 : Nat) : Int) - (((stp [] 0 kd kn).2.2.1 : Nat) : Int)) = 0))) rfl) ?_
  have q5 : (((0 : Nat) : Int) - (((stp [] 0 kd kn).2.2.1 : Nat) : Int)) = 0 := (by omega)
  rw [decide_eq_true q5]
  refine Wl_guard_t rfl ?_
  refine Wl_call (r_call1 rfl Try.call30 rfl) (cend_out (bs := []) _ hp9 (Sl.nil _ _ _) byt_nil (by omega) (by omega) (by omega)) ?_
  rintro v w20 ⟨rfl, hU20⟩
  have hzw20 := hU20.size
  replace HU := HU.trans0 hU20
  replace hb1 := hb1.upd0 hU20
  replace hp9 := hp9.upd0 hU20
  replace hO9 := hO9.upd0 hU20
  replace hO11 := hO11.upd0 hU20
  replace hp14 := hp14.upd0 hU20
  replace hO14 := hO14.upd0 hU20
  try replace hW := hW.trans0 hU20
  refine Wl_guard_t rfl ?_
  refine Wl_v (v := .bool true) (r_eq (a := 0) (b := 0) rfl rfl) ?_
  refine Wl_v (r_pick_t (v := .bool true) rfl rfl) ?_
  refine Wl_v (r_mv (v := .bool true) rfl) ?_
  refine Wl_guard_t rfl ?_
  refine Wl_call (r_call0 rfl Try.call19 ) (known_spec _ ) ?_
  rintro v w21 ⟨rfl, hU21⟩
  have hzw21 := hU21.size
  replace HU := HU.trans0 hU21
  replace hb1 := hb1.upd0 hU21
  replace hp9 := hp9.upd0 hU21
  replace hO9 := hO9.upd0 hU21
  replace hO11 := hO11.upd0 hU21
  replace hp14 := hp14.upd0 hU21
  replace hO14 := hO14.upd0 hU21
  try replace hW := hW.trans0 hU21
  refine Wl_v (r_pick_t (v := .bool true) rfl rfl) ?_
  refine Wl_v (r_as (v := .bool true) rfl) ?_
  refine Wl_nil ?_
  refine W_ret ?_
  refine ret_end (v := .bool true) rfl (res1 Try.results12 rfl) ?_
  exact ⟨_, rfl, rfl, HU⟩

end Go.Proofs.Ytigojafhogjnfaa
