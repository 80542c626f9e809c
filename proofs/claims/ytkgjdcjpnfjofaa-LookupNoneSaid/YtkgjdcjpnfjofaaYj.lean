/-
  Walks, printed by a small program of this project (gen.py).
-/
import Derived.Test.YtkgjdcjpnfjofaaYi
set_option linter.unusedVariables false
set_option linter.unusedSimpArgs false
namespace Go.Proofs.Ytkgjdcjpnfjofaa
open Go.Fw

set_option maxHeartbeats 2000000 in
set_option maxRecDepth 100000 in
theorem lookupnone {bits m : Int} {z : Bool} (w : World) (hbits : 0 ≤ bits ∧ bits < 18446744073709551616) (hm : -9223372036854775808 ≤ m ∧ m ≤ 9223372036854775807) :
    Calls Try.prog 10 #[.int .u64 bits, .int .i64 m, .bool (decide (z = true))] w (Ret fun v w' => v = .bool true ∧ Upd No w w') := by
  have HU : Upd (fun b => False) w w := Upd.refl _ _
  refine calls_of_W Try.func10 rfl Try.ntmps10 (by simp) ?_
  refine W_seq ?_
  refine W_region ?_
  refine Wl_alloc (cs := [.bool false]) Try.zeroValue4 rfl ?_
  intro B1 w1 hB1 hU1 hzz1 hb1
  have hzw1 := hU1.size
  replace HU := HU.trans0 hU1
  refine Wl_nil ?_
  refine W_seq ?_
  refine W_region ?_
  refine Wl_v (r_as (v := .pointer none) rfl) ?_
  refine Wl_nil ?_
  refine W_seq ?_
  refine W_seq ?_
  refine W_region ?_
  refine Wl_v (r_mv (v := .bool (decide (z = true))) rfl) ?_
  refine Wl_nil ?_
  by_cases q1 : z = true
  · rw [decide_eq_true q1]
    refine W_cond_t rfl ?_
    refine W_region ?_
    refine Wl_v (r_build (pl := #[(0, 1), (1, 1), (2, 1)]) (pv := []) (cs := #[.slice none 0 0, .int .i64 0, .slice none 0 0]) Try.zeroValue67 Try.underlying67 (fun w => by kernel_rfl) (by simp only [List.map_toArray, List.map_cons, List.map_nil] <;> rfl) (by kernel_rfl)) ?_
    refine Wl_box (v := .agg #[.slice none 0 0, .int .i64 0, .slice none 0 0]) (cs := [.slice none 0 0, .int .i64 0, .slice none 0 0]) rfl rfl ?_
    intro B2 w2 hB2 hU2 hzz2 hb2
    have hzw2 := hU2.size
    replace HU := HU.trans0 hU2
    replace hb1 := hb1.upd0 hU2
    refine Wl_v (r_as (v := .pointer (some ⟨B2, 0, none⟩)) rfl) ?_
    refine Wl_nil ?_
    refine W_seq ?_
    refine W_region ?_
    refine Wl_v (r_mv (v := .pointer (some ⟨B2, 0, none⟩)) rfl) ?_
    refine Wl_v (r_mv (v := .int .i64 m) rfl) ?_
    refine Wl_call (r_call2 rfl Try.call18 rfl rfl) (at_zero _ hb2) ?_
    rintro v w3 ⟨rfl, hU3⟩
    have hzw3 := hU3.size
    replace HU := HU.trans0 hU3
    replace hb1 := hb1.upd0 hU3
    replace hb2 := hb2.upd0 hU3
    refine Wl_v (r_mv (v := .tuple #[.agg #[.int .i64 0, .int .i64 0], .bool false]) rfl) ?_
    refine Wl_v (r_ext (v := .agg #[.int .i64 0, .int .i64 0]) rfl rfl) ?_
    refine Wl_v (r_ext (v := .bool false) rfl rfl) ?_
    refine Wl_alloc (cs := [.int .i64 0, .int .i64 0]) Try.zeroValue38 rfl ?_
    intro B4 w4 hB4 hU4 hzz4 hb4
    have hzw4 := hU4.size
    replace HU := HU.trans0 hU4
    replace hb1 := hb1.upd0 hU4
    replace hb2 := hb2.upd0 hU4
    refine Wl_storea (off := 0) (vs := [.int .i64 0, .int .i64 0]) (cs' := [.int .i64 0, .int .i64 0]) Try.sizeOf38 rfl rfl rfl (by simp only [List.mem_cons, List.not_mem_nil, or_false, forall_eq_or_imp, forall_eq]; exact ⟨rfl, rfl⟩) hb4 (by simp) rfl ?_
    intro w5 hU5 hzz5 hb4n
    replace hb4 := hb4n; clear hb4n
    have hzw5 := hU5.size
    replace HU := HU.trans1 hU5 (by show (False) ∨ w.heap.size ≤ B4; omega)
    replace hb1 := hb1.upd1 hU5 (by omega)
    replace hb2 := hb2.upd1 hU5 (by omega)
    refine Wl_v (r_as (v := .bool false) rfl) ?_
    refine Wl_nil ?_
    refine W_seq ?_
    refine W_region ?_
    refine Wl_v (r_mv (v := .pointer (some ⟨B2, 0, none⟩)) rfl) ?_
    refine Wl_v (r_mv (v := .int .i64 m) rfl) ?_
    refine Wl_call (r_call2 rfl Try.call24 rfl rfl) (two_zero _ hb2) ?_
    rintro v w6 ⟨rfl, hU6⟩
    have hzw6 := hU6.size
    replace HU := HU.trans0 hU6
    replace hb1 := hb1.upd0 hU6
    replace hb2 := hb2.upd0 hU6
    replace hb4 := hb4.upd0 hU6
    refine Wl_v (r_mv (v := .tuple #[.agg #[.int .i64 0, .int .i64 0, .int .i64 0, .int .i64 0], .bool false]) rfl) ?_
    refine Wl_v (r_ext (v := .agg #[.int .i64 0, .int .i64 0, .int .i64 0, .int .i64 0]) rfl rfl) ?_
    refine Wl_v (r_ext (v := .bool false) rfl rfl) ?_
    refine Wl_alloc (cs := [.int .i64 0, .int .i64 0, .int .i64 0, .int .i64 0]) Try.zeroValue52 rfl ?_
    intro B7 w7 hB7 hU7 hzz7 hb7
    have hzw7 := hU7.size
    replace HU := HU.trans0 hU7
    replace hb1 := hb1.upd0 hU7
    replace hb2 := hb2.upd0 hU7
    replace hb4 := hb4.upd0 hU7
    refine Wl_storea (off := 0) (vs := [.int .i64 0, .int .i64 0, .int .i64 0, .int .i64 0]) (cs' := [.int .i64 0, .int .i64 0, .int .i64 0, .int .i64 0]) Try.sizeOf52 rfl rfl rfl (by simp only [List.mem_cons, List.not_mem_nil, or_false, forall_eq_or_imp, forall_eq]; exact ⟨rfl, rfl, rfl, rfl⟩) hb7 (by simp) rfl ?_
    intro w8 hU8 hzz8 hb7n
    replace hb7 := hb7n; clear hb7n
    have hzw8 := hU8.size
    replace HU := HU.trans1 hU8 (by show (False) ∨ w.heap.size ≤ B7; omega)
    replace hb1 := hb1.upd1 hU8 (by omega)
    replace hb2 := hb2.upd1 hU8 (by omega)
    replace hb4 := hb4.upd1 hU8 (by omega)
    refine Wl_v (r_as (v := .bool false) rfl) ?_
    refine Wl_nil ?_
    refine W_seq ?_
    refine W_region ?_
    refine Wl_v (r_mv (v := .pointer (some ⟨B2, 0, none⟩)) rfl) ?_
    refine Wl_v (r_mv (v := .int .u64 bits) rfl) ?_
    refine Wl_v (r_mv (v := .int .i64 m) rfl) ?_
    refine Wl_call (r_call3 rfl Try.call22 rfl rfl rfl) (dec_zero _ hb2) ?_
    rintro v w9 ⟨rfl, hU9⟩
    have hzw9 := hU9.size
    replace HU := HU.trans0 hU9
    replace hb1 := hb1.upd0 hU9
    replace hb2 := hb2.upd0 hU9
    replace hb4 := hb4.upd0 hU9
    replace hb7 := hb7.upd0 hU9
    refine Wl_v (r_mv (v := .tuple #[.int .i64 0, .int .i64 0, .int .i64 1]) rfl) ?_
    refine Wl_v (r_ext (v := .int .i64 0) rfl rfl) ?_
    refine Wl_v (r_ext (v := .int .i64 0) rfl rfl) ?_
    refine Wl_v (r_ext (v := .int .i64 1) rfl rfl) ?_
    refine Wl_v (r_as (v := .int .i64 0) rfl) ?_
    refine Wl_v (r_as (v := .int .i64 0) rfl) ?_
    refine Wl_v (r_as (v := .int .i64 1) rfl) ?_
    refine Wl_nil ?_
    refine W_seq ?_
    refine W_region ?_
    refine Wl_v (r_mv (v := .pointer (some ⟨B2, 0, none⟩)) rfl) ?_
    refine Wl_call (r_call1 rfl Try.call27 rfl) (runs_spec _ ) ?_
    rintro v w10 ⟨B10, rfl, hB10, hBg_10, hU10⟩
    have hzw10 := hU10.size
    replace HU := HU.trans0 hU10
    replace hb1 := hb1.upd0 hU10
    replace hb2 := hb2.upd0 hU10
    replace hb4 := hb4.upd0 hU10
    replace hb7 := hb7.upd0 hU10
    have hbl_hB10 := hB10.lt
    refine Wl_v (r_as (v := .func (.func 40) #[] #[.pointer (some ⟨B10, 0, none⟩)]) rfl) ?_
    refine Wl_nil ?_
    refine W_seq ?_
    refine W_seq ?_
    refine W_region ?_
    refine Wl_v (r_mv (v := .func (.func 40) #[] #[.pointer (some ⟨B10, 0, none⟩)]) rfl) ?_
    refine Wl_v (r_eqfn_s Try.underlying59 rfl rfl) ?_
    refine Wl_nil ?_
    refine W_cond_f rfl ?_
    refine W_skip ?_
    refine W_seq ?_
    refine W_seq ?_
    refine W_region ?_
    refine Wl_v (r_mv (v := .func (.func 40) #[] #[.pointer (some ⟨B10, 0, none⟩)]) rfl) ?_
    refine Wl_nil ?_
    refine W_block ?_
    refine W_range (gf := 40) (ar := fun y => #[y, .pointer (some ⟨B10, 0, none⟩)]) rfl Try.call40 (fun y => by simp) ?_
    intro D11 fn11 w11 hD11 hU11 hzz11 hdf11 hrc110
    have hzw11 := hU11.size
    replace HU := HU.trans0 hU11
    replace hb1 := hb1.upd0 hU11
    replace hb2 := hb2.upd0 hU11
    replace hb4 := hb4.upd0 hU11
    replace hb7 := hb7.upd0 hU11
    replace hB10 := hB10.upd0 hU11
    obtain ⟨r11, hr11, hrc11⟩ : ∃ r, r = _ ∧ Rec w11 (D11 + 1) r := ⟨_, rfl, hrc110⟩
    clear hrc110
    obtain ⟨J11, hJ11⟩ : ∃ J : Nat → World → Prop, ∀ i w', J i w' ↔ (Rec w' (D11 + 1) r11 ∧ Dfr w' D11 ∧ Blk w' B1 [.bool false] ∧ Blk w' B2 [.slice none 0 0, .int .i64 0, .slice none 0 0] ∧ Blk w' B4 [.int .i64 0, .int .i64 0] ∧ Blk w' B7 [.int .i64 0, .int .i64 0, .int .i64 0, .int .i64 0] ∧ Blk w' B10 [.pointer (some ⟨B2, 0, none⟩)] ∧ Upd No w w') := ⟨_, fun _ _ => Iff.rfl⟩
    obtain ⟨Jx11, hJx11⟩ : ∃ Jx : World → Prop, ∀ w', Jx w' ↔ (False) := ⟨_, fun _ => Iff.rfl⟩
    refine (runs1_emp (J := J11) (Jx := Jx11) w11 (runs1_zero w11 hB10 hb2) ?_ ?_ ?_).mono ?_
    · exact (hJ11 _ _).2 ⟨hrc11, hdf11, hb1, hb2, hb4, hb7, hB10, HU⟩
    · intro i wa wb hh hUs
      obtain ⟨hrc11, hdf11, hb1, hb2, hb4, hb7, hB10, HU⟩ := (hJ11 _ _).1 hh
      replace hrc11 := hrc11.upd0 hUs
      replace hdf11 := hdf11.upd0 hUs
      replace hb1 := hb1.upd0 hUs
      replace hb2 := hb2.upd0 hUs
      replace hb4 := hb4.upd0 hUs
      replace hb7 := hb7.upd0 hUs
      replace hB10 := hB10.upd0 hUs
      replace HU := HU.trans0 hUs
      exact (hJ11 _ _).2 ⟨hrc11, hdf11, hb1, hb2, hb4, hb7, hB10, HU⟩
    · intro i12 w12 hi12 hh
      obtain ⟨hrc11, hdf11, hb1, hb2, hb4, hb7, hB10, HU⟩ := (hJ11 _ _).1 hh
      have hrl11 := hrc11.lt
      omega
    rintro e w13 ⟨v, rfl, hh | hh⟩
    · obtain ⟨hrc11, hdf11, hb1, hb2, hb4, hb7, hB10, HU⟩ := (hJ11 _ _).1 hh
      have hrl11 := hrc11.lt
      refine ⟨r11, hrc11, (by rw [hr11]; simp), ?_⟩
      intro w14 hU14 hzz14
      have hzw14 := hU14.size
      replace hdf11 := hdf11.upd1 hU14 (by omega)
      replace hb1 := hb1.upd1 hU14 (by omega)
      replace hb2 := hb2.upd1 hU14 (by omega)
      replace hb4 := hb4.upd1 hU14 (by omega)
      replace hb7 := hb7.upd1 hU14 (by omega)
      replace hB10 := hB10.upd1 hU14 (by omega)
      replace HU := HU.trans1 hU14 (by show (False) ∨ w.heap.size ≤ (D11 + 1); omega)
      rw [hr11]
      refine W_seq ?_
      refine W_region ?_
      refine Wl_v (r_mv (v := .bool false) rfl) ?_
      refine Wl_v (r_not (b := false) rfl) ?_
      refine Wl_v (r_mv (v := .bool true) rfl) ?_
      refine Wl_guard_t rfl ?_
      refine Wl_v (r_mv (v := .bool false) rfl) ?_
      refine Wl_guard_t rfl ?_
      refine Wl_v (r_not (b := false) rfl) ?_
      refine Wl_v (r_pick_t (v := .bool true) rfl rfl) ?_
      refine Wl_v (r_mv (v := .bool true) rfl) ?_
      refine Wl_guard_t rfl ?_
      refine Wl_v (r_mv (v := .int .i64 0) rfl) ?_
      refine Wl_guard_t rfl ?_
      refine Wl_v (r_mv (v := .int .i64 0) rfl) ?_
      refine Wl_guard_t rfl ?_
      refine Wl_v (r_add rfl rfl (show IntKind.i64.wrap (0 + 0) = 0 by decide)) ?_
      refine Wl_guard_t rfl ?_
      refine Wl_v (v := .bool true) (r_eq (a := 0) (b := 0) rfl rfl) ?_
      refine Wl_v (r_pick_t (v := .bool true) rfl rfl) ?_
      refine Wl_v (r_mv (v := .bool true) rfl) ?_
      refine Wl_guard_t rfl ?_
      refine Wl_v (r_mv (v := .int .i64 1) rfl) ?_
      refine Wl_guard_t rfl ?_
      refine Wl_call (r_call1 rfl Try.call15 rfl) (num15 _ ) ?_
      rintro v w15 ⟨rfl, hU15⟩
      have hzw15 := hU15.size
      replace hdf11 := hdf11.upd0 hU15
      replace hb1 := hb1.upd0 hU15
      replace hb2 := hb2.upd0 hU15
      replace hb4 := hb4.upd0 hU15
      replace hb7 := hb7.upd0 hU15
      replace hB10 := hB10.upd0 hU15
      replace HU := HU.trans0 hU15
      refine Wl_guard_t rfl ?_
      refine Wl_v (v := .bool true) (r_eq (a := 1) (b := 1) rfl rfl) ?_
      refine Wl_v (r_pick_t (v := .bool true) rfl rfl) ?_
      refine Wl_v (r_mv (v := .bool true) rfl) ?_
      refine Wl_guard_t rfl ?_
      refine Wl_v (r_mv (v := .pointer (some ⟨B2, 0, none⟩)) rfl) ?_
      refine Wl_guard_t rfl ?_
      refine Wl_call (r_call1 rfl Try.call20 rfl) (bits_zero _ hb2) ?_
      rintro v w16 ⟨rfl, hU16⟩
      have hzw16 := hU16.size
      replace hdf11 := hdf11.upd0 hU16
      replace hb1 := hb1.upd0 hU16
      replace hb2 := hb2.upd0 hU16
      replace hb4 := hb4.upd0 hU16
      replace hb7 := hb7.upd0 hU16
      replace hB10 := hB10.upd0 hU16
      replace HU := HU.trans0 hU16
      refine Wl_guard_t rfl ?_
      refine Wl_v (v := .bool true) (r_eq (a := 0) (b := 0) rfl rfl) ?_
      refine Wl_v (r_pick_t (v := .bool true) rfl rfl) ?_
      refine Wl_v (r_mv (v := .bool true) rfl) ?_
      refine Wl_guard_t rfl ?_
      refine Wl_v (r_mv (v := .pointer (some ⟨B2, 0, none⟩)) rfl) ?_
      refine Wl_guard_t rfl ?_
      refine Wl_call (r_call1 rfl Try.call30 rfl) (lens_zero _ hb2) ?_
      rintro v w17 ⟨rfl, hU17⟩
      have hzw17 := hU17.size
      replace hdf11 := hdf11.upd0 hU17
      replace hb1 := hb1.upd0 hU17
      replace hb2 := hb2.upd0 hU17
      replace hb4 := hb4.upd0 hU17
      replace hb7 := hb7.upd0 hU17
      replace hB10 := hB10.upd0 hU17
      replace HU := HU.trans0 hU17
      refine Wl_guard_t rfl ?_
      refine Wl_v (r_len Try.underlying22 rfl) ?_
      refine Wl_guard_t rfl ?_
      refine Wl_v (v := .bool true) (r_eq (a := 0) (b := 0) rfl rfl) ?_
      refine Wl_v (r_pick_t (v := .bool true) rfl rfl) ?_
      refine Wl_v (r_mv (v := .bool true) rfl) ?_
      refine Wl_guard_t rfl ?_
      refine Wl_v (r_mv (v := .pointer (some ⟨B2, 0, none⟩)) rfl) ?_
      refine Wl_guard_t rfl ?_
      refine Wl_call (r_call2 rfl Try.call29 rfl rfl) (eq_zn _ hb2) ?_
      rintro v w18 ⟨rfl, hU18⟩
      have hzw18 := hU18.size
      replace hdf11 := hdf11.upd0 hU18
      replace hb1 := hb1.upd0 hU18
      replace hb2 := hb2.upd0 hU18
      replace hb4 := hb4.upd0 hU18
      replace hb7 := hb7.upd0 hU18
      replace hB10 := hB10.upd0 hU18
      replace HU := HU.trans0 hU18
      refine Wl_v (r_pick_t (v := .bool true) rfl rfl) ?_
      refine Wl_v (r_mv (v := .bool true) rfl) ?_
      refine Wl_guard_t rfl ?_
      refine Wl_call (r_call0 rfl Try.call11 ) (works15 _ ) ?_
      rintro v w19 ⟨rfl, hU19⟩
      have hzw19 := hU19.size
      replace hdf11 := hdf11.upd0 hU19
      replace hb1 := hb1.upd0 hU19
      replace hb2 := hb2.upd0 hU19
      replace hb4 := hb4.upd0 hU19
      replace hb7 := hb7.upd0 hU19
      replace hB10 := hB10.upd0 hU19
      replace HU := HU.trans0 hU19
      refine Wl_v (r_pick_t (v := .bool true) rfl rfl) ?_
      refine Wl_store (v := .bool true) (cs' := [.bool true]) Try.sizeOf4 rfl rfl rfl rfl hb1 rfl rfl ?_
      intro w20 hU20 hzz20 hb1n
      replace hb1 := hb1n; clear hb1n
      have hzw20 := hU20.size
      replace hdf11 := hdf11.upd1 hU20 (by omega)
      replace hb2 := hb2.upd1 hU20 (by omega)
      replace hb4 := hb4.upd1 hU20 (by omega)
      replace hb7 := hb7.upd1 hU20 (by omega)
      replace hB10 := hB10.upd1 hU20 (by omega)
      replace HU := HU.trans1 hU20 (by show (False) ∨ w.heap.size ≤ B1; omega)
      refine Wl_nil ?_
      refine W_ret ?_
      refine ret_ds rfl ?_
      refine lv_mark (by simp) hdf11 ?_
      intro w21 hU21 hzz21
      have hzw21 := hU21.size
      replace hb1 := hb1.upd1 hU21 (by omega)
      replace hb2 := hb2.upd1 hU21 (by omega)
      replace hb4 := hb4.upd1 hU21 (by omega)
      replace hb7 := hb7.upd1 hU21 (by omega)
      replace hB10 := hB10.upd1 hU21 (by omega)
      replace HU := HU.trans1 hU21 (by show (False) ∨ w.heap.size ≤ D11; omega)
      refine lv_nil (v := .bool true) (rc1 Try.results10 rfl (cellIs Try.isAgg4 hb1)) ?_
      exact ⟨_, rfl, rfl, HU⟩
    · exact ((hJx11 _).1 hh).elim
  · rw [decide_eq_false q1]
    refine W_cond_f rfl ?_
    refine W_skip ?_
    refine W_seq ?_
    refine W_region ?_
    refine Wl_v (r_mv (v := .pointer none) rfl) ?_
    refine Wl_v (r_mv (v := .int .i64 m) rfl) ?_
    refine Wl_call (r_call2 rfl Try.call18 rfl rfl) (at_nil _ ) ?_
    rintro v w22 ⟨rfl, hU22⟩
    have hzw22 := hU22.size
    replace HU := HU.trans0 hU22
    replace hb1 := hb1.upd0 hU22
    refine Wl_v (r_mv (v := .tuple #[.agg #[.int .i64 0, .int .i64 0], .bool false]) rfl) ?_
    refine Wl_v (r_ext (v := .agg #[.int .i64 0, .int .i64 0]) rfl rfl) ?_
    refine Wl_v (r_ext (v := .bool false) rfl rfl) ?_
    refine Wl_alloc (cs := [.int .i64 0, .int .i64 0]) Try.zeroValue38 rfl ?_
    intro B23 w23 hB23 hU23 hzz23 hb23
    have hzw23 := hU23.size
    replace HU := HU.trans0 hU23
    replace hb1 := hb1.upd0 hU23
    refine Wl_storea (off := 0) (vs := [.int .i64 0, .int .i64 0]) (cs' := [.int .i64 0, .int .i64 0]) Try.sizeOf38 rfl rfl rfl (by simp only [List.mem_cons, List.not_mem_nil, or_false, forall_eq_or_imp, forall_eq]; exact ⟨rfl, rfl⟩) hb23 (by simp) rfl ?_
    intro w24 hU24 hzz24 hb23n
    replace hb23 := hb23n; clear hb23n
    have hzw24 := hU24.size
    replace HU := HU.trans1 hU24 (by show (False) ∨ w.heap.size ≤ B23; omega)
    replace hb1 := hb1.upd1 hU24 (by omega)
    refine Wl_v (r_as (v := .bool false) rfl) ?_
    refine Wl_nil ?_
    refine W_seq ?_
    refine W_region ?_
    refine Wl_v (r_mv (v := .pointer none) rfl) ?_
    refine Wl_v (r_mv (v := .int .i64 m) rfl) ?_
    refine Wl_call (r_call2 rfl Try.call24 rfl rfl) (two_nil _ ) ?_
    rintro v w25 ⟨rfl, hU25⟩
    have hzw25 := hU25.size
    replace HU := HU.trans0 hU25
    replace hb1 := hb1.upd0 hU25
    replace hb23 := hb23.upd0 hU25
    refine Wl_v (r_mv (v := .tuple #[.agg #[.int .i64 0, .int .i64 0, .int .i64 0, .int .i64 0], .bool false]) rfl) ?_
    refine Wl_v (r_ext (v := .agg #[.int .i64 0, .int .i64 0, .int .i64 0, .int .i64 0]) rfl rfl) ?_
    refine Wl_v (r_ext (v := .bool false) rfl rfl) ?_
    refine Wl_alloc (cs := [.int .i64 0, .int .i64 0, .int .i64 0, .int .i64 0]) Try.zeroValue52 rfl ?_
    intro B26 w26 hB26 hU26 hzz26 hb26
    have hzw26 := hU26.size
    replace HU := HU.trans0 hU26
    replace hb1 := hb1.upd0 hU26
    replace hb23 := hb23.upd0 hU26
    refine Wl_storea (off := 0) (vs := [.int .i64 0, .int .i64 0, .int .i64 0, .int .i64 0]) (cs' := [.int .i64 0, .int .i64 0, .int .i64 0, .int .i64 0]) Try.sizeOf52 rfl rfl rfl (by simp only [List.mem_cons, List.not_mem_nil, or_false, forall_eq_or_imp, forall_eq]; exact ⟨rfl, rfl, rfl, rfl⟩) hb26 (by simp) rfl ?_
    intro w27 hU27 hzz27 hb26n
    replace hb26 := hb26n; clear hb26n
    have hzw27 := hU27.size
    replace HU := HU.trans1 hU27 (by show (False) ∨ w.heap.size ≤ B26; omega)
    replace hb1 := hb1.upd1 hU27 (by omega)
    replace hb23 := hb23.upd1 hU27 (by omega)
    refine Wl_v (r_as (v := .bool false) rfl) ?_
    refine Wl_nil ?_
    refine W_seq ?_
    refine W_region ?_
    refine Wl_v (r_mv (v := .pointer none) rfl) ?_
    refine Wl_v (r_mv (v := .int .u64 bits) rfl) ?_
    refine Wl_v (r_mv (v := .int .i64 m) rfl) ?_
    refine Wl_call (r_call3 rfl Try.call22 rfl rfl rfl) (dec_nil _ ) ?_
    rintro v w28 ⟨rfl, hU28⟩
    have hzw28 := hU28.size
    replace HU := HU.trans0 hU28
    replace hb1 := hb1.upd0 hU28
    replace hb23 := hb23.upd0 hU28
    replace hb26 := hb26.upd0 hU28
    refine Wl_v (r_mv (v := .tuple #[.int .i64 0, .int .i64 0, .int .i64 1]) rfl) ?_
    refine Wl_v (r_ext (v := .int .i64 0) rfl rfl) ?_
    refine Wl_v (r_ext (v := .int .i64 0) rfl rfl) ?_
    refine Wl_v (r_ext (v := .int .i64 1) rfl rfl) ?_
    refine Wl_v (r_as (v := .int .i64 0) rfl) ?_
    refine Wl_v (r_as (v := .int .i64 0) rfl) ?_
    refine Wl_v (r_as (v := .int .i64 1) rfl) ?_
    refine Wl_nil ?_
    refine W_seq ?_
    refine W_region ?_
    refine Wl_v (r_mv (v := .pointer none) rfl) ?_
    refine Wl_call (r_call1 rfl Try.call27 rfl) (runs_nil _ ) ?_
    rintro v w29 ⟨B29, rfl, hB29, hBg_29, hU29⟩
    have hzw29 := hU29.size
    replace HU := HU.trans0 hU29
    replace hb1 := hb1.upd0 hU29
    replace hb23 := hb23.upd0 hU29
    replace hb26 := hb26.upd0 hU29
    have hbl_hB29 := hB29.lt
    refine Wl_v (r_as (v := .func (.func 40) #[] #[.pointer (some ⟨B29, 0, none⟩)]) rfl) ?_
    refine Wl_nil ?_
    refine W_seq ?_
    refine W_seq ?_
    refine W_region ?_
    refine Wl_v (r_mv (v := .func (.func 40) #[] #[.pointer (some ⟨B29, 0, none⟩)]) rfl) ?_
    refine Wl_v (r_eqfn_s Try.underlying59 rfl rfl) ?_
    refine Wl_nil ?_
    refine W_cond_f rfl ?_
    refine W_skip ?_
    refine W_seq ?_
    refine W_seq ?_
    refine W_region ?_
    refine Wl_v (r_mv (v := .func (.func 40) #[] #[.pointer (some ⟨B29, 0, none⟩)]) rfl) ?_
    refine Wl_nil ?_
    refine W_block ?_
    refine W_range (gf := 40) (ar := fun y => #[y, .pointer (some ⟨B29, 0, none⟩)]) rfl Try.call40 (fun y => by simp) ?_
    intro D30 fn30 w30 hD30 hU30 hzz30 hdf30 hrc300
    have hzw30 := hU30.size
    replace HU := HU.trans0 hU30
    replace hb1 := hb1.upd0 hU30
    replace hb23 := hb23.upd0 hU30
    replace hb26 := hb26.upd0 hU30
    replace hB29 := hB29.upd0 hU30
    obtain ⟨r30, hr30, hrc30⟩ : ∃ r, r = _ ∧ Rec w30 (D30 + 1) r := ⟨_, rfl, hrc300⟩
    clear hrc300
    obtain ⟨J30, hJ30⟩ : ∃ J : Nat → World → Prop, ∀ i w', J i w' ↔ (Rec w' (D30 + 1) r30 ∧ Dfr w' D30 ∧ Blk w' B1 [.bool false] ∧ Blk w' B23 [.int .i64 0, .int .i64 0] ∧ Blk w' B26 [.int .i64 0, .int .i64 0, .int .i64 0, .int .i64 0] ∧ Blk w' B29 [.pointer none] ∧ Upd No w w') := ⟨_, fun _ _ => Iff.rfl⟩
    obtain ⟨Jx30, hJx30⟩ : ∃ Jx : World → Prop, ∀ w', Jx w' ↔ (False) := ⟨_, fun _ => Iff.rfl⟩
    refine (runs1_emp (J := J30) (Jx := Jx30) w30 (runs1_nil w30 hB29) ?_ ?_ ?_).mono ?_
    · exact (hJ30 _ _).2 ⟨hrc30, hdf30, hb1, hb23, hb26, hB29, HU⟩
    · intro i wa wb hh hUs
      obtain ⟨hrc30, hdf30, hb1, hb23, hb26, hB29, HU⟩ := (hJ30 _ _).1 hh
      replace hrc30 := hrc30.upd0 hUs
      replace hdf30 := hdf30.upd0 hUs
      replace hb1 := hb1.upd0 hUs
      replace hb23 := hb23.upd0 hUs
      replace hb26 := hb26.upd0 hUs
      replace hB29 := hB29.upd0 hUs
      replace HU := HU.trans0 hUs
      exact (hJ30 _ _).2 ⟨hrc30, hdf30, hb1, hb23, hb26, hB29, HU⟩
    · intro i31 w31 hi31 hh
      obtain ⟨hrc30, hdf30, hb1, hb23, hb26, hB29, HU⟩ := (hJ30 _ _).1 hh
      have hrl30 := hrc30.lt
      omega
    rintro e w32 ⟨v, rfl, hh | hh⟩
    · obtain ⟨hrc30, hdf30, hb1, hb23, hb26, hB29, HU⟩ := (hJ30 _ _).1 hh
      have hrl30 := hrc30.lt
      refine ⟨r30, hrc30, (by rw [hr30]; simp), ?_⟩
      intro w33 hU33 hzz33
      have hzw33 := hU33.size
      replace hdf30 := hdf30.upd1 hU33 (by omega)
      replace hb1 := hb1.upd1 hU33 (by omega)
      replace hb23 := hb23.upd1 hU33 (by omega)
      replace hb26 := hb26.upd1 hU33 (by omega)
      replace hB29 := hB29.upd1 hU33 (by omega)
      replace HU := HU.trans1 hU33 (by show (False) ∨ w.heap.size ≤ (D30 + 1); omega)
      rw [hr30]
      refine W_seq ?_
      refine W_region ?_
      refine Wl_v (r_mv (v := .bool false) rfl) ?_
      refine Wl_v (r_not (b := false) rfl) ?_
      refine Wl_v (r_mv (v := .bool true) rfl) ?_
      refine Wl_guard_t rfl ?_
      refine Wl_v (r_mv (v := .bool false) rfl) ?_
      refine Wl_guard_t rfl ?_
      refine Wl_v (r_not (b := false) rfl) ?_
      refine Wl_v (r_pick_t (v := .bool true) rfl rfl) ?_
      refine Wl_v (r_mv (v := .bool true) rfl) ?_
      refine Wl_guard_t rfl ?_
      refine Wl_v (r_mv (v := .int .i64 0) rfl) ?_
      refine Wl_guard_t rfl ?_
      refine Wl_v (r_mv (v := .int .i64 0) rfl) ?_
      refine Wl_guard_t rfl ?_
      refine Wl_v (r_add rfl rfl (show IntKind.i64.wrap (0 + 0) = 0 by decide)) ?_
      refine Wl_guard_t rfl ?_
      refine Wl_v (v := .bool true) (r_eq (a := 0) (b := 0) rfl rfl) ?_
      refine Wl_v (r_pick_t (v := .bool true) rfl rfl) ?_
      refine Wl_v (r_mv (v := .bool true) rfl) ?_
      refine Wl_guard_t rfl ?_
      refine Wl_v (r_mv (v := .int .i64 1) rfl) ?_
      refine Wl_guard_t rfl ?_
      refine Wl_call (r_call1 rfl Try.call15 rfl) (num15 _ ) ?_
      rintro v w34 ⟨rfl, hU34⟩
      have hzw34 := hU34.size
      replace hdf30 := hdf30.upd0 hU34
      replace hb1 := hb1.upd0 hU34
      replace hb23 := hb23.upd0 hU34
      replace hb26 := hb26.upd0 hU34
      replace hB29 := hB29.upd0 hU34
      replace HU := HU.trans0 hU34
      refine Wl_guard_t rfl ?_
      refine Wl_v (v := .bool true) (r_eq (a := 1) (b := 1) rfl rfl) ?_
      refine Wl_v (r_pick_t (v := .bool true) rfl rfl) ?_
      refine Wl_v (r_mv (v := .bool true) rfl) ?_
      refine Wl_guard_t rfl ?_
      refine Wl_v (r_mv (v := .pointer none) rfl) ?_
      refine Wl_guard_t rfl ?_
      refine Wl_call (r_call1 rfl Try.call20 rfl) (bits_nil _ ) ?_
      rintro v w35 ⟨rfl, hU35⟩
      have hzw35 := hU35.size
      replace hdf30 := hdf30.upd0 hU35
      replace hb1 := hb1.upd0 hU35
      replace hb23 := hb23.upd0 hU35
      replace hb26 := hb26.upd0 hU35
      replace hB29 := hB29.upd0 hU35
      replace HU := HU.trans0 hU35
      refine Wl_guard_t rfl ?_
      refine Wl_v (v := .bool true) (r_eq (a := 0) (b := 0) rfl rfl) ?_
      refine Wl_v (r_pick_t (v := .bool true) rfl rfl) ?_
      refine Wl_v (r_mv (v := .bool true) rfl) ?_
      refine Wl_guard_t rfl ?_
      refine Wl_v (r_mv (v := .pointer none) rfl) ?_
      refine Wl_guard_t rfl ?_
      refine Wl_call (r_call1 rfl Try.call30 rfl) (lens_nil _ ) ?_
      rintro v w36 ⟨rfl, hU36⟩
      have hzw36 := hU36.size
      replace hdf30 := hdf30.upd0 hU36
      replace hb1 := hb1.upd0 hU36
      replace hb23 := hb23.upd0 hU36
      replace hb26 := hb26.upd0 hU36
      replace hB29 := hB29.upd0 hU36
      replace HU := HU.trans0 hU36
      refine Wl_guard_t rfl ?_
      refine Wl_v (r_len Try.underlying22 rfl) ?_
      refine Wl_guard_t rfl ?_
      refine Wl_v (v := .bool true) (r_eq (a := 0) (b := 0) rfl rfl) ?_
      refine Wl_v (r_pick_t (v := .bool true) rfl rfl) ?_
      refine Wl_v (r_mv (v := .bool true) rfl) ?_
      refine Wl_guard_t rfl ?_
      refine Wl_v (r_mv (v := .pointer none) rfl) ?_
      refine Wl_guard_t rfl ?_
      refine Wl_call (r_call2 rfl Try.call29 rfl rfl) (eq_nn _ ) ?_
      rintro v w37 ⟨rfl, hU37⟩
      have hzw37 := hU37.size
      replace hdf30 := hdf30.upd0 hU37
      replace hb1 := hb1.upd0 hU37
      replace hb23 := hb23.upd0 hU37
      replace hb26 := hb26.upd0 hU37
      replace hB29 := hB29.upd0 hU37
      replace HU := HU.trans0 hU37
      refine Wl_v (r_pick_t (v := .bool true) rfl rfl) ?_
      refine Wl_v (r_mv (v := .bool true) rfl) ?_
      refine Wl_guard_t rfl ?_
      refine Wl_call (r_call0 rfl Try.call11 ) (works15 _ ) ?_
      rintro v w38 ⟨rfl, hU38⟩
      have hzw38 := hU38.size
      replace hdf30 := hdf30.upd0 hU38
      replace hb1 := hb1.upd0 hU38
      replace hb23 := hb23.upd0 hU38
      replace hb26 := hb26.upd0 hU38
      replace hB29 := hB29.upd0 hU38
      replace HU := HU.trans0 hU38
      refine Wl_v (r_pick_t (v := .bool true) rfl rfl) ?_
      refine Wl_store (v := .bool true) (cs' := [.bool true]) Try.sizeOf4 rfl rfl rfl rfl hb1 rfl rfl ?_
      intro w39 hU39 hzz39 hb1n
      replace hb1 := hb1n; clear hb1n
      have hzw39 := hU39.size
      replace hdf30 := hdf30.upd1 hU39 (by omega)
      replace hb23 := hb23.upd1 hU39 (by omega)
      replace hb26 := hb26.upd1 hU39 (by omega)
      replace hB29 := hB29.upd1 hU39 (by omega)
      replace HU := HU.trans1 hU39 (by show (False) ∨ w.heap.size ≤ B1; omega)
      refine Wl_nil ?_
      refine W_ret ?_
      refine ret_ds rfl ?_
      refine lv_mark (by simp) hdf30 ?_
      intro w40 hU40 hzz40
      have hzw40 := hU40.size
      replace hb1 := hb1.upd1 hU40 (by omega)
      replace hb23 := hb23.upd1 hU40 (by omega)
      replace hb26 := hb26.upd1 hU40 (by omega)
      replace hB29 := hB29.upd1 hU40 (by omega)
      replace HU := HU.trans1 hU40 (by show (False) ∨ w.heap.size ≤ D30; omega)
      refine lv_nil (v := .bool true) (rc1 Try.results10 rfl (cellIs Try.isAgg4 hb1)) ?_
      exact ⟨_, rfl, rfl, HU⟩
    · exact ((hJx30 _).1 hh).elim

set_option maxHeartbeats 4000000 in
set_option maxRecDepth 100000 in
theorem lookupsames {a b : Option Addr} {n c m d : Nat} {l l2 : List Int} (w : World) (hs : Sl w (fun g => g < w.heap.size) 1 (.slice a n c) n (ints .i64 l)) (hn : n ≤ 17592186044415) (hs2 : Sl w (fun g => g < w.heap.size) 1 (.slice b m d) m (ints .i64 l2)) (hn2 : m ≤ 17592186044415) :
    Calls Try.prog 9 #[.slice a n c, .slice b m d] w (Ret fun v w' => v = .bool true ∧ Upd No w w') := by
  have HU : Upd (fun b => False) w w := Upd.refl _ _
  have hl_hs := ilen hs
  have hc_hs := hs.cap.1
  have hl_hs2 := ilen hs2
  have hc_hs2 := hs2.cap.1
  have hmx := mx_bt l
  refine calls_of_W Try.func9 rfl Try.ntmps9 (by simp) ?_
  refine W_seq ?_
  refine W_region ?_
  refine Wl_v (r_as (v := .bool false) rfl) ?_
  refine Wl_nil ?_
  refine W_seq ?_
  refine W_seq ?_
  refine W_region ?_
  refine Wl_v (r_mv (v := .slice a n c) rfl) ?_
  refine Wl_v (r_len Try.underlying22 rfl) ?_
  refine Wl_v (r_gt rfl rfl) ?_
  refine Wl_v (r_mv (v := .bool (decide (300 < ((n : Nat) : Int)))) rfl) ?_
  by_cases q1 : 300 < ((n : Nat) : Int)
  · rw [decide_eq_true q1]
    refine Wl_guard_f rfl ?_
    refine Wl_guard_f rfl ?_
    refine Wl_guard_f rfl ?_
    refine Wl_v (r_pick_t (v := .bool true) rfl rfl) ?_
    refine Wl_nil ?_
    refine W_cond_t rfl ?_
    refine W_seq ?_
    refine W_region ?_
    refine Wl_call (r_call0 rfl Try.call11 ) (works15 _ ) ?_
    rintro v w1 ⟨rfl, hU1⟩
    have hzw1 := hU1.size
    replace hs := hs.upd0 hU1
    replace hs2 := hs2.upd0 hU1
    replace HU := HU.trans0 hU1
    refine Wl_v (r_as (v := .bool true) rfl) ?_
    refine Wl_nil ?_
    refine W_ret ?_
    refine ret_end (v := .bool true) rfl (res1 Try.results9 rfl) ?_
    exact ⟨_, rfl, rfl, HU⟩
  · rw [decide_eq_false q1]
    refine Wl_guard_t rfl ?_
    refine Wl_v (r_mv (v := .slice b m d) rfl) ?_
    refine Wl_guard_t rfl ?_
    refine Wl_v (r_len Try.underlying22 rfl) ?_
    refine Wl_guard_t rfl ?_
    refine Wl_v (r_gt rfl rfl) ?_
    refine Wl_v (r_pick_f (v := .bool (decide (300 < ((m : Nat) : Int)))) rfl rfl) ?_
    refine Wl_nil ?_
    by_cases q2 : 300 < ((m : Nat) : Int)
    · rw [decide_eq_true q2]
      refine W_cond_t rfl ?_
      refine W_seq ?_
      refine W_region ?_
      refine Wl_call (r_call0 rfl Try.call11 ) (works15 _ ) ?_
      rintro v w2 ⟨rfl, hU2⟩
      have hzw2 := hU2.size
      replace hs := hs.upd0 hU2
      replace hs2 := hs2.upd0 hU2
      replace HU := HU.trans0 hU2
      refine Wl_v (r_as (v := .bool true) rfl) ?_
      refine Wl_nil ?_
      refine W_ret ?_
      refine ret_end (v := .bool true) rfl (res1 Try.results9 rfl) ?_
      exact ⟨_, rfl, rfl, HU⟩
    · rw [decide_eq_false q2]
      refine W_cond_f rfl ?_
      refine W_skip ?_
      refine W_seq ?_
      refine W_region ?_
      refine Wl_lit0 Try.underlying22 Try.sizeOf3 ?_
      intro B3 w3 hB3 hU3 hzz3 hs3
      have hzw3 := hU3.size
      replace hs := hs.upd0 hU3
      replace hs2 := hs2.upd0 hU3
      replace HU := HU.trans0 hU3
      refine Wl_v (r_mv (v := .slice a n c) rfl) ?_
      refine Wl_appendi (xs := []) (ys := l) (zs := l) (k' := .i64) (tot := n) (by first | rfl | exact (rows_app _ _).symm | simp) Try.underlying22 (ti := Try.t3) (z := .int .i64 0) (sz := 1) (by' := 8) rfl rfl rfl rfl rfl (by decide) rfl hs3 rfl hs  (by omega) (by simp only [maxLen]; omega) (by omega) ?_
      intro a4 c4 w4 hU4 hzz4 hO4
      clear hs3
      have hzw4 := hU4.size
      replace hs := hs.upd hU4 (by intro x h1 h2; have h3 : x < w.heap.size := h1; have h4 : x = B3 := h2; omega)
      replace hs2 := hs2.upd hU4 (by intro x h1 h2; have h3 : x < w.heap.size := h1; have h4 : x = B3 := h2; omega)
      replace HU := HU.trans hU4 (by intro x hx; have hx2 : x = B3 := hx; show (False) ∨ w.heap.size ≤ x; omega)
      replace hO4 := hO4.tight
      have hl_hO4 := ilen hO4.sl
      have hc_hO4 := hO4.sl.cap.1
      refine Wl_v (r_as (v := .slice a4 n c4) rfl) ?_
      refine Wl_nil ?_
      refine W_seq ?_
      refine W_region ?_
      refine Wl_v (r_mv (v := .slice a4 n c4) rfl) ?_
      by_cases q3 : Rt l
      · have hbt_q3 := bt_bd q3
        have h256_q3 := (q3).2.1
        refine Wl_call (r_call1 rfl Try.call17 rfl) (new_ok _ hO4.sl (by omega) q3) ?_
        rintro v w5 ⟨tb5, ea5, ec5, la5, lc5, rfl, hT5, hE5, hL5, htg_5, hU5⟩
        have hzw5 := hU5.size
        replace hs := hs.upd0 hU5
        replace hs2 := hs2.upd0 hU5
        replace HU := HU.trans0 hU5
        replace hO4 := hO4.upd0 hU5
        have hbl_hT5 := hT5.lt
        replace hE5 := hE5.tight
        have hl_hE5 := rlen encE_len (by decide) hE5.sl
        have hc_hE5 := hE5.sl.cap.1
        replace hL5 := hL5.tight
        have hl_hL5 := ilen hL5.sl
        have hc_hL5 := hL5.sl.cap.1
        refine Wl_v (r_mv (v := .tuple #[.pointer (some ⟨tb5, 0, none⟩), .int .i64 0]) rfl) ?_
        refine Wl_v (r_ext (v := .pointer (some ⟨tb5, 0, none⟩)) rfl rfl) ?_
        refine Wl_v (r_ext (v := .int .i64 0) rfl rfl) ?_
        refine Wl_v (r_as (v := .pointer (some ⟨tb5, 0, none⟩)) rfl) ?_
        refine Wl_v (r_as (v := .int .i64 0) rfl) ?_
        refine Wl_nil ?_
        refine W_seq ?_
        refine W_region ?_
        refine Wl_v (r_mv (v := .slice b m d) rfl) ?_
        by_cases q4 : Rt l2
        · have hbt_q4 := bt_bd q4
          have h256_q4 := (q4).2.1
          refine Wl_call (r_call1 rfl Try.call17 rfl) (new_ok _ hs2 (by omega) q4) ?_
          rintro v w6 ⟨tb6, ea6, ec6, la6, lc6, rfl, hT6, hE6, hL6, htg_6, hU6⟩
          have hzw6 := hU6.size
          replace hs := hs.upd0 hU6
          replace hs2 := hs2.upd0 hU6
          replace HU := HU.trans0 hU6
          replace hO4 := hO4.upd0 hU6
          replace hT5 := hT5.upd0 hU6
          replace hE5 := hE5.upd0 hU6
          replace hL5 := hL5.upd0 hU6
          have hbl_hT6 := hT6.lt
          replace hE6 := hE6.tight
          have hl_hE6 := rlen encE_len (by decide) hE6.sl
          have hc_hE6 := hE6.sl.cap.1
          replace hL6 := hL6.tight
          have hl_hL6 := ilen hL6.sl
          have hc_hL6 := hL6.sl.cap.1
          refine Wl_v (r_mv (v := .tuple #[.pointer (some ⟨tb6, 0, none⟩), .int .i64 0]) rfl) ?_
          refine Wl_v (r_ext (v := .pointer (some ⟨tb6, 0, none⟩)) rfl rfl) ?_
          refine Wl_v (r_ext (v := .int .i64 0) rfl rfl) ?_
          refine Wl_v (r_as (v := .pointer (some ⟨tb6, 0, none⟩)) rfl) ?_
          refine Wl_v (r_as (v := .int .i64 0) rfl) ?_
          refine Wl_nil ?_
          refine W_seq ?_
          refine W_seq ?_
          refine W_region ?_
          refine Wl_v (r_as (v := .int .i64 0) rfl) ?_
          refine Wl_nil ?_
          refine W_block ?_
          refine W_loop (fun mu ρ ds w' => ∃ (k : Nat) (ys : List Int), n - k = mu ∧ ds = [] ∧ Liv ρ [(0, .slice a n c), (1, .slice b m d), (5, .slice a4 n c4), (6, .pointer (some ⟨tb5, 0, none⟩)), (7, .int .i64 0), (8, .pointer (some ⟨tb6, 0, none⟩)), (9, .int .i64 0), (10, .int .i64 ((k : Nat) : Int))] ∧ k ≤ n ∧ Own w' (fun g => ((((g = B3) ∨ g = w3.heap.size)) ∧ g < w4.heap.size)) 3 1 (.slice a4 n c4) n (ints .i64 ys) ∧ Upd (fun g => ((((g = B3) ∨ g = w3.heap.size)) ∧ g < w4.heap.size)) w6 w') _ ⟨0, l, rfl, rfl, ⟨rfl, rfl, rfl, rfl, rfl, rfl, rfl, (by first | rfl | exact vint (by omega) | exact vint (by simp)), trivial⟩, (by omega), hO4, Upd.refl _ _⟩ ?_
          rintro m7 ρ7 ds7 w7 ⟨k, ys, rfl, rfl, hl7, hk, hO4, hU7⟩
          obtain ⟨ρ7x, rfl⟩ : ∃ ρx, ρ7 = upds ρx [(0, .slice a n c), (1, .slice b m d), (5, .slice a4 n c4), (6, .pointer (some ⟨tb5, 0, none⟩)), (7, .int .i64 0), (8, .pointer (some ⟨tb6, 0, none⟩)), (9, .int .i64 0), (10, .int .i64 ((k : Nat) : Int))] := ⟨_, upds_self hl7⟩
          clear hl7
          have hzw7 := hU7.size
          replace hs := hs.upd hU7 (by intro x h1 h2; have h3 : x < w.heap.size := h1; have h4 : ((((x = B3) ∨ x = w3.heap.size)) ∧ x < w4.heap.size) := h2; omega)
          replace hs2 := hs2.upd hU7 (by intro x h1 h2; have h3 : x < w.heap.size := h1; have h4 : ((((x = B3) ∨ x = w3.heap.size)) ∧ x < w4.heap.size) := h2; omega)
          replace HU := HU.trans hU7 (by intro x hx; have hx2 : ((((x = B3) ∨ x = w3.heap.size)) ∧ x < w4.heap.size) := hx; show (False) ∨ w.heap.size ≤ x; omega)
          replace hT5 := hT5.upd hU7 (by intro hx; have hx2 : ((((tb5 = B3) ∨ tb5 = w3.heap.size)) ∧ tb5 < w4.heap.size) := hx; omega)
          replace hE5 := hE5.upd hU7 (by intro x h1 h2; have h3 : ((w4.heap.size ≤ x ∧ x ≠ tb5) ∧ x < w5.heap.size) := h1; have h4 : ((((x = B3) ∨ x = w3.heap.size)) ∧ x < w4.heap.size) := h2; omega)
          replace hL5 := hL5.upd hU7 (by intro x h1 h2; have h3 : ((w4.heap.size ≤ x ∧ x ≠ tb5) ∧ x < w5.heap.size) := h1; have h4 : ((((x = B3) ∨ x = w3.heap.size)) ∧ x < w4.heap.size) := h2; omega)
          replace hT6 := hT6.upd hU7 (by intro hx; have hx2 : ((((tb6 = B3) ∨ tb6 = w3.heap.size)) ∧ tb6 < w4.heap.size) := hx; omega)
          replace hE6 := hE6.upd hU7 (by intro x h1 h2; have h3 : ((w5.heap.size ≤ x ∧ x ≠ tb6) ∧ x < w6.heap.size) := h1; have h4 : ((((x = B3) ∨ x = w3.heap.size)) ∧ x < w4.heap.size) := h2; omega)
          replace hL6 := hL6.upd hU7 (by intro x h1 h2; have h3 : ((w5.heap.size ≤ x ∧ x ≠ tb6) ∧ x < w6.heap.size) := h1; have h4 : ((((x = B3) ∨ x = w3.heap.size)) ∧ x < w4.heap.size) := h2; omega)
          have HL7 := hU7
          refine W_seq ?_
          refine W_seq ?_
          refine W_region ?_
          refine Wl_v (r_mv (v := .int .i64 ((k : Nat) : Int)) rfl) ?_
          refine Wl_v (r_mv (v := .slice a4 n c4) rfl) ?_
          refine Wl_v (r_len Try.underlying22 rfl) ?_
          refine Wl_v (r_lt rfl rfl) ?_
          refine Wl_nil ?_
          by_cases q5 : ((k : Nat) : Int) < ((n : Nat) : Int)
          · rw [decide_eq_true q5]
            refine W_cond_t rfl ?_
            refine W_skip ?_
            refine W_seq ?_
            refine W_block ?_
            refine W_region ?_
            refine Wl_v (r_mv (v := .slice a4 n c4) rfl) ?_
            refine Wl_v (r_mv (v := .int .i64 ((k : Nat) : Int)) rfl) ?_
            obtain ⟨g8, rfl, hg8⟩ := hO4.addr (by omega)
            replace hg8 : ((((g8 = B3) ∨ g8 = w3.heap.size)) ∧ g8 < w4.heap.size) := hg8
            refine Wl_idxo (i' := k) Try.underlying22 Try.sizeOf3 rfl rfl hO4 (by omega) (by omega) ?_
            intro hc9
            refine Wl_storeo (i := k) Try.sizeOf3 rfl rfl hO4 (by omega) ?_
            intro w10 hU10 hzz10 hO10
            clear hO4
            have hzw10 := hU10.size
            replace hs := hs.upd1 hU10 (by intro h1; have h3 : g8 < w.heap.size := h1; omega)
            replace hs2 := hs2.upd1 hU10 (by intro h1; have h3 : g8 < w.heap.size := h1; omega)
            replace HU := HU.trans1 hU10 (by show (False) ∨ w.heap.size ≤ g8; omega)
            replace hT5 := hT5.upd1 hU10 (by omega)
            replace hE5 := hE5.upd1 hU10 (by intro h1; have h3 : ((w4.heap.size ≤ g8 ∧ g8 ≠ tb5) ∧ g8 < w5.heap.size) := h1; omega)
            replace hL5 := hL5.upd1 hU10 (by intro h1; have h3 : ((w4.heap.size ≤ g8 ∧ g8 ≠ tb5) ∧ g8 < w5.heap.size) := h1; omega)
            replace hT6 := hT6.upd1 hU10 (by omega)
            replace hE6 := hE6.upd1 hU10 (by intro h1; have h3 : ((w5.heap.size ≤ g8 ∧ g8 ≠ tb6) ∧ g8 < w6.heap.size) := h1; omega)
            replace hL6 := hL6.upd1 hU10 (by intro h1; have h3 : ((w5.heap.size ≤ g8 ∧ g8 ≠ tb6) ∧ g8 < w6.heap.size) := h1; omega)
            replace HL7 := HL7.trans1 hU10 (by show (((((g8 = B3) ∨ g8 = w3.heap.size)) ∧ g8 < w4.heap.size)) ∨ w6.heap.size ≤ g8; omega)
            have hl_hO10 := ilen hO10.sl
            have hc_hO10 := hO10.sl.cap.1
            refine Wl_nil ?_
            refine W_region ?_
            refine Wl_v (r_mv (v := .int .i64 ((k : Nat) : Int)) rfl) ?_
            refine Wl_v (r_add rfl rfl (wi64 (by omega) (by omega))) ?_
            refine Wl_v (r_as (v := .int .i64 (((k : Nat) : Int) + 1)) rfl) ?_
            refine Wl_nil ?_
            refine ⟨_, ?_, (k + 1), ys.set k 1, rfl, rfl, ⟨rfl, rfl, rfl, rfl, rfl, rfl, rfl, (by first | rfl | exact vint (by omega) | exact vint (by simp)), trivial⟩, (by omega), hO10, HL7⟩
            omega
          · rw [decide_eq_false q5]
            refine W_cond_f rfl ?_
            refine W_exit ?_
            refine W_seq ?_
            refine W_region ?_
            refine Wl_v (r_mv (v := .slice a n c) rfl) ?_
            refine Wl_call (r_call1 rfl Try.call21 rfl) (rright_spec _ hs (by omega)) ?_
            rintro v w11 ⟨rfl, hU11⟩
            have hzw11 := hU11.size
            replace hs := hs.upd0 hU11
            replace hs2 := hs2.upd0 hU11
            replace HU := HU.trans0 hU11
            replace hT5 := hT5.upd0 hU11
            replace hE5 := hE5.upd0 hU11
            replace hL5 := hL5.upd0 hU11
            replace hT6 := hT6.upd0 hU11
            replace hE6 := hE6.upd0 hU11
            replace hL6 := hL6.upd0 hU11
            replace hO4 := hO4.upd0 hU11
            refine Wl_v (r_mv (v := .slice b m d) rfl) ?_
            refine Wl_call (r_call1 rfl Try.call21 rfl) (rright_spec _ hs2 (by omega)) ?_
            rintro v w12 ⟨rfl, hU12⟩
            have hzw12 := hU12.size
            replace hs := hs.upd0 hU12
            replace hs2 := hs2.upd0 hU12
            replace HU := HU.trans0 hU12
            replace hT5 := hT5.upd0 hU12
            replace hE5 := hE5.upd0 hU12
            replace hL5 := hL5.upd0 hU12
            replace hT6 := hT6.upd0 hU12
            replace hE6 := hE6.upd0 hU12
            replace hL6 := hL6.upd0 hU12
            replace hO4 := hO4.upd0 hU12
            refine Wl_v (r_as (v := .bool (decide (Rt l))) rfl) ?_
            refine Wl_v (r_as (v := .bool (decide (Rt l2))) rfl) ?_
            refine Wl_nil ?_
            refine W_seq ?_
            refine W_seq ?_
            refine W_region ?_
            refine Wl_v (r_mv (v := .int .i64 0) rfl) ?_
            refine Wl_call (r_call1 rfl Try.call15 rfl) (num15 _ ) ?_
            rintro v w13 ⟨rfl, hU13⟩
            have hzw13 := hU13.size
            replace hs := hs.upd0 hU13
            replace hs2 := hs2.upd0 hU13
            replace HU := HU.trans0 hU13
            replace hT5 := hT5.upd0 hU13
            replace hE5 := hE5.upd0 hU13
            replace hL5 := hL5.upd0 hU13
            replace hT6 := hT6.upd0 hU13
            replace hE6 := hE6.upd0 hU13
            replace hL6 := hL6.upd0 hU13
            replace hO4 := hO4.upd0 hU13
            refine Wl_v (v := .bool true) (r_eq (a := 0) (b := 0) rfl rfl) ?_
            refine Wl_v (r_mv (v := .bool (decide (Rt l))) rfl) ?_
            have q6 : Rt l := q3
            rw [decide_eq_true q6]
            refine Wl_v (v := .bool false) (r_neb (a := true) (b := true) Try.underlying4 rfl rfl) ?_
            refine Wl_v (r_mv (v := .bool false) rfl) ?_
            refine Wl_guard_t rfl ?_
            refine Wl_v (r_mv (v := .int .i64 0) rfl) ?_
            refine Wl_guard_t rfl ?_
            refine Wl_call (r_call1 rfl Try.call15 rfl) (num15 _ ) ?_
            rintro v w14 ⟨rfl, hU14⟩
            have hzw14 := hU14.size
            replace hs := hs.upd0 hU14
            replace hs2 := hs2.upd0 hU14
            replace HU := HU.trans0 hU14
            replace hT5 := hT5.upd0 hU14
            replace hE5 := hE5.upd0 hU14
            replace hL5 := hL5.upd0 hU14
            replace hT6 := hT6.upd0 hU14
            replace hE6 := hE6.upd0 hU14
            replace hL6 := hL6.upd0 hU14
            replace hO4 := hO4.upd0 hU14
            refine Wl_guard_t rfl ?_
            refine Wl_v (v := .bool true) (r_eq (a := 0) (b := 0) rfl rfl) ?_
            refine Wl_guard_t rfl ?_
            refine Wl_v (r_mv (v := .bool (decide (Rt l2))) rfl) ?_
            refine Wl_guard_t rfl ?_
            have q7 : Rt l2 := q4
            rw [decide_eq_true q7]
            refine Wl_v (v := .bool false) (r_neb (a := true) (b := true) Try.underlying4 rfl rfl) ?_
            refine Wl_v (r_pick_f (v := .bool false) rfl rfl) ?_
            refine Wl_nil ?_
            refine W_cond_f rfl ?_
            refine W_skip ?_
            refine W_seq ?_
            refine W_region ?_
            refine Wl_v (r_mv (v := .bool true) rfl) ?_
            refine Wl_v (r_not (b := true) rfl) ?_
            refine Wl_v (r_mv (v := .bool false) rfl) ?_
            refine Wl_guard_f rfl ?_
            refine Wl_guard_f rfl ?_
            refine Wl_v (r_pick_f (v := .bool false) rfl rfl) ?_
            refine Wl_v (r_mv (v := .bool false) rfl) ?_
            refine Wl_guard_t rfl ?_
            refine Wl_v (r_mv (v := .bool true) rfl) ?_
            refine Wl_guard_t rfl ?_
            refine Wl_v (r_mv (v := .bool true) rfl) ?_
            refine Wl_guard_t rfl ?_
            refine Wl_v (r_mv (v := .bool true) rfl) ?_
            refine Wl_guard_t rfl ?_
            refine Wl_v (r_pick_t (v := .bool true) rfl rfl) ?_
            refine Wl_guard_t rfl ?_
            refine Wl_v (r_mv (v := .bool true) rfl) ?_
            refine Wl_guard_t rfl ?_
            refine Wl_v (r_mv (v := .slice a n c) rfl) ?_
            refine Wl_guard_t rfl ?_
            refine Wl_call (r_call1 rfl Try.call28 rfl) (rtrim _ hs.any (by omega)) ?_
            rintro v w15 ⟨rfl, hU15⟩
            have hzw15 := hU15.size
            replace hs := hs.upd0 hU15
            replace hs2 := hs2.upd0 hU15
            replace HU := HU.trans0 hU15
            replace hT5 := hT5.upd0 hU15
            replace hE5 := hE5.upd0 hU15
            replace hL5 := hL5.upd0 hU15
            replace hT6 := hT6.upd0 hU15
            replace hE6 := hE6.upd0 hU15
            replace hL6 := hL6.upd0 hU15
            replace hO4 := hO4.upd0 hU15
            have htl16 := tl_le l
            have hTr16 := Sl.cuth (n := tl l) hs (by omega)
            refine Wl_guard_t rfl ?_
            refine Wl_v (r_mv (v := .slice b m d) rfl) ?_
            refine Wl_guard_t rfl ?_
            refine Wl_call (r_call1 rfl Try.call28 rfl) (rtrim _ hs2.any (by omega)) ?_
            rintro v w17 ⟨rfl, hU17⟩
            have hzw17 := hU17.size
            replace hs := hs.upd0 hU17
            replace hs2 := hs2.upd0 hU17
            replace HU := HU.trans0 hU17
            replace hT5 := hT5.upd0 hU17
            replace hE5 := hE5.upd0 hU17
            replace hL5 := hL5.upd0 hU17
            replace hT6 := hT6.upd0 hU17
            replace hE6 := hE6.upd0 hU17
            replace hL6 := hL6.upd0 hU17
            replace hO4 := hO4.upd0 hU17
            replace hTr16 := hTr16.upd0 hU17
            have htl18 := tl_le l2
            have hTr18 := Sl.cuth (n := tl l2) hs2 (by omega)
            refine Wl_guard_t rfl ?_
            refine Wl_call (r_call2 rfl Try.call16 rfl rfl) (same15 _ hTr16 hTr18 (by omega)) ?_
            rintro v w19 ⟨rfl, hU19⟩
            have hzw19 := hU19.size
            replace hs := hs.upd0 hU19
            replace hs2 := hs2.upd0 hU19
            replace HU := HU.trans0 hU19
            replace hT5 := hT5.upd0 hU19
            replace hE5 := hE5.upd0 hU19
            replace hL5 := hL5.upd0 hU19
            replace hT6 := hT6.upd0 hU19
            replace hE6 := hE6.upd0 hU19
            replace hL6 := hL6.upd0 hU19
            replace hO4 := hO4.upd0 hU19
            replace hTr16 := hTr16.upd0 hU19
            replace hTr18 := hTr18.upd0 hU19
            refine Wl_guard_t rfl ?_
            refine Wl_v (r_pick_t (v := .bool (decide ((l.take (tl l)) = (l2.take (tl l2))))) rfl rfl) ?_
            refine Wl_v (r_pick_f (v := .bool (decide ((l.take (tl l)) = (l2.take (tl l2))))) rfl rfl) ?_
            refine Wl_v (r_as (v := .bool (decide ((l.take (tl l)) = (l2.take (tl l2))))) rfl) ?_
            refine Wl_nil ?_
            refine W_seq ?_
            refine W_seq ?_
            refine W_region ?_
            refine Wl_v (r_mv (v := .pointer (some ⟨tb5, 0, none⟩)) rfl) ?_
            refine Wl_v (r_mv (v := .pointer (some ⟨tb6, 0, none⟩)) rfl) ?_
            refine Wl_call (r_call2 rfl Try.call29 rfl rfl) (eq_ll _ hT5 hL5.sl.any q6 hT6 hL6.sl.any q7) ?_
            rintro v w20 ⟨rfl, hU20⟩
            have hzw20 := hU20.size
            replace hs := hs.upd0 hU20
            replace hs2 := hs2.upd0 hU20
            replace HU := HU.trans0 hU20
            replace hT5 := hT5.upd0 hU20
            replace hE5 := hE5.upd0 hU20
            replace hL5 := hL5.upd0 hU20
            replace hT6 := hT6.upd0 hU20
            replace hE6 := hE6.upd0 hU20
            replace hL6 := hL6.upd0 hU20
            replace hO4 := hO4.upd0 hU20
            replace hTr16 := hTr16.upd0 hU20
            replace hTr18 := hTr18.upd0 hU20
            refine Wl_v (r_mv (v := .bool (decide ((l.take (tl l)) = (l2.take (tl l2))))) rfl) ?_
            by_cases q8 : l.take (tl l) = l2.take (tl l2)
            · rw [decide_eq_true q8]
              refine Wl_v (v := .bool false) (r_neb (a := true) (b := true) Try.underlying4 rfl rfl) ?_
              refine Wl_v (r_mv (v := .bool false) rfl) ?_
              refine Wl_guard_t rfl ?_
              refine Wl_v (r_mv (v := .pointer (some ⟨tb6, 0, none⟩)) rfl) ?_
              refine Wl_guard_t rfl ?_
              refine Wl_v (r_mv (v := .pointer (some ⟨tb5, 0, none⟩)) rfl) ?_
              refine Wl_guard_t rfl ?_
              refine Wl_call (r_call2 rfl Try.call29 rfl rfl) (eq_ll _ hT6 hL6.sl.any q7 hT5 hL5.sl.any q6) ?_
              rintro v w21 ⟨rfl, hU21⟩
              have hzw21 := hU21.size
              replace hs := hs.upd0 hU21
              replace hs2 := hs2.upd0 hU21
              replace HU := HU.trans0 hU21
              replace hT5 := hT5.upd0 hU21
              replace hE5 := hE5.upd0 hU21
              replace hL5 := hL5.upd0 hU21
              replace hT6 := hT6.upd0 hU21
              replace hE6 := hE6.upd0 hU21
              replace hL6 := hL6.upd0 hU21
              replace hO4 := hO4.upd0 hU21
              replace hTr16 := hTr16.upd0 hU21
              replace hTr18 := hTr18.upd0 hU21
              refine Wl_guard_t rfl ?_
              refine Wl_v (r_mv (v := .bool true) rfl) ?_
              refine Wl_guard_t rfl ?_
              have q9 : l2.take (tl l2) = l.take (tl l) := q8.symm
              rw [decide_eq_true q9]
              refine Wl_v (v := .bool false) (r_neb (a := true) (b := true) Try.underlying4 rfl rfl) ?_
              refine Wl_v (r_pick_f (v := .bool false) rfl rfl) ?_
              refine Wl_v (r_mv (v := .bool false) rfl) ?_
              refine Wl_guard_t rfl ?_
              refine Wl_v (r_mv (v := .pointer (some ⟨tb5, 0, none⟩)) rfl) ?_
              refine Wl_guard_t rfl ?_
              refine Wl_v (r_mv (v := .pointer (some ⟨tb5, 0, none⟩)) rfl) ?_
              refine Wl_guard_t rfl ?_
              refine Wl_call (r_call2 rfl Try.call29 rfl rfl) (eq_ll _ hT5 hL5.sl.any q6 hT5 hL5.sl.any q6) ?_
              rintro v w22 ⟨rfl, hU22⟩
              have hzw22 := hU22.size
              replace hs := hs.upd0 hU22
              replace hs2 := hs2.upd0 hU22
              replace HU := HU.trans0 hU22
              replace hT5 := hT5.upd0 hU22
              replace hE5 := hE5.upd0 hU22
              replace hL5 := hL5.upd0 hU22
              replace hT6 := hT6.upd0 hU22
              replace hE6 := hE6.upd0 hU22
              replace hL6 := hL6.upd0 hU22
              replace hO4 := hO4.upd0 hU22
              replace hTr16 := hTr16.upd0 hU22
              replace hTr18 := hTr18.upd0 hU22
              refine Wl_guard_t rfl ?_
              refine Wl_v (r_not rfl) ?_
              refine Wl_v (r_pick_f (v := .bool (!decide (l.take (tl l) = l.take (tl l)))) rfl rfl) ?_
              refine Wl_nil ?_
              have q10 : l.take (tl l) = l.take (tl l) := rfl
              rw [decide_eq_true q10]
              simp only [Bool.not_true, Bool.not_false]
              refine W_cond_f rfl ?_
              refine W_skip ?_
              refine W_seq ?_
              refine W_region ?_
              refine Wl_v (r_mv (v := .bool true) rfl) ?_
              refine Wl_v (r_not (b := true) rfl) ?_
              refine Wl_v (r_mv (v := .bool false) rfl) ?_
              refine Wl_guard_f rfl ?_
              refine Wl_guard_f rfl ?_
              refine Wl_guard_f rfl ?_
              refine Wl_guard_f rfl ?_
              refine Wl_v (r_pick_f (v := .bool false) rfl rfl) ?_
              refine Wl_v (r_mv (v := .bool false) rfl) ?_
              refine Wl_guard_t rfl ?_
              refine Wl_v (r_mv (v := .bool true) rfl) ?_
              refine Wl_guard_t rfl ?_
              refine Wl_v (r_mv (v := .bool true) rfl) ?_
              refine Wl_guard_t rfl ?_
              refine Wl_v (r_mv (v := .pointer (some ⟨tb5, 0, none⟩)) rfl) ?_
              refine Wl_guard_t rfl ?_
              refine Wl_call (r_call1 rfl Try.call30 rfl) (lens_ok _ hT5 hL5.sl.any q6) ?_
              rintro v w23 ⟨a23, c23, rfl, hO23, hU23⟩
              have hzw23 := hU23.size
              replace hs := hs.upd0 hU23
              replace hs2 := hs2.upd0 hU23
              replace HU := HU.trans0 hU23
              replace hT5 := hT5.upd0 hU23
              replace hE5 := hE5.upd0 hU23
              replace hL5 := hL5.upd0 hU23
              replace hT6 := hT6.upd0 hU23
              replace hE6 := hE6.upd0 hU23
              replace hL6 := hL6.upd0 hU23
              replace hO4 := hO4.upd0 hU23
              replace hTr16 := hTr16.upd0 hU23
              replace hTr18 := hTr18.upd0 hU23
              replace hO23 := hO23.tight
              have hl_hO23 := ilen hO23.sl
              have hc_hO23 := hO23.sl.cap.1
              refine Wl_guard_t rfl ?_
              refine Wl_v (r_mv (v := .slice a n c) rfl) ?_
              refine Wl_guard_t rfl ?_
              refine Wl_call (r_call2 rfl Try.call16 rfl rfl) (same15 _ hO23.sl hs (by omega)) ?_
              rintro v w24 ⟨rfl, hU24⟩
              have hzw24 := hU24.size
              replace hs := hs.upd0 hU24
              replace hs2 := hs2.upd0 hU24
              replace HU := HU.trans0 hU24
              replace hT5 := hT5.upd0 hU24
              replace hE5 := hE5.upd0 hU24
              replace hL5 := hL5.upd0 hU24
              replace hT6 := hT6.upd0 hU24
              replace hE6 := hE6.upd0 hU24
              replace hL6 := hL6.upd0 hU24
              replace hO4 := hO4.upd0 hU24
              replace hTr16 := hTr16.upd0 hU24
              replace hTr18 := hTr18.upd0 hU24
              replace hO23 := hO23.upd0 hU24
              refine Wl_guard_t rfl ?_
              refine Wl_v (r_pick_t (v := .bool (decide (l = l))) rfl rfl) ?_
              refine Wl_v (r_pick_f (v := .bool (decide (l = l))) rfl rfl) ?_
              refine Wl_v (r_mv (v := .bool (decide (l = l))) rfl) ?_
              have q11 : l = l := rfl
              rw [decide_eq_true q11]
              refine Wl_guard_t rfl ?_
              refine Wl_call (r_call0 rfl Try.call11 ) (works15 _ ) ?_
              rintro v w25 ⟨rfl, hU25⟩
              have hzw25 := hU25.size
              replace hs := hs.upd0 hU25
              replace hs2 := hs2.upd0 hU25
              replace HU := HU.trans0 hU25
              replace hT5 := hT5.upd0 hU25
              replace hE5 := hE5.upd0 hU25
              replace hL5 := hL5.upd0 hU25
              replace hT6 := hT6.upd0 hU25
              replace hE6 := hE6.upd0 hU25
              replace hL6 := hL6.upd0 hU25
              replace hO4 := hO4.upd0 hU25
              replace hTr16 := hTr16.upd0 hU25
              replace hTr18 := hTr18.upd0 hU25
              replace hO23 := hO23.upd0 hU25
              refine Wl_v (r_pick_t (v := .bool true) rfl rfl) ?_
              refine Wl_v (r_as (v := .bool true) rfl) ?_
              refine Wl_nil ?_
              refine W_ret ?_
              refine ret_end (v := .bool true) rfl (res1 Try.results9 rfl) ?_
              exact ⟨_, rfl, rfl, HU⟩
            · rw [decide_eq_false q8]
              refine Wl_v (v := .bool false) (r_neb (a := false) (b := false) Try.underlying4 rfl rfl) ?_
              refine Wl_v (r_mv (v := .bool false) rfl) ?_
              refine Wl_guard_t rfl ?_
              refine Wl_v (r_mv (v := .pointer (some ⟨tb6, 0, none⟩)) rfl) ?_
              refine Wl_guard_t rfl ?_
              refine Wl_v (r_mv (v := .pointer (some ⟨tb5, 0, none⟩)) rfl) ?_
              refine Wl_guard_t rfl ?_
              refine Wl_call (r_call2 rfl Try.call29 rfl rfl) (eq_ll _ hT6 hL6.sl.any q7 hT5 hL5.sl.any q6) ?_
              rintro v w26 ⟨rfl, hU26⟩
              have hzw26 := hU26.size
              replace hs := hs.upd0 hU26
              replace hs2 := hs2.upd0 hU26
              replace HU := HU.trans0 hU26
              replace hT5 := hT5.upd0 hU26
              replace hE5 := hE5.upd0 hU26
              replace hL5 := hL5.upd0 hU26
              replace hT6 := hT6.upd0 hU26
              replace hE6 := hE6.upd0 hU26
              replace hL6 := hL6.upd0 hU26
              replace hO4 := hO4.upd0 hU26
              replace hTr16 := hTr16.upd0 hU26
              replace hTr18 := hTr18.upd0 hU26
              refine Wl_guard_t rfl ?_
              refine Wl_v (r_mv (v := .bool false) rfl) ?_
              refine Wl_guard_t rfl ?_
              have q12 : ¬ (l2.take (tl l2) = l.take (tl l)) := (fun h9 => q8 h9.symm)
              rw [decide_eq_false q12]
              refine Wl_v (v := .bool false) (r_neb (a := false) (b := false) Try.underlying4 rfl rfl) ?_
              refine Wl_v (r_pick_f (v := .bool false) rfl rfl) ?_
              refine Wl_v (r_mv (v := .bool false) rfl) ?_
              refine Wl_guard_t rfl ?_
              refine Wl_v (r_mv (v := .pointer (some ⟨tb5, 0, none⟩)) rfl) ?_
              refine Wl_guard_t rfl ?_
              refine Wl_v (r_mv (v := .pointer (some ⟨tb5, 0, none⟩)) rfl) ?_
              refine Wl_guard_t rfl ?_
              refine Wl_call (r_call2 rfl Try.call29 rfl rfl) (eq_ll _ hT5 hL5.sl.any q6 hT5 hL5.sl.any q6) ?_
              rintro v w27 ⟨rfl, hU27⟩
              have hzw27 := hU27.size
              replace hs := hs.upd0 hU27
              replace hs2 := hs2.upd0 hU27
              replace HU := HU.trans0 hU27
              replace hT5 := hT5.upd0 hU27
              replace hE5 := hE5.upd0 hU27
              replace hL5 := hL5.upd0 hU27
              replace hT6 := hT6.upd0 hU27
              replace hE6 := hE6.upd0 hU27
              replace hL6 := hL6.upd0 hU27
              replace hO4 := hO4.upd0 hU27
              replace hTr16 := hTr16.upd0 hU27
              replace hTr18 := hTr18.upd0 hU27
              refine Wl_guard_t rfl ?_
              refine Wl_v (r_not rfl) ?_
              refine Wl_v (r_pick_f (v := .bool (!decide (l.take (tl l) = l.take (tl l)))) rfl rfl) ?_
              refine Wl_nil ?_
              have q13 : l.take (tl l) = l.take (tl l) := rfl
              rw [decide_eq_true q13]
              simp only [Bool.not_true, Bool.not_false]
              refine W_cond_f rfl ?_
              refine W_skip ?_
              refine W_seq ?_
              refine W_region ?_
              refine Wl_v (r_mv (v := .bool true) rfl) ?_
              refine Wl_v (r_not (b := true) rfl) ?_
              refine Wl_v (r_mv (v := .bool false) rfl) ?_
              refine Wl_guard_f rfl ?_
              refine Wl_guard_f rfl ?_
              refine Wl_guard_f rfl ?_
              refine Wl_guard_f rfl ?_
              refine Wl_v (r_pick_f (v := .bool false) rfl rfl) ?_
              refine Wl_v (r_mv (v := .bool false) rfl) ?_
              refine Wl_guard_t rfl ?_
              refine Wl_v (r_mv (v := .bool true) rfl) ?_
              refine Wl_guard_t rfl ?_
              refine Wl_v (r_mv (v := .bool true) rfl) ?_
              refine Wl_guard_t rfl ?_
              refine Wl_v (r_mv (v := .pointer (some ⟨tb5, 0, none⟩)) rfl) ?_
              refine Wl_guard_t rfl ?_
              refine Wl_call (r_call1 rfl Try.call30 rfl) (lens_ok _ hT5 hL5.sl.any q6) ?_
              rintro v w28 ⟨a28, c28, rfl, hO28, hU28⟩
              have hzw28 := hU28.size
              replace hs := hs.upd0 hU28
              replace hs2 := hs2.upd0 hU28
              replace HU := HU.trans0 hU28
              replace hT5 := hT5.upd0 hU28
              replace hE5 := hE5.upd0 hU28
              replace hL5 := hL5.upd0 hU28
              replace hT6 := hT6.upd0 hU28
              replace hE6 := hE6.upd0 hU28
              replace hL6 := hL6.upd0 hU28
              replace hO4 := hO4.upd0 hU28
              replace hTr16 := hTr16.upd0 hU28
              replace hTr18 := hTr18.upd0 hU28
              replace hO28 := hO28.tight
              have hl_hO28 := ilen hO28.sl
              have hc_hO28 := hO28.sl.cap.1
              refine Wl_guard_t rfl ?_
              refine Wl_v (r_mv (v := .slice a n c) rfl) ?_
              refine Wl_guard_t rfl ?_
              refine Wl_call (r_call2 rfl Try.call16 rfl rfl) (same15 _ hO28.sl hs (by omega)) ?_
              rintro v w29 ⟨rfl, hU29⟩
              have hzw29 := hU29.size
              replace hs := hs.upd0 hU29
              replace hs2 := hs2.upd0 hU29
              replace HU := HU.trans0 hU29
              replace hT5 := hT5.upd0 hU29
              replace hE5 := hE5.upd0 hU29
              replace hL5 := hL5.upd0 hU29
              replace hT6 := hT6.upd0 hU29
              replace hE6 := hE6.upd0 hU29
              replace hL6 := hL6.upd0 hU29
              replace hO4 := hO4.upd0 hU29
              replace hTr16 := hTr16.upd0 hU29
              replace hTr18 := hTr18.upd0 hU29
              replace hO28 := hO28.upd0 hU29
              refine Wl_guard_t rfl ?_
              refine Wl_v (r_pick_t (v := .bool (decide (l = l))) rfl rfl) ?_
              refine Wl_v (r_pick_f (v := .bool (decide (l = l))) rfl rfl) ?_
              refine Wl_v (r_mv (v := .bool (decide (l = l))) rfl) ?_
              have q14 : l = l := rfl
              rw [decide_eq_true q14]
              refine Wl_guard_t rfl ?_
              refine Wl_call (r_call0 rfl Try.call11 ) (works15 _ ) ?_
              rintro v w30 ⟨rfl, hU30⟩
              have hzw30 := hU30.size
              replace hs := hs.upd0 hU30
              replace hs2 := hs2.upd0 hU30
              replace HU := HU.trans0 hU30
              replace hT5 := hT5.upd0 hU30
              replace hE5 := hE5.upd0 hU30
              replace hL5 := hL5.upd0 hU30
              replace hT6 := hT6.upd0 hU30
              replace hE6 := hE6.upd0 hU30
              replace hL6 := hL6.upd0 hU30
              replace hO4 := hO4.upd0 hU30
              replace hTr16 := hTr16.upd0 hU30
              replace hTr18 := hTr18.upd0 hU30
              replace hO28 := hO28.upd0 hU30
              refine Wl_v (r_pick_t (v := .bool true) rfl rfl) ?_
              refine Wl_v (r_as (v := .bool true) rfl) ?_
              refine Wl_nil ?_
              refine W_ret ?_
              refine ret_end (v := .bool true) rfl (res1 Try.results9 rfl) ?_
              exact ⟨_, rfl, rfl, HU⟩
        · refine Wl_call (r_call1 rfl Try.call17 rfl) (new_no _ hs2 (by omega) q4) ?_
          rintro v w31 ⟨rfl, hU31⟩
          have hzw31 := hU31.size
          replace hs := hs.upd0 hU31
          replace hs2 := hs2.upd0 hU31
          replace HU := HU.trans0 hU31
          replace hO4 := hO4.upd0 hU31
          replace hT5 := hT5.upd0 hU31
          replace hE5 := hE5.upd0 hU31
          replace hL5 := hL5.upd0 hU31
          refine Wl_v (r_mv (v := .tuple #[.pointer none, .int .i64 12]) rfl) ?_
          refine Wl_v (r_ext (v := .pointer none) rfl rfl) ?_
          refine Wl_v (r_ext (v := .int .i64 12) rfl rfl) ?_
          refine Wl_v (r_as (v := .pointer none) rfl) ?_
          refine Wl_v (r_as (v := .int .i64 12) rfl) ?_
          refine Wl_nil ?_
          refine W_seq ?_
          refine W_seq ?_
          refine W_region ?_
          refine Wl_v (r_as (v := .int .i64 0) rfl) ?_
          refine Wl_nil ?_
          refine W_block ?_
          refine W_loop (fun mu ρ ds w' => ∃ (k : Nat) (ys : List Int), n - k = mu ∧ ds = [] ∧ Liv ρ [(0, .slice a n c), (1, .slice b m d), (5, .slice a4 n c4), (6, .pointer (some ⟨tb5, 0, none⟩)), (7, .int .i64 0), (8, .pointer none), (9, .int .i64 12), (10, .int .i64 ((k : Nat) : Int))] ∧ k ≤ n ∧ Own w' (fun g => ((((g = B3) ∨ g = w3.heap.size)) ∧ g < w4.heap.size)) 3 1 (.slice a4 n c4) n (ints .i64 ys) ∧ Upd (fun g => ((((g = B3) ∨ g = w3.heap.size)) ∧ g < w4.heap.size)) w31 w') _ ⟨0, l, rfl, rfl, ⟨rfl, rfl, rfl, rfl, rfl, rfl, rfl, (by first | rfl | exact vint (by omega) | exact vint (by simp)), trivial⟩, (by omega), hO4, Upd.refl _ _⟩ ?_
          rintro m32 ρ32 ds32 w32 ⟨k, ys, rfl, rfl, hl32, hk, hO4, hU32⟩
          obtain ⟨ρ32x, rfl⟩ : ∃ ρx, ρ32 = upds ρx [(0, .slice a n c), (1, .slice b m d), (5, .slice a4 n c4), (6, .pointer (some ⟨tb5, 0, none⟩)), (7, .int .i64 0), (8, .pointer none), (9, .int .i64 12), (10, .int .i64 ((k : Nat) : Int))] := ⟨_, upds_self hl32⟩
          clear hl32
          have hzw32 := hU32.size
          replace hs := hs.upd hU32 (by intro x h1 h2; have h3 : x < w.heap.size := h1; have h4 : ((((x = B3) ∨ x = w3.heap.size)) ∧ x < w4.heap.size) := h2; omega)
          replace hs2 := hs2.upd hU32 (by intro x h1 h2; have h3 : x < w.heap.size := h1; have h4 : ((((x = B3) ∨ x = w3.heap.size)) ∧ x < w4.heap.size) := h2; omega)
          replace HU := HU.trans hU32 (by intro x hx; have hx2 : ((((x = B3) ∨ x = w3.heap.size)) ∧ x < w4.heap.size) := hx; show (False) ∨ w.heap.size ≤ x; omega)
          replace hT5 := hT5.upd hU32 (by intro hx; have hx2 : ((((tb5 = B3) ∨ tb5 = w3.heap.size)) ∧ tb5 < w4.heap.size) := hx; omega)
          replace hE5 := hE5.upd hU32 (by intro x h1 h2; have h3 : ((w4.heap.size ≤ x ∧ x ≠ tb5) ∧ x < w5.heap.size) := h1; have h4 : ((((x = B3) ∨ x = w3.heap.size)) ∧ x < w4.heap.size) := h2; omega)
          replace hL5 := hL5.upd hU32 (by intro x h1 h2; have h3 : ((w4.heap.size ≤ x ∧ x ≠ tb5) ∧ x < w5.heap.size) := h1; have h4 : ((((x = B3) ∨ x = w3.heap.size)) ∧ x < w4.heap.size) := h2; omega)
          have HL32 := hU32
          refine W_seq ?_
          refine W_seq ?_
          refine W_region ?_
          refine Wl_v (r_mv (v := .int .i64 ((k : Nat) : Int)) rfl) ?_
          refine Wl_v (r_mv (v := .slice a4 n c4) rfl) ?_
          refine Wl_v (r_len Try.underlying22 rfl) ?_
          refine Wl_v (r_lt rfl rfl) ?_
          refine Wl_nil ?_
          by_cases q15 : ((k : Nat) : Int) < ((n : Nat) : Int)
          · rw [decide_eq_true q15]
            refine W_cond_t rfl ?_
            refine W_skip ?_
            refine W_seq ?_
            refine W_block ?_
            refine W_region ?_
            refine Wl_v (r_mv (v := .slice a4 n c4) rfl) ?_
            refine Wl_v (r_mv (v := .int .i64 ((k : Nat) : Int)) rfl) ?_
            obtain ⟨g33, rfl, hg33⟩ := hO4.addr (by omega)
            replace hg33 : ((((g33 = B3) ∨ g33 = w3.heap.size)) ∧ g33 < w4.heap.size) := hg33
            refine Wl_idxo (i' := k) Try.underlying22 Try.sizeOf3 rfl rfl hO4 (by omega) (by omega) ?_
            intro hc34
            refine Wl_storeo (i := k) Try.sizeOf3 rfl rfl hO4 (by omega) ?_
            intro w35 hU35 hzz35 hO35
            clear hO4
            have hzw35 := hU35.size
            replace hs := hs.upd1 hU35 (by intro h1; have h3 : g33 < w.heap.size := h1; omega)
            replace hs2 := hs2.upd1 hU35 (by intro h1; have h3 : g33 < w.heap.size := h1; omega)
            replace HU := HU.trans1 hU35 (by show (False) ∨ w.heap.size ≤ g33; omega)
            replace hT5 := hT5.upd1 hU35 (by omega)
            replace hE5 := hE5.upd1 hU35 (by intro h1; have h3 : ((w4.heap.size ≤ g33 ∧ g33 ≠ tb5) ∧ g33 < w5.heap.size) := h1; omega)
            replace hL5 := hL5.upd1 hU35 (by intro h1; have h3 : ((w4.heap.size ≤ g33 ∧ g33 ≠ tb5) ∧ g33 < w5.heap.size) := h1; omega)
            replace HL32 := HL32.trans1 hU35 (by show (((((g33 = B3) ∨ g33 = w3.heap.size)) ∧ g33 < w4.heap.size)) ∨ w31.heap.size ≤ g33; omega)
            have hl_hO35 := ilen hO35.sl
            have hc_hO35 := hO35.sl.cap.1
            refine Wl_nil ?_
            refine W_region ?_
            refine Wl_v (r_mv (v := .int .i64 ((k : Nat) : Int)) rfl) ?_
            refine Wl_v (r_add rfl rfl (wi64 (by omega) (by omega))) ?_
            refine Wl_v (r_as (v := .int .i64 (((k : Nat) : Int) + 1)) rfl) ?_
            refine Wl_nil ?_
            refine ⟨_, ?_, (k + 1), ys.set k 1, rfl, rfl, ⟨rfl, rfl, rfl, rfl, rfl, rfl, rfl, (by first | rfl | exact vint (by omega) | exact vint (by simp)), trivial⟩, (by omega), hO35, HL32⟩
            omega
          · rw [decide_eq_false q15]
            refine W_cond_f rfl ?_
            refine W_exit ?_
            refine W_seq ?_
            refine W_region ?_
            refine Wl_v (r_mv (v := .slice a n c) rfl) ?_
            refine Wl_call (r_call1 rfl Try.call21 rfl) (rright_spec _ hs (by omega)) ?_
            rintro v w36 ⟨rfl, hU36⟩
            have hzw36 := hU36.size
            replace hs := hs.upd0 hU36
            replace hs2 := hs2.upd0 hU36
            replace HU := HU.trans0 hU36
            replace hT5 := hT5.upd0 hU36
            replace hE5 := hE5.upd0 hU36
            replace hL5 := hL5.upd0 hU36
            replace hO4 := hO4.upd0 hU36
            refine Wl_v (r_mv (v := .slice b m d) rfl) ?_
            refine Wl_call (r_call1 rfl Try.call21 rfl) (rright_spec _ hs2 (by omega)) ?_
            rintro v w37 ⟨rfl, hU37⟩
            have hzw37 := hU37.size
            replace hs := hs.upd0 hU37
            replace hs2 := hs2.upd0 hU37
            replace HU := HU.trans0 hU37
            replace hT5 := hT5.upd0 hU37
            replace hE5 := hE5.upd0 hU37
            replace hL5 := hL5.upd0 hU37
            replace hO4 := hO4.upd0 hU37
            refine Wl_v (r_as (v := .bool (decide (Rt l))) rfl) ?_
            refine Wl_v (r_as (v := .bool (decide (Rt l2))) rfl) ?_
            refine Wl_nil ?_
            refine W_seq ?_
            refine W_seq ?_
            refine W_region ?_
            refine Wl_v (r_mv (v := .int .i64 0) rfl) ?_
            refine Wl_call (r_call1 rfl Try.call15 rfl) (num15 _ ) ?_
            rintro v w38 ⟨rfl, hU38⟩
            have hzw38 := hU38.size
            replace hs := hs.upd0 hU38
            replace hs2 := hs2.upd0 hU38
            replace HU := HU.trans0 hU38
            replace hT5 := hT5.upd0 hU38
            replace hE5 := hE5.upd0 hU38
            replace hL5 := hL5.upd0 hU38
            replace hO4 := hO4.upd0 hU38
            refine Wl_v (v := .bool true) (r_eq (a := 0) (b := 0) rfl rfl) ?_
            refine Wl_v (r_mv (v := .bool (decide (Rt l))) rfl) ?_
            have q16 : Rt l := q3
            rw [decide_eq_true q16]
            refine Wl_v (v := .bool false) (r_neb (a := true) (b := true) Try.underlying4 rfl rfl) ?_
            refine Wl_v (r_mv (v := .bool false) rfl) ?_
            refine Wl_guard_t rfl ?_
            refine Wl_v (r_mv (v := .int .i64 12) rfl) ?_
            refine Wl_guard_t rfl ?_
            refine Wl_call (r_call1 rfl Try.call15 rfl) (num15 _ ) ?_
            rintro v w39 ⟨rfl, hU39⟩
            have hzw39 := hU39.size
            replace hs := hs.upd0 hU39
            replace hs2 := hs2.upd0 hU39
            replace HU := HU.trans0 hU39
            replace hT5 := hT5.upd0 hU39
            replace hE5 := hE5.upd0 hU39
            replace hL5 := hL5.upd0 hU39
            replace hO4 := hO4.upd0 hU39
            refine Wl_guard_t rfl ?_
            refine Wl_v (v := .bool false) (r_eq (a := 12) (b := 0) rfl rfl) ?_
            refine Wl_guard_t rfl ?_
            refine Wl_v (r_mv (v := .bool (decide (Rt l2))) rfl) ?_
            refine Wl_guard_t rfl ?_
            have q17 : ¬ (Rt l2) := q4
            rw [decide_eq_false q17]
            refine Wl_v (v := .bool false) (r_neb (a := false) (b := false) Try.underlying4 rfl rfl) ?_
            refine Wl_v (r_pick_f (v := .bool false) rfl rfl) ?_
            refine Wl_nil ?_
            refine W_cond_f rfl ?_
            refine W_skip ?_
            refine W_seq ?_
            refine W_region ?_
            refine Wl_v (r_mv (v := .bool true) rfl) ?_
            refine Wl_v (r_not (b := true) rfl) ?_
            refine Wl_v (r_mv (v := .bool false) rfl) ?_
            refine Wl_guard_f rfl ?_
            refine Wl_guard_f rfl ?_
            refine Wl_v (r_pick_f (v := .bool false) rfl rfl) ?_
            refine Wl_v (r_mv (v := .bool false) rfl) ?_
            refine Wl_guard_t rfl ?_
            refine Wl_v (r_mv (v := .bool true) rfl) ?_
            refine Wl_guard_t rfl ?_
            refine Wl_v (r_mv (v := .bool true) rfl) ?_
            refine Wl_guard_t rfl ?_
            refine Wl_v (r_mv (v := .bool false) rfl) ?_
            refine Wl_guard_t rfl ?_
            refine Wl_v (r_pick_t (v := .bool false) rfl rfl) ?_
            refine Wl_guard_t rfl ?_
            refine Wl_v (r_mv (v := .bool false) rfl) ?_
            refine Wl_guard_f rfl ?_
            refine Wl_guard_f rfl ?_
            refine Wl_guard_f rfl ?_
            refine Wl_guard_f rfl ?_
            refine Wl_guard_f rfl ?_
            refine Wl_guard_t rfl ?_
            refine Wl_v (r_pick_f (v := .bool false) rfl rfl) ?_
            refine Wl_v (r_pick_f (v := .bool false) rfl rfl) ?_
            refine Wl_v (r_as (v := .bool false) rfl) ?_
            refine Wl_nil ?_
            refine W_seq ?_
            refine W_seq ?_
            refine W_region ?_
            refine Wl_v (r_mv (v := .pointer (some ⟨tb5, 0, none⟩)) rfl) ?_
            refine Wl_v (r_mv (v := .pointer none) rfl) ?_
            refine Wl_call (r_call2 rfl Try.call29 rfl rfl) (eq_ln _ hT5 q16) ?_
            rintro v w40 ⟨rfl, hU40⟩
            have hzw40 := hU40.size
            replace hs := hs.upd0 hU40
            replace hs2 := hs2.upd0 hU40
            replace HU := HU.trans0 hU40
            replace hT5 := hT5.upd0 hU40
            replace hE5 := hE5.upd0 hU40
            replace hL5 := hL5.upd0 hU40
            replace hO4 := hO4.upd0 hU40
            refine Wl_v (r_mv (v := .bool false) rfl) ?_
            refine Wl_v (v := .bool false) (r_neb (a := false) (b := false) Try.underlying4 rfl rfl) ?_
            refine Wl_v (r_mv (v := .bool false) rfl) ?_
            refine Wl_guard_t rfl ?_
            refine Wl_v (r_mv (v := .pointer none) rfl) ?_
            refine Wl_guard_t rfl ?_
            refine Wl_v (r_mv (v := .pointer (some ⟨tb5, 0, none⟩)) rfl) ?_
            refine Wl_guard_t rfl ?_
            refine Wl_call (r_call2 rfl Try.call29 rfl rfl) (eq_nl _ hT5 q16) ?_
            rintro v w41 ⟨rfl, hU41⟩
            have hzw41 := hU41.size
            replace hs := hs.upd0 hU41
            replace hs2 := hs2.upd0 hU41
            replace HU := HU.trans0 hU41
            replace hT5 := hT5.upd0 hU41
            replace hE5 := hE5.upd0 hU41
            replace hL5 := hL5.upd0 hU41
            replace hO4 := hO4.upd0 hU41
            refine Wl_guard_t rfl ?_
            refine Wl_v (r_mv (v := .bool false) rfl) ?_
            refine Wl_guard_t rfl ?_
            refine Wl_v (v := .bool false) (r_neb (a := false) (b := false) Try.underlying4 rfl rfl) ?_
            refine Wl_v (r_pick_f (v := .bool false) rfl rfl) ?_
            refine Wl_v (r_mv (v := .bool false) rfl) ?_
            refine Wl_guard_t rfl ?_
            refine Wl_v (r_mv (v := .pointer (some ⟨tb5, 0, none⟩)) rfl) ?_
            refine Wl_guard_t rfl ?_
            refine Wl_v (r_mv (v := .pointer (some ⟨tb5, 0, none⟩)) rfl) ?_
            refine Wl_guard_t rfl ?_
            refine Wl_call (r_call2 rfl Try.call29 rfl rfl) (eq_ll _ hT5 hL5.sl.any q16 hT5 hL5.sl.any q16) ?_
            rintro v w42 ⟨rfl, hU42⟩
            have hzw42 := hU42.size
            replace hs := hs.upd0 hU42
            replace hs2 := hs2.upd0 hU42
            replace HU := HU.trans0 hU42
            replace hT5 := hT5.upd0 hU42
            replace hE5 := hE5.upd0 hU42
            replace hL5 := hL5.upd0 hU42
            replace hO4 := hO4.upd0 hU42
            refine Wl_guard_t rfl ?_
            refine Wl_v (r_not rfl) ?_
            refine Wl_v (r_pick_f (v := .bool (!decide (l.take (tl l) = l.take (tl l)))) rfl rfl) ?_
            refine Wl_nil ?_
            have q18 : l.take (tl l) = l.take (tl l) := rfl
            rw [decide_eq_true q18]
            simp only [Bool.not_true, Bool.not_false]
            refine W_cond_f rfl ?_
            refine W_skip ?_
            refine W_seq ?_
            refine W_region ?_
            refine Wl_v (r_mv (v := .bool true) rfl) ?_
            refine Wl_v (r_not (b := true) rfl) ?_
            refine Wl_v (r_mv (v := .bool false) rfl) ?_
            refine Wl_guard_f rfl ?_
            refine Wl_guard_f rfl ?_
            refine Wl_guard_f rfl ?_
            refine Wl_guard_f rfl ?_
            refine Wl_v (r_pick_f (v := .bool false) rfl rfl) ?_
            refine Wl_v (r_mv (v := .bool false) rfl) ?_
            refine Wl_guard_t rfl ?_
            refine Wl_v (r_mv (v := .bool true) rfl) ?_
            refine Wl_guard_t rfl ?_
            refine Wl_v (r_mv (v := .bool true) rfl) ?_
            refine Wl_guard_t rfl ?_
            refine Wl_v (r_mv (v := .pointer (some ⟨tb5, 0, none⟩)) rfl) ?_
            refine Wl_guard_t rfl ?_
            refine Wl_call (r_call1 rfl Try.call30 rfl) (lens_ok _ hT5 hL5.sl.any q16) ?_
            rintro v w43 ⟨a43, c43, rfl, hO43, hU43⟩
            have hzw43 := hU43.size
            replace hs := hs.upd0 hU43
            replace hs2 := hs2.upd0 hU43
            replace HU := HU.trans0 hU43
            replace hT5 := hT5.upd0 hU43
            replace hE5 := hE5.upd0 hU43
            replace hL5 := hL5.upd0 hU43
            replace hO4 := hO4.upd0 hU43
            replace hO43 := hO43.tight
            have hl_hO43 := ilen hO43.sl
            have hc_hO43 := hO43.sl.cap.1
            refine Wl_guard_t rfl ?_
            refine Wl_v (r_mv (v := .slice a n c) rfl) ?_
            refine Wl_guard_t rfl ?_
            refine Wl_call (r_call2 rfl Try.call16 rfl rfl) (same15 _ hO43.sl hs (by omega)) ?_
            rintro v w44 ⟨rfl, hU44⟩
            have hzw44 := hU44.size
            replace hs := hs.upd0 hU44
            replace hs2 := hs2.upd0 hU44
            replace HU := HU.trans0 hU44
            replace hT5 := hT5.upd0 hU44
            replace hE5 := hE5.upd0 hU44
            replace hL5 := hL5.upd0 hU44
            replace hO4 := hO4.upd0 hU44
            replace hO43 := hO43.upd0 hU44
            refine Wl_guard_t rfl ?_
            refine Wl_v (r_pick_t (v := .bool (decide (l = l))) rfl rfl) ?_
            refine Wl_v (r_pick_f (v := .bool (decide (l = l))) rfl rfl) ?_
            refine Wl_v (r_mv (v := .bool (decide (l = l))) rfl) ?_
            have q19 : l = l := rfl
            rw [decide_eq_true q19]
            refine Wl_guard_t rfl ?_
            refine Wl_call (r_call0 rfl Try.call11 ) (works15 _ ) ?_
            rintro v w45 ⟨rfl, hU45⟩
            have hzw45 := hU45.size
            replace hs := hs.upd0 hU45
            replace hs2 := hs2.upd0 hU45
            replace HU := HU.trans0 hU45
            replace hT5 := hT5.upd0 hU45
            replace hE5 := hE5.upd0 hU45
            replace hL5 := hL5.upd0 hU45
            replace hO4 := hO4.upd0 hU45
            replace hO43 := hO43.upd0 hU45
            refine Wl_v (r_pick_t (v := .bool true) rfl rfl) ?_
            refine Wl_v (r_as (v := .bool true) rfl) ?_
            refine Wl_nil ?_
            refine W_ret ?_
            refine ret_end (v := .bool true) rfl (res1 Try.results9 rfl) ?_
            exact ⟨_, rfl, rfl, HU⟩
      · refine Wl_call (r_call1 rfl Try.call17 rfl) (new_no _ hO4.sl (by omega) q3) ?_
        rintro v w46 ⟨rfl, hU46⟩
        have hzw46 := hU46.size
        replace hs := hs.upd0 hU46
        replace hs2 := hs2.upd0 hU46
        replace HU := HU.trans0 hU46
        replace hO4 := hO4.upd0 hU46
        refine Wl_v (r_mv (v := .tuple #[.pointer none, .int .i64 12]) rfl) ?_
        refine Wl_v (r_ext (v := .pointer none) rfl rfl) ?_
        refine Wl_v (r_ext (v := .int .i64 12) rfl rfl) ?_
        refine Wl_v (r_as (v := .pointer none) rfl) ?_
        refine Wl_v (r_as (v := .int .i64 12) rfl) ?_
        refine Wl_nil ?_
        refine W_seq ?_
        refine W_region ?_
        refine Wl_v (r_mv (v := .slice b m d) rfl) ?_
        by_cases q20 : Rt l2
        · have hbt_q20 := bt_bd q20
          have h256_q20 := (q20).2.1
          refine Wl_call (r_call1 rfl Try.call17 rfl) (new_ok _ hs2 (by omega) q20) ?_
          rintro v w47 ⟨tb47, ea47, ec47, la47, lc47, rfl, hT47, hE47, hL47, htg_47, hU47⟩
          have hzw47 := hU47.size
          replace hs := hs.upd0 hU47
          replace hs2 := hs2.upd0 hU47
          replace HU := HU.trans0 hU47
          replace hO4 := hO4.upd0 hU47
          have hbl_hT47 := hT47.lt
          replace hE47 := hE47.tight
          have hl_hE47 := rlen encE_len (by decide) hE47.sl
          have hc_hE47 := hE47.sl.cap.1
          replace hL47 := hL47.tight
          have hl_hL47 := ilen hL47.sl
          have hc_hL47 := hL47.sl.cap.1
          refine Wl_v (r_mv (v := .tuple #[.pointer (some ⟨tb47, 0, none⟩), .int .i64 0]) rfl) ?_
          refine Wl_v (r_ext (v := .pointer (some ⟨tb47, 0, none⟩)) rfl rfl) ?_
          refine Wl_v (r_ext (v := .int .i64 0) rfl rfl) ?_
          refine Wl_v (r_as (v := .pointer (some ⟨tb47, 0, none⟩)) rfl) ?_
          refine Wl_v (r_as (v := .int .i64 0) rfl) ?_
          refine Wl_nil ?_
          refine W_seq ?_
          refine W_seq ?_
          refine W_region ?_
          refine Wl_v (r_as (v := .int .i64 0) rfl) ?_
          refine Wl_nil ?_
          refine W_block ?_
          refine W_loop (fun mu ρ ds w' => ∃ (k : Nat) (ys : List Int), n - k = mu ∧ ds = [] ∧ Liv ρ [(0, .slice a n c), (1, .slice b m d), (5, .slice a4 n c4), (6, .pointer none), (7, .int .i64 12), (8, .pointer (some ⟨tb47, 0, none⟩)), (9, .int .i64 0), (10, .int .i64 ((k : Nat) : Int))] ∧ k ≤ n ∧ Own w' (fun g => ((((g = B3) ∨ g = w3.heap.size)) ∧ g < w4.heap.size)) 3 1 (.slice a4 n c4) n (ints .i64 ys) ∧ Upd (fun g => ((((g = B3) ∨ g = w3.heap.size)) ∧ g < w4.heap.size)) w47 w') _ ⟨0, l, rfl, rfl, ⟨rfl, rfl, rfl, rfl, rfl, rfl, rfl, (by first | rfl | exact vint (by omega) | exact vint (by simp)), trivial⟩, (by omega), hO4, Upd.refl _ _⟩ ?_
          rintro m48 ρ48 ds48 w48 ⟨k, ys, rfl, rfl, hl48, hk, hO4, hU48⟩
          obtain ⟨ρ48x, rfl⟩ : ∃ ρx, ρ48 = upds ρx [(0, .slice a n c), (1, .slice b m d), (5, .slice a4 n c4), (6, .pointer none), (7, .int .i64 12), (8, .pointer (some ⟨tb47, 0, none⟩)), (9, .int .i64 0), (10, .int .i64 ((k : Nat) : Int))] := ⟨_, upds_self hl48⟩
          clear hl48
          have hzw48 := hU48.size
          replace hs := hs.upd hU48 (by intro x h1 h2; have h3 : x < w.heap.size := h1; have h4 : ((((x = B3) ∨ x = w3.heap.size)) ∧ x < w4.heap.size) := h2; omega)
          replace hs2 := hs2.upd hU48 (by intro x h1 h2; have h3 : x < w.heap.size := h1; have h4 : ((((x = B3) ∨ x = w3.heap.size)) ∧ x < w4.heap.size) := h2; omega)
          replace HU := HU.trans hU48 (by intro x hx; have hx2 : ((((x = B3) ∨ x = w3.heap.size)) ∧ x < w4.heap.size) := hx; show (False) ∨ w.heap.size ≤ x; omega)
          replace hT47 := hT47.upd hU48 (by intro hx; have hx2 : ((((tb47 = B3) ∨ tb47 = w3.heap.size)) ∧ tb47 < w4.heap.size) := hx; omega)
          replace hE47 := hE47.upd hU48 (by intro x h1 h2; have h3 : ((w46.heap.size ≤ x ∧ x ≠ tb47) ∧ x < w47.heap.size) := h1; have h4 : ((((x = B3) ∨ x = w3.heap.size)) ∧ x < w4.heap.size) := h2; omega)
          replace hL47 := hL47.upd hU48 (by intro x h1 h2; have h3 : ((w46.heap.size ≤ x ∧ x ≠ tb47) ∧ x < w47.heap.size) := h1; have h4 : ((((x = B3) ∨ x = w3.heap.size)) ∧ x < w4.heap.size) := h2; omega)
          have HL48 := hU48
          refine W_seq ?_
          refine W_seq ?_
          refine W_region ?_
          refine Wl_v (r_mv (v := .int .i64 ((k : Nat) : Int)) rfl) ?_
          refine Wl_v (r_mv (v := .slice a4 n c4) rfl) ?_
          refine Wl_v (r_len Try.underlying22 rfl) ?_
          refine Wl_v (r_lt rfl rfl) ?_
          refine Wl_nil ?_
          by_cases q21 : ((k : Nat) : Int) < ((n : Nat) : Int)
          · rw [decide_eq_true q21]
            refine W_cond_t rfl ?_
            refine W_skip ?_
            refine W_seq ?_
            refine W_block ?_
            refine W_region ?_
            refine Wl_v (r_mv (v := .slice a4 n c4) rfl) ?_
            refine Wl_v (r_mv (v := .int .i64 ((k : Nat) : Int)) rfl) ?_
            obtain ⟨g49, rfl, hg49⟩ := hO4.addr (by omega)
            replace hg49 : ((((g49 = B3) ∨ g49 = w3.heap.size)) ∧ g49 < w4.heap.size) := hg49
            refine Wl_idxo (i' := k) Try.underlying22 Try.sizeOf3 rfl rfl hO4 (by omega) (by omega) ?_
            intro hc50
            refine Wl_storeo (i := k) Try.sizeOf3 rfl rfl hO4 (by omega) ?_
            intro w51 hU51 hzz51 hO51
            clear hO4
            have hzw51 := hU51.size
            replace hs := hs.upd1 hU51 (by intro h1; have h3 : g49 < w.heap.size := h1; omega)
            replace hs2 := hs2.upd1 hU51 (by intro h1; have h3 : g49 < w.heap.size := h1; omega)
            replace HU := HU.trans1 hU51 (by show (False) ∨ w.heap.size ≤ g49; omega)
            replace hT47 := hT47.upd1 hU51 (by omega)
            replace hE47 := hE47.upd1 hU51 (by intro h1; have h3 : ((w46.heap.size ≤ g49 ∧ g49 ≠ tb47) ∧ g49 < w47.heap.size) := h1; omega)
            replace hL47 := hL47.upd1 hU51 (by intro h1; have h3 : ((w46.heap.size ≤ g49 ∧ g49 ≠ tb47) ∧ g49 < w47.heap.size) := h1; omega)
            replace HL48 := HL48.trans1 hU51 (by show (((((g49 = B3) ∨ g49 = w3.heap.size)) ∧ g49 < w4.heap.size)) ∨ w47.heap.size ≤ g49; omega)
            have hl_hO51 := ilen hO51.sl
            have hc_hO51 := hO51.sl.cap.1
            refine Wl_nil ?_
            refine W_region ?_
            refine Wl_v (r_mv (v := .int .i64 ((k : Nat) : Int)) rfl) ?_
            refine Wl_v (r_add rfl rfl (wi64 (by omega) (by omega))) ?_
            refine Wl_v (r_as (v := .int .i64 (((k : Nat) : Int) + 1)) rfl) ?_
            refine Wl_nil ?_
            refine ⟨_, ?_, (k + 1), ys.set k 1, rfl, rfl, ⟨rfl, rfl, rfl, rfl, rfl, rfl, rfl, (by first | rfl | exact vint (by omega) | exact vint (by simp)), trivial⟩, (by omega), hO51, HL48⟩
            omega
          · rw [decide_eq_false q21]
            refine W_cond_f rfl ?_
            refine W_exit ?_
            refine W_seq ?_
            refine W_region ?_
            refine Wl_v (r_mv (v := .slice a n c) rfl) ?_
            refine Wl_call (r_call1 rfl Try.call21 rfl) (rright_spec _ hs (by omega)) ?_
            rintro v w52 ⟨rfl, hU52⟩
            have hzw52 := hU52.size
            replace hs := hs.upd0 hU52
            replace hs2 := hs2.upd0 hU52
            replace HU := HU.trans0 hU52
            replace hT47 := hT47.upd0 hU52
            replace hE47 := hE47.upd0 hU52
            replace hL47 := hL47.upd0 hU52
            replace hO4 := hO4.upd0 hU52
            refine Wl_v (r_mv (v := .slice b m d) rfl) ?_
            refine Wl_call (r_call1 rfl Try.call21 rfl) (rright_spec _ hs2 (by omega)) ?_
            rintro v w53 ⟨rfl, hU53⟩
            have hzw53 := hU53.size
            replace hs := hs.upd0 hU53
            replace hs2 := hs2.upd0 hU53
            replace HU := HU.trans0 hU53
            replace hT47 := hT47.upd0 hU53
            replace hE47 := hE47.upd0 hU53
            replace hL47 := hL47.upd0 hU53
            replace hO4 := hO4.upd0 hU53
            refine Wl_v (r_as (v := .bool (decide (Rt l))) rfl) ?_
            refine Wl_v (r_as (v := .bool (decide (Rt l2))) rfl) ?_
            refine Wl_nil ?_
            refine W_seq ?_
            refine W_seq ?_
            refine W_region ?_
            refine Wl_v (r_mv (v := .int .i64 12) rfl) ?_
            refine Wl_call (r_call1 rfl Try.call15 rfl) (num15 _ ) ?_
            rintro v w54 ⟨rfl, hU54⟩
            have hzw54 := hU54.size
            replace hs := hs.upd0 hU54
            replace hs2 := hs2.upd0 hU54
            replace HU := HU.trans0 hU54
            replace hT47 := hT47.upd0 hU54
            replace hE47 := hE47.upd0 hU54
            replace hL47 := hL47.upd0 hU54
            replace hO4 := hO4.upd0 hU54
            refine Wl_v (v := .bool false) (r_eq (a := 12) (b := 0) rfl rfl) ?_
            refine Wl_v (r_mv (v := .bool (decide (Rt l))) rfl) ?_
            have q22 : ¬ (Rt l) := q3
            rw [decide_eq_false q22]
            refine Wl_v (v := .bool false) (r_neb (a := false) (b := false) Try.underlying4 rfl rfl) ?_
            refine Wl_v (r_mv (v := .bool false) rfl) ?_
            refine Wl_guard_t rfl ?_
            refine Wl_v (r_mv (v := .int .i64 0) rfl) ?_
            refine Wl_guard_t rfl ?_
            refine Wl_call (r_call1 rfl Try.call15 rfl) (num15 _ ) ?_
            rintro v w55 ⟨rfl, hU55⟩
            have hzw55 := hU55.size
            replace hs := hs.upd0 hU55
            replace hs2 := hs2.upd0 hU55
            replace HU := HU.trans0 hU55
            replace hT47 := hT47.upd0 hU55
            replace hE47 := hE47.upd0 hU55
            replace hL47 := hL47.upd0 hU55
            replace hO4 := hO4.upd0 hU55
            refine Wl_guard_t rfl ?_
            refine Wl_v (v := .bool true) (r_eq (a := 0) (b := 0) rfl rfl) ?_
            refine Wl_guard_t rfl ?_
            refine Wl_v (r_mv (v := .bool (decide (Rt l2))) rfl) ?_
            refine Wl_guard_t rfl ?_
            have q23 : Rt l2 := q20
            rw [decide_eq_true q23]
            refine Wl_v (v := .bool false) (r_neb (a := true) (b := true) Try.underlying4 rfl rfl) ?_
            refine Wl_v (r_pick_f (v := .bool false) rfl rfl) ?_
            refine Wl_nil ?_
            refine W_cond_f rfl ?_
            refine W_skip ?_
            refine W_seq ?_
            refine W_region ?_
            refine Wl_v (r_mv (v := .bool false) rfl) ?_
            refine Wl_v (r_not (b := false) rfl) ?_
            refine Wl_v (r_mv (v := .bool true) rfl) ?_
            refine Wl_guard_t rfl ?_
            refine Wl_v (r_mv (v := .bool true) rfl) ?_
            refine Wl_guard_t rfl ?_
            refine Wl_v (r_not (b := true) rfl) ?_
            refine Wl_v (r_pick_t (v := .bool false) rfl rfl) ?_
            refine Wl_v (r_mv (v := .bool false) rfl) ?_
            refine Wl_guard_t rfl ?_
            refine Wl_v (r_mv (v := .bool false) rfl) ?_
            refine Wl_guard_t rfl ?_
            refine Wl_v (r_mv (v := .bool false) rfl) ?_
            refine Wl_guard_f rfl ?_
            refine Wl_guard_t rfl ?_
            refine Wl_v (r_pick_f (v := .bool false) rfl rfl) ?_
            refine Wl_guard_t rfl ?_
            refine Wl_v (r_mv (v := .bool false) rfl) ?_
            refine Wl_guard_f rfl ?_
            refine Wl_guard_f rfl ?_
            refine Wl_guard_f rfl ?_
            refine Wl_guard_f rfl ?_
            refine Wl_guard_f rfl ?_
            refine Wl_guard_t rfl ?_
            refine Wl_v (r_pick_f (v := .bool false) rfl rfl) ?_
            refine Wl_v (r_pick_f (v := .bool false) rfl rfl) ?_
            refine Wl_v (r_as (v := .bool false) rfl) ?_
            refine Wl_nil ?_
            refine W_seq ?_
            refine W_seq ?_
            refine W_region ?_
            refine Wl_v (r_mv (v := .pointer none) rfl) ?_
            refine Wl_v (r_mv (v := .pointer (some ⟨tb47, 0, none⟩)) rfl) ?_
            refine Wl_call (r_call2 rfl Try.call29 rfl rfl) (eq_nl _ hT47 q23) ?_
            rintro v w56 ⟨rfl, hU56⟩
            have hzw56 := hU56.size
            replace hs := hs.upd0 hU56
            replace hs2 := hs2.upd0 hU56
            replace HU := HU.trans0 hU56
            replace hT47 := hT47.upd0 hU56
            replace hE47 := hE47.upd0 hU56
            replace hL47 := hL47.upd0 hU56
            replace hO4 := hO4.upd0 hU56
            refine Wl_v (r_mv (v := .bool false) rfl) ?_
            refine Wl_v (v := .bool false) (r_neb (a := false) (b := false) Try.underlying4 rfl rfl) ?_
            refine Wl_v (r_mv (v := .bool false) rfl) ?_
            refine Wl_guard_t rfl ?_
            refine Wl_v (r_mv (v := .pointer (some ⟨tb47, 0, none⟩)) rfl) ?_
            refine Wl_guard_t rfl ?_
            refine Wl_v (r_mv (v := .pointer none) rfl) ?_
            refine Wl_guard_t rfl ?_
            refine Wl_call (r_call2 rfl Try.call29 rfl rfl) (eq_ln _ hT47 q23) ?_
            rintro v w57 ⟨rfl, hU57⟩
            have hzw57 := hU57.size
            replace hs := hs.upd0 hU57
            replace hs2 := hs2.upd0 hU57
            replace HU := HU.trans0 hU57
            replace hT47 := hT47.upd0 hU57
            replace hE47 := hE47.upd0 hU57
            replace hL47 := hL47.upd0 hU57
            replace hO4 := hO4.upd0 hU57
            refine Wl_guard_t rfl ?_
            refine Wl_v (r_mv (v := .bool false) rfl) ?_
            refine Wl_guard_t rfl ?_
            refine Wl_v (v := .bool false) (r_neb (a := false) (b := false) Try.underlying4 rfl rfl) ?_
            refine Wl_v (r_pick_f (v := .bool false) rfl rfl) ?_
            refine Wl_v (r_mv (v := .bool false) rfl) ?_
            refine Wl_guard_t rfl ?_
            refine Wl_v (r_mv (v := .pointer none) rfl) ?_
            refine Wl_guard_t rfl ?_
            refine Wl_v (r_mv (v := .pointer none) rfl) ?_
            refine Wl_guard_t rfl ?_
            refine Wl_call (r_call2 rfl Try.call29 rfl rfl) (eq_nn _ ) ?_
            rintro v w58 ⟨rfl, hU58⟩
            have hzw58 := hU58.size
            replace hs := hs.upd0 hU58
            replace hs2 := hs2.upd0 hU58
            replace HU := HU.trans0 hU58
            replace hT47 := hT47.upd0 hU58
            replace hE47 := hE47.upd0 hU58
            replace hL47 := hL47.upd0 hU58
            replace hO4 := hO4.upd0 hU58
            refine Wl_guard_t rfl ?_
            refine Wl_v (r_not (b := true) rfl) ?_
            refine Wl_v (r_pick_f (v := .bool false) rfl rfl) ?_
            refine Wl_nil ?_
            refine W_cond_f rfl ?_
            refine W_skip ?_
            refine W_seq ?_
            refine W_region ?_
            refine Wl_v (r_mv (v := .bool false) rfl) ?_
            refine Wl_v (r_not (b := false) rfl) ?_
            refine Wl_v (r_mv (v := .bool true) rfl) ?_
            refine Wl_guard_t rfl ?_
            refine Wl_v (r_mv (v := .pointer none) rfl) ?_
            refine Wl_guard_t rfl ?_
            refine Wl_call (r_call1 rfl Try.call30 rfl) (lens_nil _ ) ?_
            rintro v w59 ⟨rfl, hU59⟩
            have hzw59 := hU59.size
            replace hs := hs.upd0 hU59
            replace hs2 := hs2.upd0 hU59
            replace HU := HU.trans0 hU59
            replace hT47 := hT47.upd0 hU59
            replace hE47 := hE47.upd0 hU59
            replace hL47 := hL47.upd0 hU59
            replace hO4 := hO4.upd0 hU59
            refine Wl_guard_t rfl ?_
            refine Wl_v (r_len Try.underlying22 rfl) ?_
            refine Wl_guard_t rfl ?_
            refine Wl_v (v := .bool true) (r_eq (a := 0) (b := 0) rfl rfl) ?_
            refine Wl_v (r_pick_t (v := .bool true) rfl rfl) ?_
            refine Wl_v (r_mv (v := .bool true) rfl) ?_
            refine Wl_guard_f rfl ?_
            refine Wl_guard_f rfl ?_
            refine Wl_skip rfl ?_
            refine Wl_skip rfl ?_
            refine Wl_skip rfl ?_
            refine Wl_skip rfl ?_
            refine Wl_guard_f rfl ?_
            refine Wl_v (r_pick_t (v := .bool true) rfl rfl) ?_
            refine Wl_v (r_mv (v := .bool true) rfl) ?_
            refine Wl_guard_t rfl ?_
            refine Wl_call (r_call0 rfl Try.call11 ) (works15 _ ) ?_
            rintro v w60 ⟨rfl, hU60⟩
            have hzw60 := hU60.size
            replace hs := hs.upd0 hU60
            replace hs2 := hs2.upd0 hU60
            replace HU := HU.trans0 hU60
            replace hT47 := hT47.upd0 hU60
            replace hE47 := hE47.upd0 hU60
            replace hL47 := hL47.upd0 hU60
            replace hO4 := hO4.upd0 hU60
            refine Wl_v (r_pick_t (v := .bool true) rfl rfl) ?_
            refine Wl_v (r_as (v := .bool true) rfl) ?_
            refine Wl_nil ?_
            refine W_ret ?_
            refine ret_end (v := .bool true) rfl (res1 Try.results9 rfl) ?_
            exact ⟨_, rfl, rfl, HU⟩
        · refine Wl_call (r_call1 rfl Try.call17 rfl) (new_no _ hs2 (by omega) q20) ?_
          rintro v w61 ⟨rfl, hU61⟩
          have hzw61 := hU61.size
          replace hs := hs.upd0 hU61
          replace hs2 := hs2.upd0 hU61
          replace HU := HU.trans0 hU61
          replace hO4 := hO4.upd0 hU61
          refine Wl_v (r_mv (v := .tuple #[.pointer none, .int .i64 12]) rfl) ?_
          refine Wl_v (r_ext (v := .pointer none) rfl rfl) ?_
          refine Wl_v (r_ext (v := .int .i64 12) rfl rfl) ?_
          refine Wl_v (r_as (v := .pointer none) rfl) ?_
          refine Wl_v (r_as (v := .int .i64 12) rfl) ?_
          refine Wl_nil ?_
          refine W_seq ?_
          refine W_seq ?_
          refine W_region ?_
          refine Wl_v (r_as (v := .int .i64 0) rfl) ?_
          refine Wl_nil ?_
          refine W_block ?_
          refine W_loop (fun mu ρ ds w' => ∃ (k : Nat) (ys : List Int), n - k = mu ∧ ds = [] ∧ Liv ρ [(0, .slice a n c), (1, .slice b m d), (5, .slice a4 n c4), (6, .pointer none), (7, .int .i64 12), (8, .pointer none), (9, .int .i64 12), (10, .int .i64 ((k : Nat) : Int))] ∧ k ≤ n ∧ Own w' (fun g => ((((g = B3) ∨ g = w3.heap.size)) ∧ g < w4.heap.size)) 3 1 (.slice a4 n c4) n (ints .i64 ys) ∧ Upd (fun g => ((((g = B3) ∨ g = w3.heap.size)) ∧ g < w4.heap.size)) w61 w') _ ⟨0, l, rfl, rfl, ⟨rfl, rfl, rfl, rfl, rfl, rfl, rfl, (by first | rfl | exact vint (by omega) | exact vint (by simp)), trivial⟩, (by omega), hO4, Upd.refl _ _⟩ ?_
          rintro m62 ρ62 ds62 w62 ⟨k, ys, rfl, rfl, hl62, hk, hO4, hU62⟩
          obtain ⟨ρ62x, rfl⟩ : ∃ ρx, ρ62 = upds ρx [(0, .slice a n c), (1, .slice b m d), (5, .slice a4 n c4), (6, .pointer none), (7, .int .i64 12), (8, .pointer none), (9, .int .i64 12), (10, .int .i64 ((k : Nat) : Int))] := ⟨_, upds_self hl62⟩
          clear hl62
          have hzw62 := hU62.size
          replace hs := hs.upd hU62 (by intro x h1 h2; have h3 : x < w.heap.size := h1; have h4 : ((((x = B3) ∨ x = w3.heap.size)) ∧ x < w4.heap.size) := h2; omega)
          replace hs2 := hs2.upd hU62 (by intro x h1 h2; have h3 : x < w.heap.size := h1; have h4 : ((((x = B3) ∨ x = w3.heap.size)) ∧ x < w4.heap.size) := h2; omega)
          replace HU := HU.trans hU62 (by intro x hx; have hx2 : ((((x = B3) ∨ x = w3.heap.size)) ∧ x < w4.heap.size) := hx; show (False) ∨ w.heap.size ≤ x; omega)
          have HL62 := hU62
          refine W_seq ?_
          refine W_seq ?_
          refine W_region ?_
          refine Wl_v (r_mv (v := .int .i64 ((k : Nat) : Int)) rfl) ?_
          refine Wl_v (r_mv (v := .slice a4 n c4) rfl) ?_
          refine Wl_v (r_len Try.underlying22 rfl) ?_
          refine Wl_v (r_lt rfl rfl) ?_
          refine Wl_nil ?_
          by_cases q24 : ((k : Nat) : Int) < ((n : Nat) : Int)
          · rw [decide_eq_true q24]
            refine W_cond_t rfl ?_
            refine W_skip ?_
            refine W_seq ?_
            refine W_block ?_
            refine W_region ?_
            refine Wl_v (r_mv (v := .slice a4 n c4) rfl) ?_
            refine Wl_v (r_mv (v := .int .i64 ((k : Nat) : Int)) rfl) ?_
            obtain ⟨g63, rfl, hg63⟩ := hO4.addr (by omega)
            replace hg63 : ((((g63 = B3) ∨ g63 = w3.heap.size)) ∧ g63 < w4.heap.size) := hg63
            refine Wl_idxo (i' := k) Try.underlying22 Try.sizeOf3 rfl rfl hO4 (by omega) (by omega) ?_
            intro hc64
            refine Wl_storeo (i := k) Try.sizeOf3 rfl rfl hO4 (by omega) ?_
            intro w65 hU65 hzz65 hO65
            clear hO4
            have hzw65 := hU65.size
            replace hs := hs.upd1 hU65 (by intro h1; have h3 : g63 < w.heap.size := h1; omega)
            replace hs2 := hs2.upd1 hU65 (by intro h1; have h3 : g63 < w.heap.size := h1; omega)
            replace HU := HU.trans1 hU65 (by show (False) ∨ w.heap.size ≤ g63; omega)
            replace HL62 := HL62.trans1 hU65 (by show (((((g63 = B3) ∨ g63 = w3.heap.size)) ∧ g63 < w4.heap.size)) ∨ w61.heap.size ≤ g63; omega)
            have hl_hO65 := ilen hO65.sl
            have hc_hO65 := hO65.sl.cap.1
            refine Wl_nil ?_
            refine W_region ?_
            refine Wl_v (r_mv (v := .int .i64 ((k : Nat) : Int)) rfl) ?_
            refine Wl_v (r_add rfl rfl (wi64 (by omega) (by omega))) ?_
            refine Wl_v (r_as (v := .int .i64 (((k : Nat) : Int) + 1)) rfl) ?_
            refine Wl_nil ?_
            refine ⟨_, ?_, (k + 1), ys.set k 1, rfl, rfl, ⟨rfl, rfl, rfl, rfl, rfl, rfl, rfl, (by first | rfl | exact vint (by omega) | exact vint (by simp)), trivial⟩, (by omega), hO65, HL62⟩
            omega
          · rw [decide_eq_false q24]
            refine W_cond_f rfl ?_
            refine W_exit ?_
            refine W_seq ?_
            refine W_region ?_
            refine Wl_v (r_mv (v := .slice a n c) rfl) ?_
            refine Wl_call (r_call1 rfl Try.call21 rfl) (rright_spec _ hs (by omega)) ?_
            rintro v w66 ⟨rfl, hU66⟩
            have hzw66 := hU66.size
            replace hs := hs.upd0 hU66
            replace hs2 := hs2.upd0 hU66
            replace HU := HU.trans0 hU66
            replace hO4 := hO4.upd0 hU66
            refine Wl_v (r_mv (v := .slice b m d) rfl) ?_
            refine Wl_call (r_call1 rfl Try.call21 rfl) (rright_spec _ hs2 (by omega)) ?_
            rintro v w67 ⟨rfl, hU67⟩
            have hzw67 := hU67.size
            replace hs := hs.upd0 hU67
            replace hs2 := hs2.upd0 hU67
            replace HU := HU.trans0 hU67
            replace hO4 := hO4.upd0 hU67
            refine Wl_v (r_as (v := .bool (decide (Rt l))) rfl) ?_
            refine Wl_v (r_as (v := .bool (decide (Rt l2))) rfl) ?_
            refine Wl_nil ?_
            refine W_seq ?_
            refine W_seq ?_
            refine W_region ?_
            refine Wl_v (r_mv (v := .int .i64 12) rfl) ?_
            refine Wl_call (r_call1 rfl Try.call15 rfl) (num15 _ ) ?_
            rintro v w68 ⟨rfl, hU68⟩
            have hzw68 := hU68.size
            replace hs := hs.upd0 hU68
            replace hs2 := hs2.upd0 hU68
            replace HU := HU.trans0 hU68
            replace hO4 := hO4.upd0 hU68
            refine Wl_v (v := .bool false) (r_eq (a := 12) (b := 0) rfl rfl) ?_
            refine Wl_v (r_mv (v := .bool (decide (Rt l))) rfl) ?_
            have q25 : ¬ (Rt l) := q3
            rw [decide_eq_false q25]
            refine Wl_v (v := .bool false) (r_neb (a := false) (b := false) Try.underlying4 rfl rfl) ?_
            refine Wl_v (r_mv (v := .bool false) rfl) ?_
            refine Wl_guard_t rfl ?_
            refine Wl_v (r_mv (v := .int .i64 12) rfl) ?_
            refine Wl_guard_t rfl ?_
            refine Wl_call (r_call1 rfl Try.call15 rfl) (num15 _ ) ?_
            rintro v w69 ⟨rfl, hU69⟩
            have hzw69 := hU69.size
            replace hs := hs.upd0 hU69
            replace hs2 := hs2.upd0 hU69
            replace HU := HU.trans0 hU69
            replace hO4 := hO4.upd0 hU69
            refine Wl_guard_t rfl ?_
            refine Wl_v (v := .bool false) (r_eq (a := 12) (b := 0) rfl rfl) ?_
            refine Wl_guard_t rfl ?_
            refine Wl_v (r_mv (v := .bool (decide (Rt l2))) rfl) ?_
            refine Wl_guard_t rfl ?_
            have q26 : ¬ (Rt l2) := q20
            rw [decide_eq_false q26]
            refine Wl_v (v := .bool false) (r_neb (a := false) (b := false) Try.underlying4 rfl rfl) ?_
            refine Wl_v (r_pick_f (v := .bool false) rfl rfl) ?_
            refine Wl_nil ?_
            refine W_cond_f rfl ?_
            refine W_skip ?_
            refine W_seq ?_
            refine W_region ?_
            refine Wl_v (r_mv (v := .bool false) rfl) ?_
            refine Wl_v (r_not (b := false) rfl) ?_
            refine Wl_v (r_mv (v := .bool true) rfl) ?_
            refine Wl_guard_t rfl ?_
            refine Wl_v (r_mv (v := .bool false) rfl) ?_
            refine Wl_guard_t rfl ?_
            refine Wl_v (r_not (b := false) rfl) ?_
            refine Wl_v (r_pick_t (v := .bool true) rfl rfl) ?_
            refine Wl_v (r_mv (v := .bool true) rfl) ?_
            refine Wl_guard_f rfl ?_
            refine Wl_guard_f rfl ?_
            refine Wl_skip rfl ?_
            refine Wl_guard_f rfl ?_
            refine Wl_guard_f rfl ?_
            refine Wl_skip rfl ?_
            refine Wl_skip rfl ?_
            refine Wl_skip rfl ?_
            refine Wl_skip rfl ?_
            refine Wl_skip rfl ?_
            refine Wl_guard_f rfl ?_
            refine Wl_v (r_pick_t (v := .bool true) rfl rfl) ?_
            refine Wl_v (r_as (v := .bool true) rfl) ?_
            refine Wl_nil ?_
            refine W_seq ?_
            refine W_seq ?_
            refine W_region ?_
            refine Wl_v (r_mv (v := .pointer none) rfl) ?_
            refine Wl_v (r_mv (v := .pointer none) rfl) ?_
            refine Wl_call (r_call2 rfl Try.call29 rfl rfl) (eq_nn _ ) ?_
            rintro v w70 ⟨rfl, hU70⟩
            have hzw70 := hU70.size
            replace hs := hs.upd0 hU70
            replace hs2 := hs2.upd0 hU70
            replace HU := HU.trans0 hU70
            replace hO4 := hO4.upd0 hU70
            refine Wl_v (r_mv (v := .bool true) rfl) ?_
            refine Wl_v (v := .bool false) (r_neb (a := true) (b := true) Try.underlying4 rfl rfl) ?_
            refine Wl_v (r_mv (v := .bool false) rfl) ?_
            refine Wl_guard_t rfl ?_
            refine Wl_v (r_mv (v := .pointer none) rfl) ?_
            refine Wl_guard_t rfl ?_
            refine Wl_v (r_mv (v := .pointer none) rfl) ?_
            refine Wl_guard_t rfl ?_
            refine Wl_call (r_call2 rfl Try.call29 rfl rfl) (eq_nn _ ) ?_
            rintro v w71 ⟨rfl, hU71⟩
            have hzw71 := hU71.size
            replace hs := hs.upd0 hU71
            replace hs2 := hs2.upd0 hU71
            replace HU := HU.trans0 hU71
            replace hO4 := hO4.upd0 hU71
            refine Wl_guard_t rfl ?_
            refine Wl_v (r_mv (v := .bool true) rfl) ?_
            refine Wl_guard_t rfl ?_
            refine Wl_v (v := .bool false) (r_neb (a := true) (b := true) Try.underlying4 rfl rfl) ?_
            refine Wl_v (r_pick_f (v := .bool false) rfl rfl) ?_
            refine Wl_v (r_mv (v := .bool false) rfl) ?_
            refine Wl_guard_t rfl ?_
            refine Wl_v (r_mv (v := .pointer none) rfl) ?_
            refine Wl_guard_t rfl ?_
            refine Wl_v (r_mv (v := .pointer none) rfl) ?_
            refine Wl_guard_t rfl ?_
            refine Wl_call (r_call2 rfl Try.call29 rfl rfl) (eq_nn _ ) ?_
            rintro v w72 ⟨rfl, hU72⟩
            have hzw72 := hU72.size
            replace hs := hs.upd0 hU72
            replace hs2 := hs2.upd0 hU72
            replace HU := HU.trans0 hU72
            replace hO4 := hO4.upd0 hU72
            refine Wl_guard_t rfl ?_
            refine Wl_v (r_not (b := true) rfl) ?_
            refine Wl_v (r_pick_f (v := .bool false) rfl rfl) ?_
            refine Wl_nil ?_
            refine W_cond_f rfl ?_
            refine W_skip ?_
            refine W_seq ?_
            refine W_region ?_
            refine Wl_v (r_mv (v := .bool false) rfl) ?_
            refine Wl_v (r_not (b := false) rfl) ?_
            refine Wl_v (r_mv (v := .bool true) rfl) ?_
            refine Wl_guard_t rfl ?_
            refine Wl_v (r_mv (v := .pointer none) rfl) ?_
            refine Wl_guard_t rfl ?_
            refine Wl_call (r_call1 rfl Try.call30 rfl) (lens_nil _ ) ?_
            rintro v w73 ⟨rfl, hU73⟩
            have hzw73 := hU73.size
            replace hs := hs.upd0 hU73
            replace hs2 := hs2.upd0 hU73
            replace HU := HU.trans0 hU73
            replace hO4 := hO4.upd0 hU73
            refine Wl_guard_t rfl ?_
            refine Wl_v (r_len Try.underlying22 rfl) ?_
            refine Wl_guard_t rfl ?_
            refine Wl_v (v := .bool true) (r_eq (a := 0) (b := 0) rfl rfl) ?_
            refine Wl_v (r_pick_t (v := .bool true) rfl rfl) ?_
            refine Wl_v (r_mv (v := .bool true) rfl) ?_
            refine Wl_guard_f rfl ?_
            refine Wl_guard_f rfl ?_
            refine Wl_skip rfl ?_
            refine Wl_skip rfl ?_
            refine Wl_skip rfl ?_
            refine Wl_skip rfl ?_
            refine Wl_guard_f rfl ?_
            refine Wl_v (r_pick_t (v := .bool true) rfl rfl) ?_
            refine Wl_v (r_mv (v := .bool true) rfl) ?_
            refine Wl_guard_t rfl ?_
            refine Wl_call (r_call0 rfl Try.call11 ) (works15 _ ) ?_
            rintro v w74 ⟨rfl, hU74⟩
            have hzw74 := hU74.size
            replace hs := hs.upd0 hU74
            replace hs2 := hs2.upd0 hU74
            replace HU := HU.trans0 hU74
            replace hO4 := hO4.upd0 hU74
            refine Wl_v (r_pick_t (v := .bool true) rfl rfl) ?_
            refine Wl_v (r_as (v := .bool true) rfl) ?_
            refine Wl_nil ?_
            refine W_ret ?_
            refine ret_end (v := .bool true) rfl (res1 Try.results9 rfl) ?_
            exact ⟨_, rfl, rfl, HU⟩

set_option maxHeartbeats 4000000 in
set_option maxRecDepth 100000 in
theorem lookupruns {a : Option Addr} {n c : Nat} {l : List Int} {many : Int} (w : World) (hs : Sl w (fun g => g < w.heap.size) 1 (.slice a n c) n (ints .i64 l)) (hn : n ≤ 17592186044415) (rmany : -9223372036854775808 ≤ many ∧ many ≤ 9223372036854775807) :
    Calls Try.prog 7 #[.slice a n c, .int .i64 many] w (Ret fun v w' => v = .bool true ∧ Upd No w w') := by
  have HU : Upd (fun b => False) w w := Upd.refl _ _
  have hl_hs := ilen hs
  have hc_hs := hs.cap.1
  have hmx := mx_bt l
  refine calls_of_W Try.func7 rfl Try.ntmps7 (by simp) ?_
  refine W_seq ?_
  refine W_region ?_
  refine Wl_box (v := .int .i64 many) (cs := [.int .i64 many]) rfl rfl ?_
  intro B1 w1 hB1 hU1 hzz1 hb1
  have hzw1 := hU1.size
  replace hs := hs.upd0 hU1
  replace HU := HU.trans0 hU1
  refine Wl_alloc (cs := [.bool false]) Try.zeroValue4 rfl ?_
  intro B2 w2 hB2 hU2 hzz2 hb2
  have hzw2 := hU2.size
  replace hs := hs.upd0 hU2
  replace HU := HU.trans0 hU2
  replace hb1 := hb1.upd0 hU2
  refine Wl_nil ?_
  refine W_seq ?_
  refine W_seq ?_
  refine W_region ?_
  refine Wl_v (r_mv (v := .slice a n c) rfl) ?_
  refine Wl_v (r_len Try.underlying22 rfl) ?_
  refine Wl_v (r_gt rfl rfl) ?_
  refine Wl_nil ?_
  by_cases q1 : 300 < ((n : Nat) : Int)
  · rw [decide_eq_true q1]
    refine W_cond_t rfl ?_
    refine W_seq ?_
    refine W_region ?_
    refine Wl_call (r_call0 rfl Try.call11 ) (works15 _ ) ?_
    rintro v w3 ⟨rfl, hU3⟩
    have hzw3 := hU3.size
    replace hs := hs.upd0 hU3
    replace HU := HU.trans0 hU3
    replace hb1 := hb1.upd0 hU3
    replace hb2 := hb2.upd0 hU3
    refine Wl_store (v := .bool true) (cs' := [.bool true]) Try.sizeOf4 rfl rfl rfl rfl hb2 rfl rfl ?_
    intro w4 hU4 hzz4 hb2n
    replace hb2 := hb2n; clear hb2n
    have hzw4 := hU4.size
    replace hs := hs.upd1 hU4 (by intro h1; have h3 : B2 < w.heap.size := h1; omega)
    replace HU := HU.trans1 hU4 (by show (False) ∨ w.heap.size ≤ B2; omega)
    replace hb1 := hb1.upd1 hU4 (by omega)
    refine Wl_nil ?_
    refine W_ret ?_
    refine ret_end (v := .bool true) rfl (rc1 Try.results7 rfl (cellIs Try.isAgg4 hb2)) ?_
    exact ⟨_, rfl, rfl, HU⟩
  · rw [decide_eq_false q1]
    refine W_cond_f rfl ?_
    refine W_skip ?_
    refine W_seq ?_
    refine W_region ?_
    refine Wl_v (r_mv (v := .slice a n c) rfl) ?_
    by_cases q2 : Rt l
    · have hbt := bt_bd q2
      have h11 := (p2_le11 hbt.2).2
      have hpn := p2_nat (bt l)
      have h256 := (q2).2.1
      refine Wl_call (r_call1 rfl Try.call17 rfl) (new_ok _ hs (by omega) q2) ?_
      rintro v w5 ⟨tb5, ea5, ec5, la5, lc5, rfl, hT5, hE5, hL5, htg_5, hU5⟩
      have hzw5 := hU5.size
      replace hs := hs.upd0 hU5
      replace HU := HU.trans0 hU5
      replace hb1 := hb1.upd0 hU5
      replace hb2 := hb2.upd0 hU5
      have hbl_hT5 := hT5.lt
      replace hE5 := hE5.tight
      have hl_hE5 := rlen encE_len (by decide) hE5.sl
      have hc_hE5 := hE5.sl.cap.1
      replace hL5 := hL5.tight
      have hl_hL5 := ilen hL5.sl
      have hc_hL5 := hL5.sl.cap.1
      refine Wl_v (r_mv (v := .tuple #[.pointer (some ⟨tb5, 0, none⟩), .int .i64 0]) rfl) ?_
      refine Wl_v (r_ext (v := .pointer (some ⟨tb5, 0, none⟩)) rfl rfl) ?_
      refine Wl_v (r_ext (v := .int .i64 0) rfl rfl) ?_
      refine Wl_v (r_as (v := .pointer (some ⟨tb5, 0, none⟩)) rfl) ?_
      refine Wl_v (r_as (v := .int .i64 0) rfl) ?_
      refine Wl_nil ?_
      refine W_seq ?_
      refine W_seq ?_
      refine W_region ?_
      refine Wl_v (r_mv (v := .int .i64 0) rfl) ?_
      refine Wl_call (r_call1 rfl Try.call15 rfl) (num15 _ ) ?_
      rintro v w6 ⟨rfl, hU6⟩
      have hzw6 := hU6.size
      replace hs := hs.upd0 hU6
      replace HU := HU.trans0 hU6
      replace hb1 := hb1.upd0 hU6
      replace hb2 := hb2.upd0 hU6
      replace hT5 := hT5.upd0 hU6
      replace hE5 := hE5.upd0 hU6
      replace hL5 := hL5.upd0 hU6
      refine Wl_v (v := .bool true) (r_eq (a := 0) (b := 0) rfl rfl) ?_
      refine Wl_v (r_mv (v := .slice a n c) rfl) ?_
      refine Wl_call (r_call1 rfl Try.call21 rfl) (rright_spec _ hs (by omega)) ?_
      rintro v w7 ⟨rfl, hU7⟩
      have hzw7 := hU7.size
      replace hs := hs.upd0 hU7
      replace HU := HU.trans0 hU7
      replace hb1 := hb1.upd0 hU7
      replace hb2 := hb2.upd0 hU7
      replace hT5 := hT5.upd0 hU7
      replace hE5 := hE5.upd0 hU7
      replace hL5 := hL5.upd0 hU7
      have q3 : Rt l := q2
      rw [decide_eq_true q3]
      refine Wl_v (v := .bool false) (r_neb (a := true) (b := true) Try.underlying4 rfl rfl) ?_
      refine Wl_nil ?_
      refine W_cond_f rfl ?_
      refine W_skip ?_
      refine W_seq ?_
      refine W_region ?_
      refine Wl_v (r_mv (v := .slice a n c) rfl) ?_
      have q4 : Rt l := q3
      refine Wl_call (r_call1 rfl Try.call26 rfl) (rruns_t _ hs (by omega) q4) ?_
      rintro v w8 ⟨a8, c8, b8, d8, rfl, hA8, hO8, hU8⟩
      have hzw8 := hU8.size
      replace hs := hs.upd0 hU8
      replace HU := HU.trans0 hU8
      replace hb1 := hb1.upd0 hU8
      replace hb2 := hb2.upd0 hU8
      replace hT5 := hT5.upd0 hU8
      replace hE5 := hE5.upd0 hU8
      replace hL5 := hL5.upd0 hU8
      replace hA8 := hA8.tight
      have hl_hA8 := ilen hA8.sl
      have hc_hA8 := hA8.sl.cap.1
      replace hO8 := hO8.tight
      have hl_hO8 := rlen encE_len (by decide) hO8.sl
      have hc_hO8 := hO8.sl.cap.1
      have hlo := ilen hA8.sl
      have hlc := rlen encE_len (by decide) hO8.sl
      have hol := ord_len l
      refine Wl_v (r_mv (v := .tuple #[.slice a8 ((ord l).length) c8, .slice b8 ((ord l).length) d8]) rfl) ?_
      refine Wl_v (r_ext (v := .slice a8 ((ord l).length) c8) rfl rfl) ?_
      refine Wl_v (r_ext (v := .slice b8 ((ord l).length) d8) rfl rfl) ?_
      refine Wl_alloc (cs := [.slice none 0 0]) Try.zeroValue22 rfl ?_
      intro B9 w9 hB9 hU9 hzz9 hb9
      have hzw9 := hU9.size
      replace hs := hs.upd0 hU9
      replace HU := HU.trans0 hU9
      replace hb1 := hb1.upd0 hU9
      replace hb2 := hb2.upd0 hU9
      replace hT5 := hT5.upd0 hU9
      replace hE5 := hE5.upd0 hU9
      replace hL5 := hL5.upd0 hU9
      replace hA8 := hA8.upd0 hU9
      replace hO8 := hO8.upd0 hU9
      refine Wl_alloc (cs := [.slice none 0 0]) Try.zeroValue24 rfl ?_
      intro B10 w10 hB10 hU10 hzz10 hb10
      have hzw10 := hU10.size
      replace hs := hs.upd0 hU10
      replace HU := HU.trans0 hU10
      replace hb1 := hb1.upd0 hU10
      replace hb2 := hb2.upd0 hU10
      replace hT5 := hT5.upd0 hU10
      replace hE5 := hE5.upd0 hU10
      replace hL5 := hL5.upd0 hU10
      replace hA8 := hA8.upd0 hU10
      replace hO8 := hO8.upd0 hU10
      replace hb9 := hb9.upd0 hU10
      refine Wl_store (v := .slice a8 ((ord l).length) c8) (cs' := [.slice a8 ((ord l).length) c8]) Try.sizeOf22 rfl rfl rfl rfl hb9 rfl rfl ?_
      intro w11 hU11 hzz11 hb9n
      replace hb9 := hb9n; clear hb9n
      have hzw11 := hU11.size
      replace hs := hs.upd1 hU11 (by intro h1; have h3 : B9 < w.heap.size := h1; omega)
      replace HU := HU.trans1 hU11 (by show (False) ∨ w.heap.size ≤ B9; omega)
      replace hb1 := hb1.upd1 hU11 (by omega)
      replace hb2 := hb2.upd1 hU11 (by omega)
      replace hT5 := hT5.upd1 hU11 (by omega)
      replace hE5 := hE5.upd1 hU11 (by intro h1; have h3 : ((w2.heap.size ≤ B9 ∧ B9 ≠ tb5) ∧ B9 < w5.heap.size) := h1; omega)
      replace hL5 := hL5.upd1 hU11 (by intro h1; have h3 : ((w2.heap.size ≤ B9 ∧ B9 ≠ tb5) ∧ B9 < w5.heap.size) := h1; omega)
      replace hA8 := hA8.upd1 hU11 (by intro h1; have h3 : ((w7.heap.size ≤ B9) ∧ B9 < w8.heap.size) := h1; omega)
      replace hO8 := hO8.upd1 hU11 (by intro h1; have h3 : ((w7.heap.size ≤ B9) ∧ B9 < w8.heap.size) := h1; omega)
      replace hb10 := hb10.upd1 hU11 (by omega)
      refine Wl_store (v := .slice b8 ((ord l).length) d8) (cs' := [.slice b8 ((ord l).length) d8]) Try.sizeOf24 rfl rfl rfl rfl hb10 rfl rfl ?_
      intro w12 hU12 hzz12 hb10n
      replace hb10 := hb10n; clear hb10n
      have hzw12 := hU12.size
      replace hs := hs.upd1 hU12 (by intro h1; have h3 : B10 < w.heap.size := h1; omega)
      replace HU := HU.trans1 hU12 (by show (False) ∨ w.heap.size ≤ B10; omega)
      replace hb1 := hb1.upd1 hU12 (by omega)
      replace hb2 := hb2.upd1 hU12 (by omega)
      replace hT5 := hT5.upd1 hU12 (by omega)
      replace hE5 := hE5.upd1 hU12 (by intro h1; have h3 : ((w2.heap.size ≤ B10 ∧ B10 ≠ tb5) ∧ B10 < w5.heap.size) := h1; omega)
      replace hL5 := hL5.upd1 hU12 (by intro h1; have h3 : ((w2.heap.size ≤ B10 ∧ B10 ≠ tb5) ∧ B10 < w5.heap.size) := h1; omega)
      replace hA8 := hA8.upd1 hU12 (by intro h1; have h3 : ((w7.heap.size ≤ B10) ∧ B10 < w8.heap.size) := h1; omega)
      replace hO8 := hO8.upd1 hU12 (by intro h1; have h3 : ((w7.heap.size ≤ B10) ∧ B10 < w8.heap.size) := h1; omega)
      replace hb9 := hb9.upd1 hU12 (by omega)
      refine Wl_nil ?_
      refine W_seq ?_
      refine W_region ?_
      refine Wl_v (r_mv (v := .pointer (some ⟨tb5, 0, none⟩)) rfl) ?_
      refine Wl_call (r_call1 rfl Try.call27 rfl) (runs_spec _ ) ?_
      rintro v w13 ⟨B13, rfl, hB13, hBg_13, hU13⟩
      have hzw13 := hU13.size
      replace hs := hs.upd0 hU13
      replace HU := HU.trans0 hU13
      replace hb1 := hb1.upd0 hU13
      replace hb2 := hb2.upd0 hU13
      replace hT5 := hT5.upd0 hU13
      replace hE5 := hE5.upd0 hU13
      replace hL5 := hL5.upd0 hU13
      replace hA8 := hA8.upd0 hU13
      replace hO8 := hO8.upd0 hU13
      replace hb9 := hb9.upd0 hU13
      replace hb10 := hb10.upd0 hU13
      have hbl_hB13 := hB13.lt
      refine Wl_v (r_as (v := .func (.func 40) #[] #[.pointer (some ⟨B13, 0, none⟩)]) rfl) ?_
      refine Wl_nil ?_
      refine W_seq ?_
      refine W_seq ?_
      refine W_region ?_
      refine Wl_v (r_mv (v := .func (.func 40) #[] #[.pointer (some ⟨B13, 0, none⟩)]) rfl) ?_
      refine Wl_v (r_eqfn_s Try.underlying59 rfl rfl) ?_
      refine Wl_nil ?_
      refine W_cond_f rfl ?_
      refine W_skip ?_
      refine W_seq ?_
      refine W_seq ?_
      refine W_region ?_
      refine Wl_alloc (cs := [.int .i64 0]) Try.zeroValue3 rfl ?_
      intro B14 w14 hB14 hU14 hzz14 hb14
      have hzw14 := hU14.size
      replace hs := hs.upd0 hU14
      replace HU := HU.trans0 hU14
      replace hb1 := hb1.upd0 hU14
      replace hb2 := hb2.upd0 hU14
      replace hT5 := hT5.upd0 hU14
      replace hE5 := hE5.upd0 hU14
      replace hL5 := hL5.upd0 hU14
      replace hA8 := hA8.upd0 hU14
      replace hO8 := hO8.upd0 hU14
      replace hb9 := hb9.upd0 hU14
      replace hb10 := hb10.upd0 hU14
      replace hB13 := hB13.upd0 hU14
      refine Wl_store (v := .int .i64 0) (cs' := [.int .i64 0]) Try.sizeOf3 rfl rfl rfl rfl hb14 rfl rfl ?_
      intro w15 hU15 hzz15 hb14n
      replace hb14 := hb14n; clear hb14n
      have hzw15 := hU15.size
      replace hs := hs.upd1 hU15 (by intro h1; have h3 : B14 < w.heap.size := h1; omega)
      replace HU := HU.trans1 hU15 (by show (False) ∨ w.heap.size ≤ B14; omega)
      replace hb1 := hb1.upd1 hU15 (by omega)
      replace hb2 := hb2.upd1 hU15 (by omega)
      replace hT5 := hT5.upd1 hU15 (by omega)
      replace hE5 := hE5.upd1 hU15 (by intro h1; have h3 : ((w2.heap.size ≤ B14 ∧ B14 ≠ tb5) ∧ B14 < w5.heap.size) := h1; omega)
      replace hL5 := hL5.upd1 hU15 (by intro h1; have h3 : ((w2.heap.size ≤ B14 ∧ B14 ≠ tb5) ∧ B14 < w5.heap.size) := h1; omega)
      replace hA8 := hA8.upd1 hU15 (by intro h1; have h3 : ((w7.heap.size ≤ B14) ∧ B14 < w8.heap.size) := h1; omega)
      replace hO8 := hO8.upd1 hU15 (by intro h1; have h3 : ((w7.heap.size ≤ B14) ∧ B14 < w8.heap.size) := h1; omega)
      replace hb9 := hb9.upd1 hU15 (by omega)
      replace hb10 := hb10.upd1 hU15 (by omega)
      replace hB13 := hB13.upd1 hU15 (by omega)
      refine Wl_nil ?_
      refine W_block ?_
      refine W_unroll2 ?_
      refine W_seq ?_
      refine W_seq ?_
      refine W_region ?_
      refine Wl_load (v := .int .i64 0) Try.isAgg3 rfl hb14 rfl ?_
      refine Wl_v (v := .bool true) (r_lt (a := 0) (b := 2) rfl rfl) ?_
      refine Wl_nil ?_
      refine W_cond_t rfl ?_
      refine W_skip ?_
      refine W_seq ?_
      refine W_block ?_
      refine W_seq ?_
      refine W_region ?_
      refine Wl_alloc (cs := [.int .i64 0]) Try.zeroValue3 rfl ?_
      intro B16 w16 hB16 hU16 hzz16 hb16
      have hzw16 := hU16.size
      replace hs := hs.upd0 hU16
      replace HU := HU.trans0 hU16
      replace hb1 := hb1.upd0 hU16
      replace hb2 := hb2.upd0 hU16
      replace hT5 := hT5.upd0 hU16
      replace hE5 := hE5.upd0 hU16
      replace hL5 := hL5.upd0 hU16
      replace hA8 := hA8.upd0 hU16
      replace hO8 := hO8.upd0 hU16
      replace hb9 := hb9.upd0 hU16
      replace hb10 := hb10.upd0 hU16
      replace hB13 := hB13.upd0 hU16
      replace hb14 := hb14.upd0 hU16
      refine Wl_store (v := .int .i64 0) (cs' := [.int .i64 0]) Try.sizeOf3 rfl rfl rfl rfl hb16 rfl rfl ?_
      intro w17 hU17 hzz17 hb16n
      replace hb16 := hb16n; clear hb16n
      have hzw17 := hU17.size
      replace hs := hs.upd1 hU17 (by intro h1; have h3 : B16 < w.heap.size := h1; omega)
      replace HU := HU.trans1 hU17 (by show (False) ∨ w.heap.size ≤ B16; omega)
      replace hb1 := hb1.upd1 hU17 (by omega)
      replace hb2 := hb2.upd1 hU17 (by omega)
      replace hT5 := hT5.upd1 hU17 (by omega)
      replace hE5 := hE5.upd1 hU17 (by intro h1; have h3 : ((w2.heap.size ≤ B16 ∧ B16 ≠ tb5) ∧ B16 < w5.heap.size) := h1; omega)
      replace hL5 := hL5.upd1 hU17 (by intro h1; have h3 : ((w2.heap.size ≤ B16 ∧ B16 ≠ tb5) ∧ B16 < w5.heap.size) := h1; omega)
      replace hA8 := hA8.upd1 hU17 (by intro h1; have h3 : ((w7.heap.size ≤ B16) ∧ B16 < w8.heap.size) := h1; omega)
      replace hO8 := hO8.upd1 hU17 (by intro h1; have h3 : ((w7.heap.size ≤ B16) ∧ B16 < w8.heap.size) := h1; omega)
      replace hb9 := hb9.upd1 hU17 (by omega)
      replace hb10 := hb10.upd1 hU17 (by omega)
      replace hB13 := hB13.upd1 hU17 (by omega)
      replace hb14 := hb14.upd1 hU17 (by omega)
      refine Wl_nil ?_
      refine W_seq ?_
      refine W_seq ?_
      refine W_region ?_
      refine Wl_v (r_mv (v := .func (.func 40) #[] #[.pointer (some ⟨B13, 0, none⟩)]) rfl) ?_
      refine Wl_nil ?_
      refine W_block ?_
      refine W_range (gf := 40) (ar := fun y => #[y, .pointer (some ⟨B13, 0, none⟩)]) rfl Try.call40 (fun y => by simp) ?_
      intro D18 fn18 w18 hD18 hU18 hzz18 hdf18 hrc180
      have hzw18 := hU18.size
      replace hs := hs.upd0 hU18
      replace HU := HU.trans0 hU18
      replace hb1 := hb1.upd0 hU18
      replace hb2 := hb2.upd0 hU18
      replace hT5 := hT5.upd0 hU18
      replace hE5 := hE5.upd0 hU18
      replace hL5 := hL5.upd0 hU18
      replace hA8 := hA8.upd0 hU18
      replace hO8 := hO8.upd0 hU18
      replace hb9 := hb9.upd0 hU18
      replace hb10 := hb10.upd0 hU18
      replace hB13 := hB13.upd0 hU18
      replace hb14 := hb14.upd0 hU18
      replace hb16 := hb16.upd0 hU18
      obtain ⟨r18, hr18, hrc18⟩ : ∃ r, r = _ ∧ Rec w18 (D18 + 1) r := ⟨_, rfl, hrc180⟩
      clear hrc180
      obtain ⟨J18, hJ18⟩ : ∃ J : Nat → World → Prop, ∀ i w', J i w' ↔ (Rec w' (D18 + 1) r18 ∧ Dfr w' D18 ∧ Blk w' B16 [.int .i64 ((i : Nat) : Int)] ∧ Blk w' B1 [.int .i64 many] ∧ Blk w' B2 [.bool false] ∧ Blk w' tb5 [.slice ea5 (2 ^ bt l) ec5, .int .i64 ((bt l : Nat) : Int), .slice la5 n lc5] ∧ Own w' (fun g => ((w2.heap.size ≤ g ∧ g ≠ tb5) ∧ g < w5.heap.size)) 38 2 (.slice ea5 (2 ^ bt l) ec5) (2 ^ bt l) (rows encE (tbl l)) ∧ Own w' (fun g => ((w2.heap.size ≤ g ∧ g ≠ tb5) ∧ g < w5.heap.size)) 3 1 (.slice la5 n lc5) n (ints .i64 l) ∧ Own w' (fun g => ((w7.heap.size ≤ g) ∧ g < w8.heap.size)) 3 1 (.slice a8 ((ord l).length) c8) ((ord l).length) (ints .i64 (rps l (ord l).length)) ∧ Own w' (fun g => ((w7.heap.size ≤ g) ∧ g < w8.heap.size)) 38 2 (.slice b8 ((ord l).length) d8) ((ord l).length) (rows encE (os l)) ∧ Blk w' B9 [.slice a8 ((ord l).length) c8] ∧ Blk w' B10 [.slice b8 ((ord l).length) d8] ∧ Blk w' B13 [.pointer (some ⟨tb5, 0, none⟩)] ∧ Blk w' B14 [.int .i64 0] ∧ Upd No w w' ∧ (i = 0 ∨ ((i : Nat) : Int) < many)) := ⟨_, fun _ _ => Iff.rfl⟩
      obtain ⟨Jx18, hJx18⟩ : ∃ Jx : World → Prop, ∀ w', Jx w' ↔ ((∃ ij : Nat, Rec w' (D18 + 1) { r18 with state := .done, pending := some (.exit 2) } ∧ Dfr w' D18 ∧ Blk w' B16 [.int .i64 (((ij : Nat) : Int) + 1)] ∧ Blk w' B1 [.int .i64 many] ∧ Blk w' B2 [.bool false] ∧ Blk w' tb5 [.slice ea5 (2 ^ bt l) ec5, .int .i64 ((bt l : Nat) : Int), .slice la5 n lc5] ∧ Own w' (fun g => ((w2.heap.size ≤ g ∧ g ≠ tb5) ∧ g < w5.heap.size)) 38 2 (.slice ea5 (2 ^ bt l) ec5) (2 ^ bt l) (rows encE (tbl l)) ∧ Own w' (fun g => ((w2.heap.size ≤ g ∧ g ≠ tb5) ∧ g < w5.heap.size)) 3 1 (.slice la5 n lc5) n (ints .i64 l) ∧ Own w' (fun g => ((w7.heap.size ≤ g) ∧ g < w8.heap.size)) 3 1 (.slice a8 ((ord l).length) c8) ((ord l).length) (ints .i64 (rps l (ord l).length)) ∧ Own w' (fun g => ((w7.heap.size ≤ g) ∧ g < w8.heap.size)) 38 2 (.slice b8 ((ord l).length) d8) ((ord l).length) (rows encE (os l)) ∧ Blk w' B9 [.slice a8 ((ord l).length) c8] ∧ Blk w' B10 [.slice b8 ((ord l).length) d8] ∧ Blk w' B13 [.pointer (some ⟨tb5, 0, none⟩)] ∧ Blk w' B14 [.int .i64 0] ∧ Upd No w w' ∧ ij < (ord l).length ∧ many ≤ ((ij : Nat) : Int) + 1 ∧ (ij = 0 ∨ ((ij : Nat) : Int) < many))) := ⟨_, fun _ => Iff.rfl⟩
      refine (runs1_spec (ly := (D18 + 1)) (l := l) (J := J18) (Jx := Jx18) (Sb := (fun g => g = B16 ∨ g = D18 + 1)) (R := fun g => ((w2.heap.size ≤ g ∧ g ≠ tb5) ∧ g < w5.heap.size)) w18 hB13 hT5 hE5.sl q4 (by intro g h1 h2; have h3 : ((w2.heap.size ≤ g ∧ g ≠ tb5) ∧ g < w5.heap.size) := h1; have h4 : g = B16 ∨ g = D18 + 1 := h2; omega) (by show ¬ (_ ∨ _); omega) (by show ¬ (_ ∨ _); omega) (by intro g h1 h2; have h3 : g = B16 ∨ g = D18 + 1 := h2; omega) (by intro g h1; have h3 : ((w2.heap.size ≤ g ∧ g ≠ tb5) ∧ g < w5.heap.size) := h1; omega) ?_ ?_ ?_).mono ?_
      · exact (hJ18 _ _).2 ⟨hrc18, hdf18, hb16, hb1, hb2, hT5, hE5, hL5, hA8, hO8, hb9, hb10, hB13, hb14, HU, (.inl rfl)⟩
      · intro i wa wb hh hUs
        obtain ⟨hrc18, hdf18, hb16, hb1, hb2, hT5, hE5, hL5, hA8, hO8, hb9, hb10, hB13, hb14, HU, hpm⟩ := (hJ18 _ _).1 hh
        replace hrc18 := hrc18.upd0 hUs
        replace hdf18 := hdf18.upd0 hUs
        replace hb16 := hb16.upd0 hUs
        replace hb1 := hb1.upd0 hUs
        replace hb2 := hb2.upd0 hUs
        replace hT5 := hT5.upd0 hUs
        replace hE5 := hE5.upd0 hUs
        replace hL5 := hL5.upd0 hUs
        replace hA8 := hA8.upd0 hUs
        replace hO8 := hO8.upd0 hUs
        replace hb9 := hb9.upd0 hUs
        replace hb10 := hb10.upd0 hUs
        replace hB13 := hB13.upd0 hUs
        replace hb14 := hb14.upd0 hUs
        replace HU := HU.trans0 hUs
        exact (hJ18 _ _).2 ⟨hrc18, hdf18, hb16, hb1, hb2, hT5, hE5, hL5, hA8, hO8, hb9, hb10, hB13, hb14, HU, hpm⟩
      · intro i19 w19 hi19 hh
        obtain ⟨hrc18, hdf18, hb16, hb1, hb2, hT5, hE5, hL5, hA8, hO8, hb9, hb10, hB13, hb14, HU, hpm⟩ := (hJ18 _ _).1 hh
        have hrl18 := hrc18.lt
        have hrg := rps_get (l := l) (k := (ord l).length) (i := i19) (by omega)
        have HB18 : Upd (fun g => g = B16 ∨ g = D18 + 1) w19 w19 := Upd.refl _ _
        refine yieldC_of_W (R := fun b c w' => (b = true ∧ Upd (fun g => g = B16 ∨ g = D18 + 1) w19 w' ∧ J18 (i19 + 1) w') ∨ (b = false ∧ Jx18 w')) hrc18 (by rw [hr18]; rfl) (by rw [hr18]; exact zip2 _ _ _ _ _ _) ?_ ?_
        · rw [hr18]
          refine W_seq ?_
          refine W_region ?_
          refine Wl_v (r_as (v := .int .i64 ((rp l i19 : Nat) : Int)) rfl) ?_
          refine Wl_nil ?_
          refine W_region ?_
          refine Wl_alloc (cs := [.int .i64 0, .int .i64 0]) Try.zeroValue38 rfl ?_
          intro B20 w20 hB20 hU20 hzz20 hb20
          have hzw20 := hU20.size
          replace hrc18 := hrc18.upd0 hU20
          replace hdf18 := hdf18.upd0 hU20
          replace hb16 := hb16.upd0 hU20
          replace hb1 := hb1.upd0 hU20
          replace hb2 := hb2.upd0 hU20
          replace hT5 := hT5.upd0 hU20
          replace hE5 := hE5.upd0 hU20
          replace hL5 := hL5.upd0 hU20
          replace hA8 := hA8.upd0 hU20
          replace hO8 := hO8.upd0 hU20
          replace hb9 := hb9.upd0 hU20
          replace hb10 := hb10.upd0 hU20
          replace hB13 := hB13.upd0 hU20
          replace hb14 := hb14.upd0 hU20
          replace HU := HU.trans0 hU20
          replace HB18 := HB18.trans0 hU20
          refine Wl_storea (off := 0) (vs := [.int .i64 (((os l).getD i19 (0, 0)).1), .int .i64 (((os l).getD i19 (0, 0)).2)]) (cs' := [.int .i64 (((os l).getD i19 (0, 0)).1), .int .i64 (((os l).getD i19 (0, 0)).2)]) Try.sizeOf38 rfl rfl rfl (by simp only [List.mem_cons, List.not_mem_nil, or_false, forall_eq_or_imp, forall_eq]; exact ⟨rfl, rfl⟩) hb20 (by simp) rfl ?_
          intro w21 hU21 hzz21 hb20n
          replace hb20 := hb20n; clear hb20n
          have hzw21 := hU21.size
          replace hrc18 := hrc18.upd1 hU21 (by omega)
          replace hdf18 := hdf18.upd1 hU21 (by omega)
          replace hb16 := hb16.upd1 hU21 (by omega)
          replace hb1 := hb1.upd1 hU21 (by omega)
          replace hb2 := hb2.upd1 hU21 (by omega)
          replace hT5 := hT5.upd1 hU21 (by omega)
          replace hE5 := hE5.upd1 hU21 (by intro h1; have h3 : ((w2.heap.size ≤ B20 ∧ B20 ≠ tb5) ∧ B20 < w5.heap.size) := h1; omega)
          replace hL5 := hL5.upd1 hU21 (by intro h1; have h3 : ((w2.heap.size ≤ B20 ∧ B20 ≠ tb5) ∧ B20 < w5.heap.size) := h1; omega)
          replace hA8 := hA8.upd1 hU21 (by intro h1; have h3 : ((w7.heap.size ≤ B20) ∧ B20 < w8.heap.size) := h1; omega)
          replace hO8 := hO8.upd1 hU21 (by intro h1; have h3 : ((w7.heap.size ≤ B20) ∧ B20 < w8.heap.size) := h1; omega)
          replace hb9 := hb9.upd1 hU21 (by omega)
          replace hb10 := hb10.upd1 hU21 (by omega)
          replace hB13 := hB13.upd1 hU21 (by omega)
          replace hb14 := hb14.upd1 hU21 (by omega)
          replace HU := HU.trans1 hU21 (by show (False) ∨ w.heap.size ≤ B20; omega)
          replace HB18 := HB18.trans1 hU21 (by show (B20 = B16 ∨ B20 = D18 + 1) ∨ w19.heap.size ≤ B20; omega)
          refine Wl_nil ?_
          refine ⟨rfl, _, hrc18, (by rw [hr18]), ?_⟩
          intro w22 hU22 hzz22 hrc18b
          have hzw22 := hU22.size
          replace hdf18 := hdf18.upd1 hU22 (by omega)
          replace hb16 := hb16.upd1 hU22 (by omega)
          replace hb1 := hb1.upd1 hU22 (by omega)
          replace hb2 := hb2.upd1 hU22 (by omega)
          replace hT5 := hT5.upd1 hU22 (by omega)
          replace hE5 := hE5.upd1 hU22 (by intro h1; have h3 : ((w2.heap.size ≤ (D18 + 1) ∧ (D18 + 1) ≠ tb5) ∧ (D18 + 1) < w5.heap.size) := h1; omega)
          replace hL5 := hL5.upd1 hU22 (by intro h1; have h3 : ((w2.heap.size ≤ (D18 + 1) ∧ (D18 + 1) ≠ tb5) ∧ (D18 + 1) < w5.heap.size) := h1; omega)
          replace hA8 := hA8.upd1 hU22 (by intro h1; have h3 : ((w7.heap.size ≤ (D18 + 1)) ∧ (D18 + 1) < w8.heap.size) := h1; omega)
          replace hO8 := hO8.upd1 hU22 (by intro h1; have h3 : ((w7.heap.size ≤ (D18 + 1)) ∧ (D18 + 1) < w8.heap.size) := h1; omega)
          replace hb9 := hb9.upd1 hU22 (by omega)
          replace hb10 := hb10.upd1 hU22 (by omega)
          replace hB13 := hB13.upd1 hU22 (by omega)
          replace hb14 := hb14.upd1 hU22 (by omega)
          replace HU := HU.trans1 hU22 (by show (False) ∨ w.heap.size ≤ (D18 + 1); omega)
          replace HB18 := HB18.trans1 hU22 (by show ((D18 + 1) = B16 ∨ (D18 + 1) = D18 + 1) ∨ w19.heap.size ≤ (D18 + 1); omega)
          replace hb20 := hb20.upd1 hU22 (by omega)
          clear hrc18
          have hrc18 := hrc18b
          clear hrc18b
          refine W_block ?_
          refine W_seq ?_
          refine W_seq ?_
          refine W_drawt rfl (l0 := #[false, false, false, false, false, false, false, false, false, false, false, false, false, false, false, false, false, false, false, false]) (by kernel_rfl) ?_
          refine Wt_take (i := 0) (listed' := #[true, false, false, false, false, false, false, false, false, false, false, false, false, false, false, false, false, false, false, false]) (by kernel_rfl) rfl (by kernel_rfl) (by kernel_rfl) (by kernel_rfl) (by kernel_rfl) (YI_v (v := .int .i64 ((i19 : Nat) : Int)) rfl (fun w' hw' => r_load Try.isAgg3 rfl (by rw [(hb16.upd0 hw').cell]; rfl))) ?_
          refine Wt_take (i := 1) (listed' := #[true, true, false, false, false, false, false, false, false, false, false, false, false, false, false, false, false, false, false, false]) (by kernel_rfl) rfl (by kernel_rfl) (by kernel_rfl) (by kernel_rfl) (by kernel_rfl) (YI_v (v := .slice b8 ((ord l).length) d8) rfl (fun w' hw' => r_load Try.isAgg24 rfl (by rw [(hb10.upd0 hw').cell]; rfl))) ?_
          refine Wt_take (i := 2) (listed' := #[true, true, true, false, false, false, false, false, false, false, false, false, false, false, false, false, false, false, false, false]) (by kernel_rfl) rfl (by kernel_rfl) (by kernel_rfl) (by kernel_rfl) (by kernel_rfl) (YI_v (v := .int .i64 (((ord l).length : Nat) : Int)) rfl (fun w' hw' => r_len Try.underlying24 rfl)) ?_
          refine Wt_take (i := 3) (listed' := #[true, true, true, true, false, false, false, false, false, false, false, false, false, false, false, false, false, false, false, false]) (by kernel_rfl) rfl (by kernel_rfl) (by kernel_rfl) (by kernel_rfl) (by kernel_rfl) (YI_v (v := .bool (decide ((((ord l).length : Nat) : Int) ≤ ((i19 : Nat) : Int)))) rfl (fun w' hw' => r_ge rfl rfl)) ?_
          refine Wt_take (i := 4) (listed' := #[true, true, true, true, true, false, false, false, false, false, false, false, false, false, false, false, false, false, false, false]) (by kernel_rfl) rfl (by kernel_rfl) (by kernel_rfl) (by kernel_rfl) (by kernel_rfl) (YI_v (v := .bool (decide ((((ord l).length : Nat) : Int) ≤ ((i19 : Nat) : Int)))) rfl (fun w' hw' => r_mv (v := .bool (decide ((((ord l).length : Nat) : Int) ≤ ((i19 : Nat) : Int)))) rfl)) ?_
          have q5 : ¬ ((((ord l).length : Nat) : Int) ≤ ((i19 : Nat) : Int)) := (by omega)
          rw [decide_eq_false q5]
          refine Wt_take (i := 5) (listed' := #[true, true, true, true, true, true, false, false, false, false, false, false, false, false, false, false, false, false, false, false]) (by kernel_rfl) rfl (by kernel_rfl) (by kernel_rfl) (by kernel_rfl) (by kernel_rfl) (YI_v (v := .int .i64 ((rp l i19 : Nat) : Int)) rfl (fun w' hw' => r_mv (v := .int .i64 ((rp l i19 : Nat) : Int)) rfl)) ?_
          refine Wt_take (i := 6) (listed' := #[true, true, true, true, true, true, true, false, false, false, false, false, false, false, false, false, false, false, false, false]) (by kernel_rfl) rfl (by kernel_rfl) (by kernel_rfl) (by kernel_rfl) (by kernel_rfl) (YI_v (v := .slice a8 ((ord l).length) c8) rfl (fun w' hw' => r_load Try.isAgg22 rfl (by rw [(hb9.upd0 hw').cell]; rfl))) ?_
          refine Wt_take (i := 7) (listed' := #[true, true, true, true, true, true, true, true, false, false, false, false, false, false, false, false, false, false, false, false]) (by kernel_rfl) rfl (by kernel_rfl) (by kernel_rfl) (by kernel_rfl) (by kernel_rfl) (YI_v (v := .int .i64 ((i19 : Nat) : Int)) rfl (fun w' hw' => r_load Try.isAgg3 rfl (by rw [(hb16.upd0 hw').cell]; rfl))) ?_
          obtain ⟨ib23, io23, ha23, hib23, hc23⟩ := (hA8.sl).iat (i := i19) (by omega)
          replace hib23 : ((w7.heap.size ≤ ib23) ∧ ib23 < w8.heap.size) := hib23
          refine Wt_take (i := 8) (listed' := #[true, true, true, true, true, true, true, true, true, false, false, false, false, false, false, false, false, false, false, false]) (by kernel_rfl) rfl (by kernel_rfl) (by kernel_rfl) (by kernel_rfl) (by kernel_rfl) (YI_v (v := .pointer (some ⟨ib23, io23 + i19, none⟩)) rfl (fun w' hw' => r_idx (b := ib23) (off := io23) (m := (ord l).length) (c := c8) (o' := io23 + i19) Try.underlying22 Try.sizeOf3 (by rw [← ha23]; rfl) rfl (by omega) (by omega) (by omega))) ?_
          refine Wt_take (i := 9) (listed' := #[true, true, true, true, true, true, true, true, true, true, false, false, false, false, false, false, false, false, false, false]) (by kernel_rfl) rfl (by kernel_rfl) (by kernel_rfl) (by kernel_rfl) (by kernel_rfl) (YI_v (v := .int .i64 ((rps l (ord l).length).getD i19 0)) rfl (fun w' hw' => r_load Try.isAgg3 rfl (hw'.cellk hc23))) ?_
          refine Wt_take (i := 10) (listed' := #[true, true, true, true, true, true, true, true, true, true, true, false, false, false, false, false, false, false, false, false]) (by kernel_rfl) rfl (by kernel_rfl) (by kernel_rfl) (by kernel_rfl) (by kernel_rfl) (YI_v (v := .bool (decide (((rp l i19 : Nat) : Int) ≠ ((rps l (ord l).length).getD i19 0)))) rfl (fun w' hw' => r_ne rfl rfl)) ?_
          refine Wt_take (i := 11) (listed' := #[true, true, true, true, true, true, true, true, true, true, true, true, false, false, false, false, false, false, false, false]) (by kernel_rfl) rfl (by kernel_rfl) (by kernel_rfl) (by kernel_rfl) (by kernel_rfl) (YI_v rfl (fun w' hw' => r_pick_f (v := .bool (decide (((rp l i19 : Nat) : Int) ≠ ((rps l (ord l).length).getD i19 0)))) rfl rfl)) ?_
          refine Wt_take (i := 12) (listed' := #[true, true, true, true, true, true, true, true, true, true, true, true, true, false, false, false, false, false, false, false]) (by kernel_rfl) rfl (by kernel_rfl) (by kernel_rfl) (by kernel_rfl) (by kernel_rfl) (YI_v (v := .bool (decide (((rp l i19 : Nat) : Int) ≠ ((rps l (ord l).length).getD i19 0)))) rfl (fun w' hw' => r_mv (v := .bool (decide (((rp l i19 : Nat) : Int) ≠ ((rps l (ord l).length).getD i19 0)))) rfl)) ?_
          have q6 : ¬ (((rp l i19 : Nat) : Int) ≠ ((rps l (ord l).length).getD i19 0)) := (fun h => h hrg.symm)
          rw [decide_eq_false q6]
          refine Wt_take (i := 13) (listed' := #[true, true, true, true, true, true, true, true, true, true, true, true, true, true, false, false, false, false, false, false]) (by kernel_rfl) rfl (by kernel_rfl) (by kernel_rfl) (by kernel_rfl) (by kernel_rfl) (YI_v (v := .agg #[.int .i64 (((os l).getD i19 (0, 0)).1), .int .i64 (((os l).getD i19 (0, 0)).2)]) rfl (fun w' hw' => r_loada (b := B20) (off := 0) (cs := [.int .i64 (((os l).getD i19 (0, 0)).1), .int .i64 (((os l).getD i19 (0, 0)).2)]) Try.isAgg38 Try.sizeOf38 rfl rfl (fun j hj => by rw [(hb20.upd0 hw').cell]; match j, hj with | 0, _ => rfl | 1, _ => rfl))) ?_
          refine Wt_take (i := 14) (listed' := #[true, true, true, true, true, true, true, true, true, true, true, true, true, true, true, false, false, false, false, false]) (by kernel_rfl) rfl (by kernel_rfl) (by kernel_rfl) (by kernel_rfl) (by kernel_rfl) (YI_v (v := .slice b8 ((ord l).length) d8) rfl (fun w' hw' => r_load Try.isAgg24 rfl (by rw [(hb10.upd0 hw').cell]; rfl))) ?_
          refine Wt_take (i := 15) (listed' := #[true, true, true, true, true, true, true, true, true, true, true, true, true, true, true, true, false, false, false, false]) (by kernel_rfl) rfl (by kernel_rfl) (by kernel_rfl) (by kernel_rfl) (by kernel_rfl) (YI_v (v := .int .i64 ((i19 : Nat) : Int)) rfl (fun w' hw' => r_load Try.isAgg3 rfl (by rw [(hb16.upd0 hw').cell]; rfl))) ?_
          obtain ⟨ib24, io24, ha24, hib24, hc24⟩ := Sl.rat (0, 0) encE_len (by decide) (hO8.sl) (i := i19) (by omega)
          refine Wt_take (i := 16) (listed' := #[true, true, true, true, true, true, true, true, true, true, true, true, true, true, true, true, true, false, false, false]) (by kernel_rfl) rfl (by kernel_rfl) (by kernel_rfl) (by kernel_rfl) (by kernel_rfl) (YI_v (v := .pointer (some ⟨ib24, io24 + i19 * 2, none⟩)) rfl (fun w' hw' => r_idx (b := ib24) (off := io24) (m := (ord l).length) (c := d8) (o' := io24 + i19 * 2) Try.underlying24 Try.sizeOf38 (by rw [← ha24]; rfl) rfl (by omega) (by omega) (by omega))) ?_
          refine Wt_take (i := 17) (listed' := #[true, true, true, true, true, true, true, true, true, true, true, true, true, true, true, true, true, true, false, false]) (by kernel_rfl) rfl (by kernel_rfl) (by kernel_rfl) (by kernel_rfl) (by kernel_rfl) (YI_v (v := .agg #[.int .i64 (((os l).getD i19 (0, 0)).1), .int .i64 (((os l).getD i19 (0, 0)).2)]) rfl (fun w' hw' => r_loada (cs := [.int .i64 (((os l).getD i19 (0, 0)).1), .int .i64 (((os l).getD i19 (0, 0)).2)]) Try.isAgg38 Try.sizeOf38 rfl rfl (hw'.cellsk rfl hc24))) ?_
          refine Wt_take (i := 18) (listed' := #[true, true, true, true, true, true, true, true, true, true, true, true, true, true, true, true, true, true, true, false]) (by kernel_rfl) rfl (by kernel_rfl) (by kernel_rfl) (by kernel_rfl) (by kernel_rfl) (YI_v (v := .bool (!decide ((((os l).getD i19 (0, 0)).1) = (((os l).getD i19 (0, 0)).1) ∧ (((os l).getD i19 (0, 0)).2) = (((os l).getD i19 (0, 0)).2)))) rfl (fun w' hw' => r_neag (pp := (((os l).getD i19 (0, 0)).1) = (((os l).getD i19 (0, 0)).1) ∧ (((os l).getD i19 (0, 0)).2) = (((os l).getD i19 (0, 0)).2)) Try.underlying38 (by kernel_rfl) (by kernel_rfl) rfl rfl (fun w => eqf_int (by decide) Try.underlying3 Try.isAgg3 rfl rfl (fun w => eqf_int (by decide) Try.underlying3 Try.isAgg3 rfl rfl (fun w => eqf_nil))) (by simp [Bool.decide_and]))) ?_
          refine Wt_take (i := 19) (listed' := #[true, true, true, true, true, true, true, true, true, true, true, true, true, true, true, true, true, true, true, true]) (by kernel_rfl) rfl (by kernel_rfl) (by kernel_rfl) (by kernel_rfl) (by kernel_rfl) (YI_v rfl (fun w' hw' => r_pick_f (v := .bool (!decide ((((os l).getD i19 (0, 0)).1) = (((os l).getD i19 (0, 0)).1) ∧ (((os l).getD i19 (0, 0)).2) = (((os l).getD i19 (0, 0)).2)))) rfl rfl)) ?_
          intro w25 hU25
          have hzw25 := hU25.size
          replace hrc18 := hrc18.upd0 hU25
          replace hdf18 := hdf18.upd0 hU25
          replace hb16 := hb16.upd0 hU25
          replace hb1 := hb1.upd0 hU25
          replace hb2 := hb2.upd0 hU25
          replace hT5 := hT5.upd0 hU25
          replace hE5 := hE5.upd0 hU25
          replace hL5 := hL5.upd0 hU25
          replace hA8 := hA8.upd0 hU25
          replace hO8 := hO8.upd0 hU25
          replace hb9 := hb9.upd0 hU25
          replace hb10 := hb10.upd0 hU25
          replace hB13 := hB13.upd0 hU25
          replace hb14 := hb14.upd0 hU25
          replace HU := HU.trans0 hU25
          replace HB18 := HB18.trans0 hU25
          replace hb20 := hb20.upd0 hU25
          replace hc23 := cell_upd0 hU25 hc23
          refine Wa_done (by kernel_rfl) ?_
          have q7 : (((os l).getD i19 (0, 0)).1) = (((os l).getD i19 (0, 0)).1) ∧ (((os l).getD i19 (0, 0)).2) = (((os l).getD i19 (0, 0)).2) := ⟨rfl, rfl⟩
          rw [decide_eq_true q7]
          simp only [Bool.not_true, Bool.not_false]
          refine W_cond_f rfl ?_
          refine W_skip ?_
          refine W_seq ?_
          refine W_region ?_
          refine Wl_load (v := .int .i64 ((i19 : Nat) : Int)) Try.isAgg3 rfl hb16 rfl ?_
          refine Wl_v (r_add rfl rfl (wi64 (by omega) (by omega))) ?_
          refine Wl_store (v := .int .i64 (((i19 : Nat) : Int) + 1)) (cs' := [.int .i64 (((i19 : Nat) : Int) + 1)]) Try.sizeOf3 rfl rfl rfl rfl hb16 rfl rfl ?_
          intro w26 hU26 hzz26 hb16n
          replace hb16 := hb16n; clear hb16n
          have hzw26 := hU26.size
          replace hrc18 := hrc18.upd1 hU26 (by omega)
          replace hdf18 := hdf18.upd1 hU26 (by omega)
          replace hb1 := hb1.upd1 hU26 (by omega)
          replace hb2 := hb2.upd1 hU26 (by omega)
          replace hT5 := hT5.upd1 hU26 (by omega)
          replace hE5 := hE5.upd1 hU26 (by intro h1; have h3 : ((w2.heap.size ≤ B16 ∧ B16 ≠ tb5) ∧ B16 < w5.heap.size) := h1; omega)
          replace hL5 := hL5.upd1 hU26 (by intro h1; have h3 : ((w2.heap.size ≤ B16 ∧ B16 ≠ tb5) ∧ B16 < w5.heap.size) := h1; omega)
          replace hA8 := hA8.upd1 hU26 (by intro h1; have h3 : ((w7.heap.size ≤ B16) ∧ B16 < w8.heap.size) := h1; omega)
          replace hO8 := hO8.upd1 hU26 (by intro h1; have h3 : ((w7.heap.size ≤ B16) ∧ B16 < w8.heap.size) := h1; omega)
          replace hb9 := hb9.upd1 hU26 (by omega)
          replace hb10 := hb10.upd1 hU26 (by omega)
          replace hB13 := hB13.upd1 hU26 (by omega)
          replace hb14 := hb14.upd1 hU26 (by omega)
          replace HU := HU.trans1 hU26 (by show (False) ∨ w.heap.size ≤ B16; omega)
          replace HB18 := HB18.trans1 hU26 (by show (B16 = B16 ∨ B16 = D18 + 1) ∨ w19.heap.size ≤ B16; omega)
          replace hb20 := hb20.upd1 hU26 (by omega)
          replace hc23 := cell_upd1 hU26 hc23 (by show ib23 ≠ B16; omega)
          refine Wl_nil ?_
          refine W_seq ?_
          refine W_region ?_
          refine Wl_load (v := .int .i64 0) Try.isAgg3 rfl hb14 rfl ?_
          refine Wl_v (v := .bool true) (r_eq (a := 0) (b := 0) rfl rfl) ?_
          refine Wl_v (r_mv (v := .bool true) rfl) ?_
          refine Wl_guard_t rfl ?_
          refine Wl_load (v := .int .i64 (((i19 : Nat) : Int) + 1)) Try.isAgg3 rfl hb16 rfl ?_
          refine Wl_guard_t rfl ?_
          refine Wl_load (v := .int .i64 many) Try.isAgg3 rfl hb1 rfl ?_
          refine Wl_guard_t rfl ?_
          refine Wl_v (r_ge rfl rfl) ?_
          refine Wl_v (r_pick_t (v := .bool (decide (many ≤ (((i19 : Nat) : Int) + 1)))) rfl rfl) ?_
          refine Wl_nil ?_
          by_cases q8 : many ≤ (((i19 : Nat) : Int) + 1)
          · rw [decide_eq_true q8]
            refine W_cond_t rfl ?_
            refine W_exit ?_
            refine ⟨rfl, _, hrc18, ?_⟩
            intro w27 hU27 hzz27 hrz
            have hzw27 := hU27.size
            replace hdf18 := hdf18.upd1 hU27 (by omega)
            replace hb16 := hb16.upd1 hU27 (by omega)
            replace hb1 := hb1.upd1 hU27 (by omega)
            replace hb2 := hb2.upd1 hU27 (by omega)
            replace hT5 := hT5.upd1 hU27 (by omega)
            replace hE5 := hE5.upd1 hU27 (by intro h1; have h3 : ((w2.heap.size ≤ (D18 + 1) ∧ (D18 + 1) ≠ tb5) ∧ (D18 + 1) < w5.heap.size) := h1; omega)
            replace hL5 := hL5.upd1 hU27 (by intro h1; have h3 : ((w2.heap.size ≤ (D18 + 1) ∧ (D18 + 1) ≠ tb5) ∧ (D18 + 1) < w5.heap.size) := h1; omega)
            replace hA8 := hA8.upd1 hU27 (by intro h1; have h3 : ((w7.heap.size ≤ (D18 + 1)) ∧ (D18 + 1) < w8.heap.size) := h1; omega)
            replace hO8 := hO8.upd1 hU27 (by intro h1; have h3 : ((w7.heap.size ≤ (D18 + 1)) ∧ (D18 + 1) < w8.heap.size) := h1; omega)
            replace hb9 := hb9.upd1 hU27 (by omega)
            replace hb10 := hb10.upd1 hU27 (by omega)
            replace hB13 := hB13.upd1 hU27 (by omega)
            replace hb14 := hb14.upd1 hU27 (by omega)
            replace HU := HU.trans1 hU27 (by show (False) ∨ w.heap.size ≤ (D18 + 1); omega)
            replace HB18 := HB18.trans1 hU27 (by show ((D18 + 1) = B16 ∨ (D18 + 1) = D18 + 1) ∨ w19.heap.size ≤ (D18 + 1); omega)
            replace hb20 := hb20.upd1 hU27 (by omega)
            replace hc23 := cell_upd1 hU27 hc23 (by show ib23 ≠ (D18 + 1); omega)
            exact Or.inr ⟨rfl, (hJx18 _).2 (⟨i19, (by rw [hr18]; rw [hr18] at hrz; exact hrz), hdf18, hb16, hb1, hb2, hT5, hE5, hL5, hA8, hO8, hb9, hb10, hB13, hb14, HU, (by omega), (by omega), (by omega)⟩)⟩
          · rw [decide_eq_false q8]
            refine W_cond_f rfl ?_
            refine W_skip ?_
            refine ⟨rfl, _, hrc18, ?_⟩
            intro w28 hU28 hzz28 hrz
            have hzw28 := hU28.size
            replace hdf18 := hdf18.upd1 hU28 (by omega)
            replace hb16 := hb16.upd1 hU28 (by omega)
            replace hb1 := hb1.upd1 hU28 (by omega)
            replace hb2 := hb2.upd1 hU28 (by omega)
            replace hT5 := hT5.upd1 hU28 (by omega)
            replace hE5 := hE5.upd1 hU28 (by intro h1; have h3 : ((w2.heap.size ≤ (D18 + 1) ∧ (D18 + 1) ≠ tb5) ∧ (D18 + 1) < w5.heap.size) := h1; omega)
            replace hL5 := hL5.upd1 hU28 (by intro h1; have h3 : ((w2.heap.size ≤ (D18 + 1) ∧ (D18 + 1) ≠ tb5) ∧ (D18 + 1) < w5.heap.size) := h1; omega)
            replace hA8 := hA8.upd1 hU28 (by intro h1; have h3 : ((w7.heap.size ≤ (D18 + 1)) ∧ (D18 + 1) < w8.heap.size) := h1; omega)
            replace hO8 := hO8.upd1 hU28 (by intro h1; have h3 : ((w7.heap.size ≤ (D18 + 1)) ∧ (D18 + 1) < w8.heap.size) := h1; omega)
            replace hb9 := hb9.upd1 hU28 (by omega)
            replace hb10 := hb10.upd1 hU28 (by omega)
            replace hB13 := hB13.upd1 hU28 (by omega)
            replace hb14 := hb14.upd1 hU28 (by omega)
            replace HU := HU.trans1 hU28 (by show (False) ∨ w.heap.size ≤ (D18 + 1); omega)
            replace HB18 := HB18.trans1 hU28 (by show ((D18 + 1) = B16 ∨ (D18 + 1) = D18 + 1) ∨ w19.heap.size ≤ (D18 + 1); omega)
            replace hb20 := hb20.upd1 hU28 (by omega)
            replace hc23 := cell_upd1 hU28 hc23 (by show ib23 ≠ (D18 + 1); omega)
            exact Or.inl ⟨rfl, HB18, (hJ18 _ _).2 ⟨(by rw [hr18]; rw [hr18] at hrz; exact hrz), hdf18, hb16, hb1, hb2, hT5, hE5, hL5, hA8, hO8, hb9, hb10, hB13, hb14, HU, (by omega)⟩⟩
        · rintro b c w9 (⟨rfl, h1, h2⟩ | ⟨rfl, h1⟩)
          · exact Or.inl ⟨rfl, h1, h2⟩
          · exact Or.inr ⟨rfl, h1⟩
      rintro e w29 ⟨v, rfl, hh | hh⟩
      · obtain ⟨hrc18, hdf18, hb16, hb1, hb2, hT5, hE5, hL5, hA8, hO8, hb9, hb10, hB13, hb14, HU, hpm⟩ := (hJ18 _ _).1 hh
        have hrl18 := hrc18.lt
        refine ⟨r18, hrc18, (by rw [hr18]; simp), ?_⟩
        intro w30 hU30 hzz30
        have hzw30 := hU30.size
        replace hdf18 := hdf18.upd1 hU30 (by omega)
        replace hb16 := hb16.upd1 hU30 (by omega)
        replace hb1 := hb1.upd1 hU30 (by omega)
        replace hb2 := hb2.upd1 hU30 (by omega)
        replace hT5 := hT5.upd1 hU30 (by omega)
        replace hE5 := hE5.upd1 hU30 (by intro h1; have h3 : ((w2.heap.size ≤ (D18 + 1) ∧ (D18 + 1) ≠ tb5) ∧ (D18 + 1) < w5.heap.size) := h1; omega)
        replace hL5 := hL5.upd1 hU30 (by intro h1; have h3 : ((w2.heap.size ≤ (D18 + 1) ∧ (D18 + 1) ≠ tb5) ∧ (D18 + 1) < w5.heap.size) := h1; omega)
        replace hA8 := hA8.upd1 hU30 (by intro h1; have h3 : ((w7.heap.size ≤ (D18 + 1)) ∧ (D18 + 1) < w8.heap.size) := h1; omega)
        replace hO8 := hO8.upd1 hU30 (by intro h1; have h3 : ((w7.heap.size ≤ (D18 + 1)) ∧ (D18 + 1) < w8.heap.size) := h1; omega)
        replace hb9 := hb9.upd1 hU30 (by omega)
        replace hb10 := hb10.upd1 hU30 (by omega)
        replace hB13 := hB13.upd1 hU30 (by omega)
        replace hb14 := hb14.upd1 hU30 (by omega)
        replace HU := HU.trans1 hU30 (by show (False) ∨ w.heap.size ≤ (D18 + 1); omega)
        rw [hr18]
        skip
        refine W_seq ?_
        refine W_region ?_
        refine Wl_load (v := .int .i64 0) Try.isAgg3 rfl hb14 rfl ?_
        refine Wl_v (v := .bool true) (r_eq (a := 0) (b := 0) rfl rfl) ?_
        refine Wl_v (r_mv (v := .bool true) rfl) ?_
        refine Wl_guard_t rfl ?_
        refine Wl_load (v := .int .i64 (((ord l).length : Nat) : Int)) Try.isAgg3 rfl hb16 rfl ?_
        refine Wl_guard_t rfl ?_
        refine Wl_load (v := .slice b8 ((ord l).length) d8) Try.isAgg24 rfl hb10 rfl ?_
        refine Wl_guard_t rfl ?_
        refine Wl_v (r_len Try.underlying24 rfl) ?_
        refine Wl_guard_t rfl ?_
        refine Wl_load (v := .int .i64 many) Try.isAgg3 rfl hb1 rfl ?_
        refine Wl_guard_t rfl ?_
        refine Wl_v (r_max rfl rfl) ?_
        refine Wl_guard_t rfl ?_
        refine Wl_v (r_min rfl rfl) ?_
        refine Wl_guard_t rfl ?_
        refine Wl_v (r_ne rfl rfl) ?_
        refine Wl_v (r_pick_t (v := .bool (decide ((((ord l).length : Nat) : Int) ≠ (min (((ord l).length : Nat) : Int) (max 1 many))))) rfl rfl) ?_
        refine Wl_v (r_mv (v := .bool (decide ((((ord l).length : Nat) : Int) ≠ (min (((ord l).length : Nat) : Int) (max 1 many))))) rfl) ?_
        have q9 : ¬ ((((ord l).length : Nat) : Int) ≠ (min (((ord l).length : Nat) : Int) (max 1 many))) := (by omega)
        rw [decide_eq_false q9]
        refine Wl_guard_t rfl ?_
        refine Wl_load (v := .int .i64 0) Try.isAgg3 rfl hb14 rfl ?_
        refine Wl_guard_t rfl ?_
        refine Wl_v (v := .bool false) (r_eq (a := 0) (b := 1) rfl rfl) ?_
        refine Wl_guard_t rfl ?_
        refine Wl_v (r_mv (v := .bool false) rfl) ?_
        refine Wl_guard_f rfl ?_
        refine Wl_guard_f rfl ?_
        refine Wl_guard_f rfl ?_
        refine Wl_guard_f rfl ?_
        refine Wl_guard_t rfl ?_
        refine Wl_v (r_pick_f (v := .bool false) rfl rfl) ?_
        refine Wl_v (r_pick_f (v := .bool false) rfl rfl) ?_
        refine Wl_nil ?_
        refine W_cond_f rfl ?_
        refine W_skip ?_
        refine W_seq ?_
        refine W_seq ?_
        refine W_region ?_
        refine Wl_load (v := .int .i64 0) Try.isAgg3 rfl hb14 rfl ?_
        refine Wl_nil ?_
        refine W_region ?_
        refine Wl_alloc (cs := [.int .i64 0]) Try.zeroValue3 rfl ?_
        intro B31 w31 hB31 hU31 hzz31 hb31
        have hzw31 := hU31.size
        replace hdf18 := hdf18.upd0 hU31
        replace hb16 := hb16.upd0 hU31
        replace hb1 := hb1.upd0 hU31
        replace hb2 := hb2.upd0 hU31
        replace hT5 := hT5.upd0 hU31
        replace hE5 := hE5.upd0 hU31
        replace hL5 := hL5.upd0 hU31
        replace hA8 := hA8.upd0 hU31
        replace hO8 := hO8.upd0 hU31
        replace hb9 := hb9.upd0 hU31
        replace hb10 := hb10.upd0 hU31
        replace hB13 := hB13.upd0 hU31
        replace hb14 := hb14.upd0 hU31
        replace HU := HU.trans0 hU31
        refine Wl_store (v := .int .i64 0) (cs' := [.int .i64 0]) Try.sizeOf3 rfl rfl rfl rfl hb31 rfl rfl ?_
        intro w32 hU32 hzz32 hb31n
        replace hb31 := hb31n; clear hb31n
        have hzw32 := hU32.size
        replace hdf18 := hdf18.upd1 hU32 (by omega)
        replace hb16 := hb16.upd1 hU32 (by omega)
        replace hb1 := hb1.upd1 hU32 (by omega)
        replace hb2 := hb2.upd1 hU32 (by omega)
        replace hT5 := hT5.upd1 hU32 (by omega)
        replace hE5 := hE5.upd1 hU32 (by intro h1; have h3 : ((w2.heap.size ≤ B31 ∧ B31 ≠ tb5) ∧ B31 < w5.heap.size) := h1; omega)
        replace hL5 := hL5.upd1 hU32 (by intro h1; have h3 : ((w2.heap.size ≤ B31 ∧ B31 ≠ tb5) ∧ B31 < w5.heap.size) := h1; omega)
        replace hA8 := hA8.upd1 hU32 (by intro h1; have h3 : ((w7.heap.size ≤ B31) ∧ B31 < w8.heap.size) := h1; omega)
        replace hO8 := hO8.upd1 hU32 (by intro h1; have h3 : ((w7.heap.size ≤ B31) ∧ B31 < w8.heap.size) := h1; omega)
        replace hb9 := hb9.upd1 hU32 (by omega)
        replace hb10 := hb10.upd1 hU32 (by omega)
        replace hB13 := hB13.upd1 hU32 (by omega)
        replace hb14 := hb14.upd1 hU32 (by omega)
        replace HU := HU.trans1 hU32 (by show (False) ∨ w.heap.size ≤ B31; omega)
        refine Wl_nil ?_
        refine W_region ?_
        refine Wl_load (v := .int .i64 0) Try.isAgg3 rfl hb31 rfl ?_
        refine Wl_v (r_add rfl rfl (show IntKind.i64.wrap (0 + 1) = 1 by decide)) ?_
        refine Wl_store (v := .int .i64 1) (cs' := [.int .i64 1]) Try.sizeOf3 rfl rfl rfl rfl hb31 rfl rfl ?_
        intro w33 hU33 hzz33 hb31n
        replace hb31 := hb31n; clear hb31n
        have hzw33 := hU33.size
        replace hdf18 := hdf18.upd1 hU33 (by omega)
        replace hb16 := hb16.upd1 hU33 (by omega)
        replace hb1 := hb1.upd1 hU33 (by omega)
        replace hb2 := hb2.upd1 hU33 (by omega)
        replace hT5 := hT5.upd1 hU33 (by omega)
        replace hE5 := hE5.upd1 hU33 (by intro h1; have h3 : ((w2.heap.size ≤ B31 ∧ B31 ≠ tb5) ∧ B31 < w5.heap.size) := h1; omega)
        replace hL5 := hL5.upd1 hU33 (by intro h1; have h3 : ((w2.heap.size ≤ B31 ∧ B31 ≠ tb5) ∧ B31 < w5.heap.size) := h1; omega)
        replace hA8 := hA8.upd1 hU33 (by intro h1; have h3 : ((w7.heap.size ≤ B31) ∧ B31 < w8.heap.size) := h1; omega)
        replace hO8 := hO8.upd1 hU33 (by intro h1; have h3 : ((w7.heap.size ≤ B31) ∧ B31 < w8.heap.size) := h1; omega)
        replace hb9 := hb9.upd1 hU33 (by omega)
        replace hb10 := hb10.upd1 hU33 (by omega)
        replace hB13 := hB13.upd1 hU33 (by omega)
        replace hb14 := hb14.upd1 hU33 (by omega)
        replace HU := HU.trans1 hU33 (by show (False) ∨ w.heap.size ≤ B31; omega)
        refine Wl_nil ?_
        refine W_seq ?_
        refine W_seq ?_
        refine W_region ?_
        refine Wl_load (v := .int .i64 1) Try.isAgg3 rfl hb31 rfl ?_
        refine Wl_v (v := .bool true) (r_lt (a := 1) (b := 2) rfl rfl) ?_
        refine Wl_nil ?_
        refine W_cond_t rfl ?_
        refine W_skip ?_
        refine W_seq ?_
        refine W_block ?_
        refine W_seq ?_
        refine W_region ?_
        refine Wl_alloc (cs := [.int .i64 0]) Try.zeroValue3 rfl ?_
        intro B34 w34 hB34 hU34 hzz34 hb34
        have hzw34 := hU34.size
        replace hdf18 := hdf18.upd0 hU34
        replace hb16 := hb16.upd0 hU34
        replace hb1 := hb1.upd0 hU34
        replace hb2 := hb2.upd0 hU34
        replace hT5 := hT5.upd0 hU34
        replace hE5 := hE5.upd0 hU34
        replace hL5 := hL5.upd0 hU34
        replace hA8 := hA8.upd0 hU34
        replace hO8 := hO8.upd0 hU34
        replace hb9 := hb9.upd0 hU34
        replace hb10 := hb10.upd0 hU34
        replace hB13 := hB13.upd0 hU34
        replace hb14 := hb14.upd0 hU34
        replace HU := HU.trans0 hU34
        replace hb31 := hb31.upd0 hU34
        refine Wl_store (v := .int .i64 0) (cs' := [.int .i64 0]) Try.sizeOf3 rfl rfl rfl rfl hb34 rfl rfl ?_
        intro w35 hU35 hzz35 hb34n
        replace hb34 := hb34n; clear hb34n
        have hzw35 := hU35.size
        replace hdf18 := hdf18.upd1 hU35 (by omega)
        replace hb16 := hb16.upd1 hU35 (by omega)
        replace hb1 := hb1.upd1 hU35 (by omega)
        replace hb2 := hb2.upd1 hU35 (by omega)
        replace hT5 := hT5.upd1 hU35 (by omega)
        replace hE5 := hE5.upd1 hU35 (by intro h1; have h3 : ((w2.heap.size ≤ B34 ∧ B34 ≠ tb5) ∧ B34 < w5.heap.size) := h1; omega)
        replace hL5 := hL5.upd1 hU35 (by intro h1; have h3 : ((w2.heap.size ≤ B34 ∧ B34 ≠ tb5) ∧ B34 < w5.heap.size) := h1; omega)
        replace hA8 := hA8.upd1 hU35 (by intro h1; have h3 : ((w7.heap.size ≤ B34) ∧ B34 < w8.heap.size) := h1; omega)
        replace hO8 := hO8.upd1 hU35 (by intro h1; have h3 : ((w7.heap.size ≤ B34) ∧ B34 < w8.heap.size) := h1; omega)
        replace hb9 := hb9.upd1 hU35 (by omega)
        replace hb10 := hb10.upd1 hU35 (by omega)
        replace hB13 := hB13.upd1 hU35 (by omega)
        replace hb14 := hb14.upd1 hU35 (by omega)
        replace HU := HU.trans1 hU35 (by show (False) ∨ w.heap.size ≤ B34; omega)
        replace hb31 := hb31.upd1 hU35 (by omega)
        refine Wl_nil ?_
        refine W_seq ?_
        refine W_seq ?_
        refine W_region ?_
        refine Wl_v (r_mv (v := .func (.func 40) #[] #[.pointer (some ⟨B13, 0, none⟩)]) rfl) ?_
        refine Wl_nil ?_
        refine W_block ?_
        refine W_range (gf := 40) (ar := fun y => #[y, .pointer (some ⟨B13, 0, none⟩)]) rfl Try.call40 (fun y => by simp) ?_
        intro D36 fn36 w36 hD36 hU36 hzz36 hdf36 hrc360
        have hzw36 := hU36.size
        replace hdf18 := hdf18.upd0 hU36
        replace hb16 := hb16.upd0 hU36
        replace hb1 := hb1.upd0 hU36
        replace hb2 := hb2.upd0 hU36
        replace hT5 := hT5.upd0 hU36
        replace hE5 := hE5.upd0 hU36
        replace hL5 := hL5.upd0 hU36
        replace hA8 := hA8.upd0 hU36
        replace hO8 := hO8.upd0 hU36
        replace hb9 := hb9.upd0 hU36
        replace hb10 := hb10.upd0 hU36
        replace hB13 := hB13.upd0 hU36
        replace hb14 := hb14.upd0 hU36
        replace HU := HU.trans0 hU36
        replace hb31 := hb31.upd0 hU36
        replace hb34 := hb34.upd0 hU36
        obtain ⟨r36, hr36, hrc36⟩ : ∃ r, r = _ ∧ Rec w36 (D36 + 1) r := ⟨_, rfl, hrc360⟩
        clear hrc360
        obtain ⟨J36, hJ36⟩ : ∃ J : Nat → World → Prop, ∀ i w', J i w' ↔ (Rec w' (D36 + 1) r36 ∧ Dfr w' D36 ∧ Blk w' B34 [.int .i64 ((i : Nat) : Int)] ∧ Dfr w' D18 ∧ Blk w' B16 [.int .i64 (((ord l).length : Nat) : Int)] ∧ Blk w' B1 [.int .i64 many] ∧ Blk w' B2 [.bool false] ∧ Blk w' tb5 [.slice ea5 (2 ^ bt l) ec5, .int .i64 ((bt l : Nat) : Int), .slice la5 n lc5] ∧ Own w' (fun g => ((w2.heap.size ≤ g ∧ g ≠ tb5) ∧ g < w5.heap.size)) 38 2 (.slice ea5 (2 ^ bt l) ec5) (2 ^ bt l) (rows encE (tbl l)) ∧ Own w' (fun g => ((w2.heap.size ≤ g ∧ g ≠ tb5) ∧ g < w5.heap.size)) 3 1 (.slice la5 n lc5) n (ints .i64 l) ∧ Own w' (fun g => ((w7.heap.size ≤ g) ∧ g < w8.heap.size)) 3 1 (.slice a8 ((ord l).length) c8) ((ord l).length) (ints .i64 (rps l (ord l).length)) ∧ Own w' (fun g => ((w7.heap.size ≤ g) ∧ g < w8.heap.size)) 38 2 (.slice b8 ((ord l).length) d8) ((ord l).length) (rows encE (os l)) ∧ Blk w' B9 [.slice a8 ((ord l).length) c8] ∧ Blk w' B10 [.slice b8 ((ord l).length) d8] ∧ Blk w' B13 [.pointer (some ⟨tb5, 0, none⟩)] ∧ Blk w' B14 [.int .i64 0] ∧ Blk w' B31 [.int .i64 1] ∧ Upd No w w') := ⟨_, fun _ _ => Iff.rfl⟩
        obtain ⟨Jx36, hJx36⟩ : ∃ Jx : World → Prop, ∀ w', Jx w' ↔ (False) := ⟨_, fun _ => Iff.rfl⟩
        refine (runs1_spec (ly := (D36 + 1)) (l := l) (J := J36) (Jx := Jx36) (Sb := (fun g => g = B34 ∨ g = D36 + 1)) (R := fun g => ((w2.heap.size ≤ g ∧ g ≠ tb5) ∧ g < w5.heap.size)) w36 hB13 hT5 hE5.sl q4 (by intro g h1 h2; have h3 : ((w2.heap.size ≤ g ∧ g ≠ tb5) ∧ g < w5.heap.size) := h1; have h4 : g = B34 ∨ g = D36 + 1 := h2; omega) (by show ¬ (_ ∨ _); omega) (by show ¬ (_ ∨ _); omega) (by intro g h1 h2; have h3 : g = B34 ∨ g = D36 + 1 := h2; omega) (by intro g h1; have h3 : ((w2.heap.size ≤ g ∧ g ≠ tb5) ∧ g < w5.heap.size) := h1; omega) ?_ ?_ ?_).mono ?_
        · exact (hJ36 _ _).2 ⟨hrc36, hdf36, hb34, hdf18, hb16, hb1, hb2, hT5, hE5, hL5, hA8, hO8, hb9, hb10, hB13, hb14, hb31, HU⟩
        · intro i wa wb hh hUs
          obtain ⟨hrc36, hdf36, hb34, hdf18, hb16, hb1, hb2, hT5, hE5, hL5, hA8, hO8, hb9, hb10, hB13, hb14, hb31, HU⟩ := (hJ36 _ _).1 hh
          replace hrc36 := hrc36.upd0 hUs
          replace hdf36 := hdf36.upd0 hUs
          replace hb34 := hb34.upd0 hUs
          replace hdf18 := hdf18.upd0 hUs
          replace hb16 := hb16.upd0 hUs
          replace hb1 := hb1.upd0 hUs
          replace hb2 := hb2.upd0 hUs
          replace hT5 := hT5.upd0 hUs
          replace hE5 := hE5.upd0 hUs
          replace hL5 := hL5.upd0 hUs
          replace hA8 := hA8.upd0 hUs
          replace hO8 := hO8.upd0 hUs
          replace hb9 := hb9.upd0 hUs
          replace hb10 := hb10.upd0 hUs
          replace hB13 := hB13.upd0 hUs
          replace hb14 := hb14.upd0 hUs
          replace hb31 := hb31.upd0 hUs
          replace HU := HU.trans0 hUs
          exact (hJ36 _ _).2 ⟨hrc36, hdf36, hb34, hdf18, hb16, hb1, hb2, hT5, hE5, hL5, hA8, hO8, hb9, hb10, hB13, hb14, hb31, HU⟩
        · intro i37 w37 hi37 hh
          obtain ⟨hrc36, hdf36, hb34, hdf18, hb16, hb1, hb2, hT5, hE5, hL5, hA8, hO8, hb9, hb10, hB13, hb14, hb31, HU⟩ := (hJ36 _ _).1 hh
          have hrl36 := hrc36.lt
          have hrg := rps_get (l := l) (k := (ord l).length) (i := i37) (by omega)
          have HB36 : Upd (fun g => g = B34 ∨ g = D36 + 1) w37 w37 := Upd.refl _ _
          refine yieldC_of_W (R := fun b c w' => (b = true ∧ Upd (fun g => g = B34 ∨ g = D36 + 1) w37 w' ∧ J36 (i37 + 1) w') ∨ (b = false ∧ Jx36 w')) hrc36 (by rw [hr36]; rfl) (by rw [hr36]; exact zip2 _ _ _ _ _ _) ?_ ?_
          · rw [hr36]
            refine W_seq ?_
            refine W_region ?_
            refine Wl_v (r_as (v := .int .i64 ((rp l i37 : Nat) : Int)) rfl) ?_
            refine Wl_nil ?_
            refine W_region ?_
            refine Wl_alloc (cs := [.int .i64 0, .int .i64 0]) Try.zeroValue38 rfl ?_
            intro B38 w38 hB38 hU38 hzz38 hb38
            have hzw38 := hU38.size
            replace hrc36 := hrc36.upd0 hU38
            replace hdf36 := hdf36.upd0 hU38
            replace hb34 := hb34.upd0 hU38
            replace hdf18 := hdf18.upd0 hU38
            replace hb16 := hb16.upd0 hU38
            replace hb1 := hb1.upd0 hU38
            replace hb2 := hb2.upd0 hU38
            replace hT5 := hT5.upd0 hU38
            replace hE5 := hE5.upd0 hU38
            replace hL5 := hL5.upd0 hU38
            replace hA8 := hA8.upd0 hU38
            replace hO8 := hO8.upd0 hU38
            replace hb9 := hb9.upd0 hU38
            replace hb10 := hb10.upd0 hU38
            replace hB13 := hB13.upd0 hU38
            replace hb14 := hb14.upd0 hU38
            replace hb31 := hb31.upd0 hU38
            replace HU := HU.trans0 hU38
            replace HB36 := HB36.trans0 hU38
            refine Wl_storea (off := 0) (vs := [.int .i64 (((os l).getD i37 (0, 0)).1), .int .i64 (((os l).getD i37 (0, 0)).2)]) (cs' := [.int .i64 (((os l).getD i37 (0, 0)).1), .int .i64 (((os l).getD i37 (0, 0)).2)]) Try.sizeOf38 rfl rfl rfl (by simp only [List.mem_cons, List.not_mem_nil, or_false, forall_eq_or_imp, forall_eq]; exact ⟨rfl, rfl⟩) hb38 (by simp) rfl ?_
            intro w39 hU39 hzz39 hb38n
            replace hb38 := hb38n; clear hb38n
            have hzw39 := hU39.size
            replace hrc36 := hrc36.upd1 hU39 (by omega)
            replace hdf36 := hdf36.upd1 hU39 (by omega)
            replace hb34 := hb34.upd1 hU39 (by omega)
            replace hdf18 := hdf18.upd1 hU39 (by omega)
            replace hb16 := hb16.upd1 hU39 (by omega)
            replace hb1 := hb1.upd1 hU39 (by omega)
            replace hb2 := hb2.upd1 hU39 (by omega)
            replace hT5 := hT5.upd1 hU39 (by omega)
            replace hE5 := hE5.upd1 hU39 (by intro h1; have h3 : ((w2.heap.size ≤ B38 ∧ B38 ≠ tb5) ∧ B38 < w5.heap.size) := h1; omega)
            replace hL5 := hL5.upd1 hU39 (by intro h1; have h3 : ((w2.heap.size ≤ B38 ∧ B38 ≠ tb5) ∧ B38 < w5.heap.size) := h1; omega)
            replace hA8 := hA8.upd1 hU39 (by intro h1; have h3 : ((w7.heap.size ≤ B38) ∧ B38 < w8.heap.size) := h1; omega)
            replace hO8 := hO8.upd1 hU39 (by intro h1; have h3 : ((w7.heap.size ≤ B38) ∧ B38 < w8.heap.size) := h1; omega)
            replace hb9 := hb9.upd1 hU39 (by omega)
            replace hb10 := hb10.upd1 hU39 (by omega)
            replace hB13 := hB13.upd1 hU39 (by omega)
            replace hb14 := hb14.upd1 hU39 (by omega)
            replace hb31 := hb31.upd1 hU39 (by omega)
            replace HU := HU.trans1 hU39 (by show (False) ∨ w.heap.size ≤ B38; omega)
            replace HB36 := HB36.trans1 hU39 (by show (B38 = B34 ∨ B38 = D36 + 1) ∨ w37.heap.size ≤ B38; omega)
            refine Wl_nil ?_
            refine ⟨rfl, _, hrc36, (by rw [hr36]), ?_⟩
            intro w40 hU40 hzz40 hrc36b
            have hzw40 := hU40.size
            replace hdf36 := hdf36.upd1 hU40 (by omega)
            replace hb34 := hb34.upd1 hU40 (by omega)
            replace hdf18 := hdf18.upd1 hU40 (by omega)
            replace hb16 := hb16.upd1 hU40 (by omega)
            replace hb1 := hb1.upd1 hU40 (by omega)
            replace hb2 := hb2.upd1 hU40 (by omega)
            replace hT5 := hT5.upd1 hU40 (by omega)
            replace hE5 := hE5.upd1 hU40 (by intro h1; have h3 : ((w2.heap.size ≤ (D36 + 1) ∧ (D36 + 1) ≠ tb5) ∧ (D36 + 1) < w5.heap.size) := h1; omega)
            replace hL5 := hL5.upd1 hU40 (by intro h1; have h3 : ((w2.heap.size ≤ (D36 + 1) ∧ (D36 + 1) ≠ tb5) ∧ (D36 + 1) < w5.heap.size) := h1; omega)
            replace hA8 := hA8.upd1 hU40 (by intro h1; have h3 : ((w7.heap.size ≤ (D36 + 1)) ∧ (D36 + 1) < w8.heap.size) := h1; omega)
            replace hO8 := hO8.upd1 hU40 (by intro h1; have h3 : ((w7.heap.size ≤ (D36 + 1)) ∧ (D36 + 1) < w8.heap.size) := h1; omega)
            replace hb9 := hb9.upd1 hU40 (by omega)
            replace hb10 := hb10.upd1 hU40 (by omega)
            replace hB13 := hB13.upd1 hU40 (by omega)
            replace hb14 := hb14.upd1 hU40 (by omega)
            replace hb31 := hb31.upd1 hU40 (by omega)
            replace HU := HU.trans1 hU40 (by show (False) ∨ w.heap.size ≤ (D36 + 1); omega)
            replace HB36 := HB36.trans1 hU40 (by show ((D36 + 1) = B34 ∨ (D36 + 1) = D36 + 1) ∨ w37.heap.size ≤ (D36 + 1); omega)
            replace hb38 := hb38.upd1 hU40 (by omega)
            clear hrc36
            have hrc36 := hrc36b
            clear hrc36b
            refine W_block ?_
            refine W_seq ?_
            refine W_seq ?_
            refine W_drawt rfl (l0 := #[false, false, false, false, false, false, false, false, false, false, false, false, false, false, false, false, false, false, false, false]) (by kernel_rfl) ?_
            refine Wt_take (i := 0) (listed' := #[true, false, false, false, false, false, false, false, false, false, false, false, false, false, false, false, false, false, false, false]) (by kernel_rfl) rfl (by kernel_rfl) (by kernel_rfl) (by kernel_rfl) (by kernel_rfl) (YI_v (v := .int .i64 ((i37 : Nat) : Int)) rfl (fun w' hw' => r_load Try.isAgg3 rfl (by rw [(hb34.upd0 hw').cell]; rfl))) ?_
            refine Wt_take (i := 1) (listed' := #[true, true, false, false, false, false, false, false, false, false, false, false, false, false, false, false, false, false, false, false]) (by kernel_rfl) rfl (by kernel_rfl) (by kernel_rfl) (by kernel_rfl) (by kernel_rfl) (YI_v (v := .slice b8 ((ord l).length) d8) rfl (fun w' hw' => r_load Try.isAgg24 rfl (by rw [(hb10.upd0 hw').cell]; rfl))) ?_
            refine Wt_take (i := 2) (listed' := #[true, true, true, false, false, false, false, false, false, false, false, false, false, false, false, false, false, false, false, false]) (by kernel_rfl) rfl (by kernel_rfl) (by kernel_rfl) (by kernel_rfl) (by kernel_rfl) (YI_v (v := .int .i64 (((ord l).length : Nat) : Int)) rfl (fun w' hw' => r_len Try.underlying24 rfl)) ?_
            refine Wt_take (i := 3) (listed' := #[true, true, true, true, false, false, false, false, false, false, false, false, false, false, false, false, false, false, false, false]) (by kernel_rfl) rfl (by kernel_rfl) (by kernel_rfl) (by kernel_rfl) (by kernel_rfl) (YI_v (v := .bool (decide ((((ord l).length : Nat) : Int) ≤ ((i37 : Nat) : Int)))) rfl (fun w' hw' => r_ge rfl rfl)) ?_
            refine Wt_take (i := 4) (listed' := #[true, true, true, true, true, false, false, false, false, false, false, false, false, false, false, false, false, false, false, false]) (by kernel_rfl) rfl (by kernel_rfl) (by kernel_rfl) (by kernel_rfl) (by kernel_rfl) (YI_v (v := .bool (decide ((((ord l).length : Nat) : Int) ≤ ((i37 : Nat) : Int)))) rfl (fun w' hw' => r_mv (v := .bool (decide ((((ord l).length : Nat) : Int) ≤ ((i37 : Nat) : Int)))) rfl)) ?_
            have q10 : ¬ ((((ord l).length : Nat) : Int) ≤ ((i37 : Nat) : Int)) := (by omega)
            rw [decide_eq_false q10]
            refine Wt_take (i := 5) (listed' := #[true, true, true, true, true, true, false, false, false, false, false, false, false, false, false, false, false, false, false, false]) (by kernel_rfl) rfl (by kernel_rfl) (by kernel_rfl) (by kernel_rfl) (by kernel_rfl) (YI_v (v := .int .i64 ((rp l i37 : Nat) : Int)) rfl (fun w' hw' => r_mv (v := .int .i64 ((rp l i37 : Nat) : Int)) rfl)) ?_
            refine Wt_take (i := 6) (listed' := #[true, true, true, true, true, true, true, false, false, false, false, false, false, false, false, false, false, false, false, false]) (by kernel_rfl) rfl (by kernel_rfl) (by kernel_rfl) (by kernel_rfl) (by kernel_rfl) (YI_v (v := .slice a8 ((ord l).length) c8) rfl (fun w' hw' => r_load Try.isAgg22 rfl (by rw [(hb9.upd0 hw').cell]; rfl))) ?_
            refine Wt_take (i := 7) (listed' := #[true, true, true, true, true, true, true, true, false, false, false, false, false, false, false, false, false, false, false, false]) (by kernel_rfl) rfl (by kernel_rfl) (by kernel_rfl) (by kernel_rfl) (by kernel_rfl) (YI_v (v := .int .i64 ((i37 : Nat) : Int)) rfl (fun w' hw' => r_load Try.isAgg3 rfl (by rw [(hb34.upd0 hw').cell]; rfl))) ?_
            obtain ⟨ib41, io41, ha41, hib41, hc41⟩ := (hA8.sl).iat (i := i37) (by omega)
            replace hib41 : ((w7.heap.size ≤ ib41) ∧ ib41 < w8.heap.size) := hib41
            refine Wt_take (i := 8) (listed' := #[true, true, true, true, true, true, true, true, true, false, false, false, false, false, false, false, false, false, false, false]) (by kernel_rfl) rfl (by kernel_rfl) (by kernel_rfl) (by kernel_rfl) (by kernel_rfl) (YI_v (v := .pointer (some ⟨ib41, io41 + i37, none⟩)) rfl (fun w' hw' => r_idx (b := ib41) (off := io41) (m := (ord l).length) (c := c8) (o' := io41 + i37) Try.underlying22 Try.sizeOf3 (by rw [← ha41]; rfl) rfl (by omega) (by omega) (by omega))) ?_
            refine Wt_take (i := 9) (listed' := #[true, true, true, true, true, true, true, true, true, true, false, false, false, false, false, false, false, false, false, false]) (by kernel_rfl) rfl (by kernel_rfl) (by kernel_rfl) (by kernel_rfl) (by kernel_rfl) (YI_v (v := .int .i64 ((rps l (ord l).length).getD i37 0)) rfl (fun w' hw' => r_load Try.isAgg3 rfl (hw'.cellk hc41))) ?_
            refine Wt_take (i := 10) (listed' := #[true, true, true, true, true, true, true, true, true, true, true, false, false, false, false, false, false, false, false, false]) (by kernel_rfl) rfl (by kernel_rfl) (by kernel_rfl) (by kernel_rfl) (by kernel_rfl) (YI_v (v := .bool (decide (((rp l i37 : Nat) : Int) ≠ ((rps l (ord l).length).getD i37 0)))) rfl (fun w' hw' => r_ne rfl rfl)) ?_
            refine Wt_take (i := 11) (listed' := #[true, true, true, true, true, true, true, true, true, true, true, true, false, false, false, false, false, false, false, false]) (by kernel_rfl) rfl (by kernel_rfl) (by kernel_rfl) (by kernel_rfl) (by kernel_rfl) (YI_v rfl (fun w' hw' => r_pick_f (v := .bool (decide (((rp l i37 : Nat) : Int) ≠ ((rps l (ord l).length).getD i37 0)))) rfl rfl)) ?_
            refine Wt_take (i := 12) (listed' := #[true, true, true, true, true, true, true, true, true, true, true, true, true, false, false, false, false, false, false, false]) (by kernel_rfl) rfl (by kernel_rfl) (by kernel_rfl) (by kernel_rfl) (by kernel_rfl) (YI_v (v := .bool (decide (((rp l i37 : Nat) : Int) ≠ ((rps l (ord l).length).getD i37 0)))) rfl (fun w' hw' => r_mv (v := .bool (decide (((rp l i37 : Nat) : Int) ≠ ((rps l (ord l).length).getD i37 0)))) rfl)) ?_
            have q11 : ¬ (((rp l i37 : Nat) : Int) ≠ ((rps l (ord l).length).getD i37 0)) := (fun h => h hrg.symm)
            rw [decide_eq_false q11]
            refine Wt_take (i := 13) (listed' := #[true, true, true, true, true, true, true, true, true, true, true, true, true, true, false, false, false, false, false, false]) (by kernel_rfl) rfl (by kernel_rfl) (by kernel_rfl) (by kernel_rfl) (by kernel_rfl) (YI_v (v := .agg #[.int .i64 (((os l).getD i37 (0, 0)).1), .int .i64 (((os l).getD i37 (0, 0)).2)]) rfl (fun w' hw' => r_loada (b := B38) (off := 0) (cs := [.int .i64 (((os l).getD i37 (0, 0)).1), .int .i64 (((os l).getD i37 (0, 0)).2)]) Try.isAgg38 Try.sizeOf38 rfl rfl (fun j hj => by rw [(hb38.upd0 hw').cell]; match j, hj with | 0, _ => rfl | 1, _ => rfl))) ?_
            refine Wt_take (i := 14) (listed' := #[true, true, true, true, true, true, true, true, true, true, true, true, true, true, true, false, false, false, false, false]) (by kernel_rfl) rfl (by kernel_rfl) (by kernel_rfl) (by kernel_rfl) (by kernel_rfl) (YI_v (v := .slice b8 ((ord l).length) d8) rfl (fun w' hw' => r_load Try.isAgg24 rfl (by rw [(hb10.upd0 hw').cell]; rfl))) ?_
            refine Wt_take (i := 15) (listed' := #[true, true, true, true, true, true, true, true, true, true, true, true, true, true, true, true, false, false, false, false]) (by kernel_rfl) rfl (by kernel_rfl) (by kernel_rfl) (by kernel_rfl) (by kernel_rfl) (YI_v (v := .int .i64 ((i37 : Nat) : Int)) rfl (fun w' hw' => r_load Try.isAgg3 rfl (by rw [(hb34.upd0 hw').cell]; rfl))) ?_
            obtain ⟨ib42, io42, ha42, hib42, hc42⟩ := Sl.rat (0, 0) encE_len (by decide) (hO8.sl) (i := i37) (by omega)
            refine Wt_take (i := 16) (listed' := #[true, true, true, true, true, true, true, true, true, true, true, true, true, true, true, true, true, false, false, false]) (by kernel_rfl) rfl (by kernel_rfl) (by kernel_rfl) (by kernel_rfl) (by kernel_rfl) (YI_v (v := .pointer (some ⟨ib42, io42 + i37 * 2, none⟩)) rfl (fun w' hw' => r_idx (b := ib42) (off := io42) (m := (ord l).length) (c := d8) (o' := io42 + i37 * 2) Try.underlying24 Try.sizeOf38 (by rw [← ha42]; rfl) rfl (by omega) (by omega) (by omega))) ?_
            refine Wt_take (i := 17) (listed' := #[true, true, true, true, true, true, true, true, true, true, true, true, true, true, true, true, true, true, false, false]) (by kernel_rfl) rfl (by kernel_rfl) (by kernel_rfl) (by kernel_rfl) (by kernel_rfl) (YI_v (v := .agg #[.int .i64 (((os l).getD i37 (0, 0)).1), .int .i64 (((os l).getD i37 (0, 0)).2)]) rfl (fun w' hw' => r_loada (cs := [.int .i64 (((os l).getD i37 (0, 0)).1), .int .i64 (((os l).getD i37 (0, 0)).2)]) Try.isAgg38 Try.sizeOf38 rfl rfl (hw'.cellsk rfl hc42))) ?_
            refine Wt_take (i := 18) (listed' := #[true, true, true, true, true, true, true, true, true, true, true, true, true, true, true, true, true, true, true, false]) (by kernel_rfl) rfl (by kernel_rfl) (by kernel_rfl) (by kernel_rfl) (by kernel_rfl) (YI_v (v := .bool (!decide ((((os l).getD i37 (0, 0)).1) = (((os l).getD i37 (0, 0)).1) ∧ (((os l).getD i37 (0, 0)).2) = (((os l).getD i37 (0, 0)).2)))) rfl (fun w' hw' => r_neag (pp := (((os l).getD i37 (0, 0)).1) = (((os l).getD i37 (0, 0)).1) ∧ (((os l).getD i37 (0, 0)).2) = (((os l).getD i37 (0, 0)).2)) Try.underlying38 (by kernel_rfl) (by kernel_rfl) rfl rfl (fun w => eqf_int (by decide) Try.underlying3 Try.isAgg3 rfl rfl (fun w => eqf_int (by decide) Try.underlying3 Try.isAgg3 rfl rfl (fun w => eqf_nil))) (by simp [Bool.decide_and]))) ?_
            refine Wt_take (i := 19) (listed' := #[true, true, true, true, true, true, true, true, true, true, true, true, true, true, true, true, true, true, true, true]) (by kernel_rfl) rfl (by kernel_rfl) (by kernel_rfl) (by kernel_rfl) (by kernel_rfl) (YI_v rfl (fun w' hw' => r_pick_f (v := .bool (!decide ((((os l).getD i37 (0, 0)).1) = (((os l).getD i37 (0, 0)).1) ∧ (((os l).getD i37 (0, 0)).2) = (((os l).getD i37 (0, 0)).2)))) rfl rfl)) ?_
            intro w43 hU43
            have hzw43 := hU43.size
            replace hrc36 := hrc36.upd0 hU43
            replace hdf36 := hdf36.upd0 hU43
            replace hb34 := hb34.upd0 hU43
            replace hdf18 := hdf18.upd0 hU43
            replace hb16 := hb16.upd0 hU43
            replace hb1 := hb1.upd0 hU43
            replace hb2 := hb2.upd0 hU43
            replace hT5 := hT5.upd0 hU43
            replace hE5 := hE5.upd0 hU43
            replace hL5 := hL5.upd0 hU43
            replace hA8 := hA8.upd0 hU43
            replace hO8 := hO8.upd0 hU43
            replace hb9 := hb9.upd0 hU43
            replace hb10 := hb10.upd0 hU43
            replace hB13 := hB13.upd0 hU43
            replace hb14 := hb14.upd0 hU43
            replace hb31 := hb31.upd0 hU43
            replace HU := HU.trans0 hU43
            replace HB36 := HB36.trans0 hU43
            replace hb38 := hb38.upd0 hU43
            replace hc41 := cell_upd0 hU43 hc41
            refine Wa_done (by kernel_rfl) ?_
            have q12 : (((os l).getD i37 (0, 0)).1) = (((os l).getD i37 (0, 0)).1) ∧ (((os l).getD i37 (0, 0)).2) = (((os l).getD i37 (0, 0)).2) := ⟨rfl, rfl⟩
            rw [decide_eq_true q12]
            simp only [Bool.not_true, Bool.not_false]
            refine W_cond_f rfl ?_
            refine W_skip ?_
            refine W_seq ?_
            refine W_region ?_
            refine Wl_load (v := .int .i64 ((i37 : Nat) : Int)) Try.isAgg3 rfl hb34 rfl ?_
            refine Wl_v (r_add rfl rfl (wi64 (by omega) (by omega))) ?_
            refine Wl_store (v := .int .i64 (((i37 : Nat) : Int) + 1)) (cs' := [.int .i64 (((i37 : Nat) : Int) + 1)]) Try.sizeOf3 rfl rfl rfl rfl hb34 rfl rfl ?_
            intro w44 hU44 hzz44 hb34n
            replace hb34 := hb34n; clear hb34n
            have hzw44 := hU44.size
            replace hrc36 := hrc36.upd1 hU44 (by omega)
            replace hdf36 := hdf36.upd1 hU44 (by omega)
            replace hdf18 := hdf18.upd1 hU44 (by omega)
            replace hb16 := hb16.upd1 hU44 (by omega)
            replace hb1 := hb1.upd1 hU44 (by omega)
            replace hb2 := hb2.upd1 hU44 (by omega)
            replace hT5 := hT5.upd1 hU44 (by omega)
            replace hE5 := hE5.upd1 hU44 (by intro h1; have h3 : ((w2.heap.size ≤ B34 ∧ B34 ≠ tb5) ∧ B34 < w5.heap.size) := h1; omega)
            replace hL5 := hL5.upd1 hU44 (by intro h1; have h3 : ((w2.heap.size ≤ B34 ∧ B34 ≠ tb5) ∧ B34 < w5.heap.size) := h1; omega)
            replace hA8 := hA8.upd1 hU44 (by intro h1; have h3 : ((w7.heap.size ≤ B34) ∧ B34 < w8.heap.size) := h1; omega)
            replace hO8 := hO8.upd1 hU44 (by intro h1; have h3 : ((w7.heap.size ≤ B34) ∧ B34 < w8.heap.size) := h1; omega)
            replace hb9 := hb9.upd1 hU44 (by omega)
            replace hb10 := hb10.upd1 hU44 (by omega)
            replace hB13 := hB13.upd1 hU44 (by omega)
            replace hb14 := hb14.upd1 hU44 (by omega)
            replace hb31 := hb31.upd1 hU44 (by omega)
            replace HU := HU.trans1 hU44 (by show (False) ∨ w.heap.size ≤ B34; omega)
            replace HB36 := HB36.trans1 hU44 (by show (B34 = B34 ∨ B34 = D36 + 1) ∨ w37.heap.size ≤ B34; omega)
            replace hb38 := hb38.upd1 hU44 (by omega)
            replace hc41 := cell_upd1 hU44 hc41 (by show ib41 ≠ B34; omega)
            refine Wl_nil ?_
            refine W_seq ?_
            refine W_region ?_
            refine Wl_load (v := .int .i64 1) Try.isAgg3 rfl hb31 rfl ?_
            refine Wl_v (v := .bool false) (r_eq (a := 1) (b := 0) rfl rfl) ?_
            refine Wl_v (r_mv (v := .bool false) rfl) ?_
            refine Wl_guard_f rfl ?_
            refine Wl_guard_f rfl ?_
            refine Wl_guard_f rfl ?_
            refine Wl_v (r_pick_f (v := .bool false) rfl rfl) ?_
            refine Wl_nil ?_
            refine W_cond_f rfl ?_
            refine W_skip ?_
            refine ⟨rfl, _, hrc36, ?_⟩
            intro w45 hU45 hzz45 hrz
            have hzw45 := hU45.size
            replace hdf36 := hdf36.upd1 hU45 (by omega)
            replace hb34 := hb34.upd1 hU45 (by omega)
            replace hdf18 := hdf18.upd1 hU45 (by omega)
            replace hb16 := hb16.upd1 hU45 (by omega)
            replace hb1 := hb1.upd1 hU45 (by omega)
            replace hb2 := hb2.upd1 hU45 (by omega)
            replace hT5 := hT5.upd1 hU45 (by omega)
            replace hE5 := hE5.upd1 hU45 (by intro h1; have h3 : ((w2.heap.size ≤ (D36 + 1) ∧ (D36 + 1) ≠ tb5) ∧ (D36 + 1) < w5.heap.size) := h1; omega)
            replace hL5 := hL5.upd1 hU45 (by intro h1; have h3 : ((w2.heap.size ≤ (D36 + 1) ∧ (D36 + 1) ≠ tb5) ∧ (D36 + 1) < w5.heap.size) := h1; omega)
            replace hA8 := hA8.upd1 hU45 (by intro h1; have h3 : ((w7.heap.size ≤ (D36 + 1)) ∧ (D36 + 1) < w8.heap.size) := h1; omega)
            replace hO8 := hO8.upd1 hU45 (by intro h1; have h3 : ((w7.heap.size ≤ (D36 + 1)) ∧ (D36 + 1) < w8.heap.size) := h1; omega)
            replace hb9 := hb9.upd1 hU45 (by omega)
            replace hb10 := hb10.upd1 hU45 (by omega)
            replace hB13 := hB13.upd1 hU45 (by omega)
            replace hb14 := hb14.upd1 hU45 (by omega)
            replace hb31 := hb31.upd1 hU45 (by omega)
            replace HU := HU.trans1 hU45 (by show (False) ∨ w.heap.size ≤ (D36 + 1); omega)
            replace HB36 := HB36.trans1 hU45 (by show ((D36 + 1) = B34 ∨ (D36 + 1) = D36 + 1) ∨ w37.heap.size ≤ (D36 + 1); omega)
            replace hb38 := hb38.upd1 hU45 (by omega)
            replace hc41 := cell_upd1 hU45 hc41 (by show ib41 ≠ (D36 + 1); omega)
            exact Or.inl ⟨rfl, HB36, (hJ36 _ _).2 ⟨(by rw [hr36]; rw [hr36] at hrz; exact hrz), hdf36, hb34, hdf18, hb16, hb1, hb2, hT5, hE5, hL5, hA8, hO8, hb9, hb10, hB13, hb14, hb31, HU⟩⟩
          · rintro b c w9 (⟨rfl, h1, h2⟩ | ⟨rfl, h1⟩)
            · exact Or.inl ⟨rfl, h1, h2⟩
            · exact Or.inr ⟨rfl, h1⟩
        rintro e w46 ⟨v, rfl, hh | hh⟩
        · obtain ⟨hrc36, hdf36, hb34, hdf18, hb16, hb1, hb2, hT5, hE5, hL5, hA8, hO8, hb9, hb10, hB13, hb14, hb31, HU⟩ := (hJ36 _ _).1 hh
          have hrl36 := hrc36.lt
          refine ⟨r36, hrc36, (by rw [hr36]; simp), ?_⟩
          intro w47 hU47 hzz47
          have hzw47 := hU47.size
          replace hdf36 := hdf36.upd1 hU47 (by omega)
          replace hb34 := hb34.upd1 hU47 (by omega)
          replace hdf18 := hdf18.upd1 hU47 (by omega)
          replace hb16 := hb16.upd1 hU47 (by omega)
          replace hb1 := hb1.upd1 hU47 (by omega)
          replace hb2 := hb2.upd1 hU47 (by omega)
          replace hT5 := hT5.upd1 hU47 (by omega)
          replace hE5 := hE5.upd1 hU47 (by intro h1; have h3 : ((w2.heap.size ≤ (D36 + 1) ∧ (D36 + 1) ≠ tb5) ∧ (D36 + 1) < w5.heap.size) := h1; omega)
          replace hL5 := hL5.upd1 hU47 (by intro h1; have h3 : ((w2.heap.size ≤ (D36 + 1) ∧ (D36 + 1) ≠ tb5) ∧ (D36 + 1) < w5.heap.size) := h1; omega)
          replace hA8 := hA8.upd1 hU47 (by intro h1; have h3 : ((w7.heap.size ≤ (D36 + 1)) ∧ (D36 + 1) < w8.heap.size) := h1; omega)
          replace hO8 := hO8.upd1 hU47 (by intro h1; have h3 : ((w7.heap.size ≤ (D36 + 1)) ∧ (D36 + 1) < w8.heap.size) := h1; omega)
          replace hb9 := hb9.upd1 hU47 (by omega)
          replace hb10 := hb10.upd1 hU47 (by omega)
          replace hB13 := hB13.upd1 hU47 (by omega)
          replace hb14 := hb14.upd1 hU47 (by omega)
          replace hb31 := hb31.upd1 hU47 (by omega)
          replace HU := HU.trans1 hU47 (by show (False) ∨ w.heap.size ≤ (D36 + 1); omega)
          rw [hr36]
          skip
          refine W_seq ?_
          refine W_region ?_
          refine Wl_load (v := .int .i64 1) Try.isAgg3 rfl hb31 rfl ?_
          refine Wl_v (v := .bool false) (r_eq (a := 1) (b := 0) rfl rfl) ?_
          refine Wl_v (r_mv (v := .bool false) rfl) ?_
          refine Wl_guard_f rfl ?_
          refine Wl_guard_f rfl ?_
          refine Wl_guard_f rfl ?_
          refine Wl_guard_f rfl ?_
          refine Wl_guard_f rfl ?_
          refine Wl_guard_f rfl ?_
          refine Wl_guard_f rfl ?_
          refine Wl_v (r_pick_f (v := .bool false) rfl rfl) ?_
          refine Wl_v (r_mv (v := .bool false) rfl) ?_
          refine Wl_guard_t rfl ?_
          refine Wl_load (v := .int .i64 1) Try.isAgg3 rfl hb31 rfl ?_
          refine Wl_guard_t rfl ?_
          refine Wl_v (v := .bool true) (r_eq (a := 1) (b := 1) rfl rfl) ?_
          refine Wl_guard_t rfl ?_
          refine Wl_v (r_mv (v := .bool true) rfl) ?_
          refine Wl_guard_t rfl ?_
          refine Wl_load (v := .int .i64 (((ord l).length : Nat) : Int)) Try.isAgg3 rfl hb34 rfl ?_
          refine Wl_guard_t rfl ?_
          refine Wl_load (v := .slice b8 ((ord l).length) d8) Try.isAgg24 rfl hb10 rfl ?_
          refine Wl_guard_t rfl ?_
          refine Wl_v (r_len Try.underlying24 rfl) ?_
          refine Wl_guard_t rfl ?_
          refine Wl_v (r_ne rfl rfl) ?_
          refine Wl_guard_t rfl ?_
          refine Wl_v (r_pick_t (v := .bool (decide ((((ord l).length : Nat) : Int) ≠ (((ord l).length : Nat) : Int)))) rfl rfl) ?_
          refine Wl_v (r_pick_f (v := .bool (decide ((((ord l).length : Nat) : Int) ≠ (((ord l).length : Nat) : Int)))) rfl rfl) ?_
          refine Wl_nil ?_
          have q13 : ¬ ((((ord l).length : Nat) : Int) ≠ (((ord l).length : Nat) : Int)) := (by omega)
          rw [decide_eq_false q13]
          refine W_cond_f rfl ?_
          refine W_skip ?_
          refine W_seq ?_
          refine W_seq ?_
          refine W_region ?_
          refine Wl_load (v := .int .i64 1) Try.isAgg3 rfl hb31 rfl ?_
          refine Wl_nil ?_
          refine W_region ?_
          refine Wl_alloc (cs := [.int .i64 0]) Try.zeroValue3 rfl ?_
          intro B48 w48 hB48 hU48 hzz48 hb48
          have hzw48 := hU48.size
          replace hdf36 := hdf36.upd0 hU48
          replace hb34 := hb34.upd0 hU48
          replace hdf18 := hdf18.upd0 hU48
          replace hb16 := hb16.upd0 hU48
          replace hb1 := hb1.upd0 hU48
          replace hb2 := hb2.upd0 hU48
          replace hT5 := hT5.upd0 hU48
          replace hE5 := hE5.upd0 hU48
          replace hL5 := hL5.upd0 hU48
          replace hA8 := hA8.upd0 hU48
          replace hO8 := hO8.upd0 hU48
          replace hb9 := hb9.upd0 hU48
          replace hb10 := hb10.upd0 hU48
          replace hB13 := hB13.upd0 hU48
          replace hb14 := hb14.upd0 hU48
          replace hb31 := hb31.upd0 hU48
          replace HU := HU.trans0 hU48
          refine Wl_store (v := .int .i64 1) (cs' := [.int .i64 1]) Try.sizeOf3 rfl rfl rfl rfl hb48 rfl rfl ?_
          intro w49 hU49 hzz49 hb48n
          replace hb48 := hb48n; clear hb48n
          have hzw49 := hU49.size
          replace hdf36 := hdf36.upd1 hU49 (by omega)
          replace hb34 := hb34.upd1 hU49 (by omega)
          replace hdf18 := hdf18.upd1 hU49 (by omega)
          replace hb16 := hb16.upd1 hU49 (by omega)
          replace hb1 := hb1.upd1 hU49 (by omega)
          replace hb2 := hb2.upd1 hU49 (by omega)
          replace hT5 := hT5.upd1 hU49 (by omega)
          replace hE5 := hE5.upd1 hU49 (by intro h1; have h3 : ((w2.heap.size ≤ B48 ∧ B48 ≠ tb5) ∧ B48 < w5.heap.size) := h1; omega)
          replace hL5 := hL5.upd1 hU49 (by intro h1; have h3 : ((w2.heap.size ≤ B48 ∧ B48 ≠ tb5) ∧ B48 < w5.heap.size) := h1; omega)
          replace hA8 := hA8.upd1 hU49 (by intro h1; have h3 : ((w7.heap.size ≤ B48) ∧ B48 < w8.heap.size) := h1; omega)
          replace hO8 := hO8.upd1 hU49 (by intro h1; have h3 : ((w7.heap.size ≤ B48) ∧ B48 < w8.heap.size) := h1; omega)
          replace hb9 := hb9.upd1 hU49 (by omega)
          replace hb10 := hb10.upd1 hU49 (by omega)
          replace hB13 := hB13.upd1 hU49 (by omega)
          replace hb14 := hb14.upd1 hU49 (by omega)
          replace hb31 := hb31.upd1 hU49 (by omega)
          replace HU := HU.trans1 hU49 (by show (False) ∨ w.heap.size ≤ B48; omega)
          refine Wl_nil ?_
          refine W_region ?_
          refine Wl_load (v := .int .i64 1) Try.isAgg3 rfl hb48 rfl ?_
          refine Wl_v (r_add rfl rfl (show IntKind.i64.wrap (1 + 1) = 2 by decide)) ?_
          refine Wl_store (v := .int .i64 2) (cs' := [.int .i64 2]) Try.sizeOf3 rfl rfl rfl rfl hb48 rfl rfl ?_
          intro w50 hU50 hzz50 hb48n
          replace hb48 := hb48n; clear hb48n
          have hzw50 := hU50.size
          replace hdf36 := hdf36.upd1 hU50 (by omega)
          replace hb34 := hb34.upd1 hU50 (by omega)
          replace hdf18 := hdf18.upd1 hU50 (by omega)
          replace hb16 := hb16.upd1 hU50 (by omega)
          replace hb1 := hb1.upd1 hU50 (by omega)
          replace hb2 := hb2.upd1 hU50 (by omega)
          replace hT5 := hT5.upd1 hU50 (by omega)
          replace hE5 := hE5.upd1 hU50 (by intro h1; have h3 : ((w2.heap.size ≤ B48 ∧ B48 ≠ tb5) ∧ B48 < w5.heap.size) := h1; omega)
          replace hL5 := hL5.upd1 hU50 (by intro h1; have h3 : ((w2.heap.size ≤ B48 ∧ B48 ≠ tb5) ∧ B48 < w5.heap.size) := h1; omega)
          replace hA8 := hA8.upd1 hU50 (by intro h1; have h3 : ((w7.heap.size ≤ B48) ∧ B48 < w8.heap.size) := h1; omega)
          replace hO8 := hO8.upd1 hU50 (by intro h1; have h3 : ((w7.heap.size ≤ B48) ∧ B48 < w8.heap.size) := h1; omega)
          replace hb9 := hb9.upd1 hU50 (by omega)
          replace hb10 := hb10.upd1 hU50 (by omega)
          replace hB13 := hB13.upd1 hU50 (by omega)
          replace hb14 := hb14.upd1 hU50 (by omega)
          replace hb31 := hb31.upd1 hU50 (by omega)
          replace HU := HU.trans1 hU50 (by show (False) ∨ w.heap.size ≤ B48; omega)
          refine Wl_nil ?_
          refine W_seq ?_
          refine W_seq ?_
          refine W_region ?_
          refine Wl_load (v := .int .i64 2) Try.isAgg3 rfl hb48 rfl ?_
          refine Wl_v (v := .bool false) (r_lt (a := 2) (b := 2) rfl rfl) ?_
          refine Wl_nil ?_
          refine W_cond_f rfl ?_
          refine W_exit ?_
          refine W_seq ?_
          refine W_region ?_
          refine Wl_call (r_call0 rfl Try.call11 ) (works15 _ ) ?_
          rintro v w51 ⟨rfl, hU51⟩
          have hzw51 := hU51.size
          replace hdf36 := hdf36.upd0 hU51
          replace hb34 := hb34.upd0 hU51
          replace hdf18 := hdf18.upd0 hU51
          replace hb16 := hb16.upd0 hU51
          replace hb1 := hb1.upd0 hU51
          replace hb2 := hb2.upd0 hU51
          replace hT5 := hT5.upd0 hU51
          replace hE5 := hE5.upd0 hU51
          replace hL5 := hL5.upd0 hU51
          replace hA8 := hA8.upd0 hU51
          replace hO8 := hO8.upd0 hU51
          replace hb9 := hb9.upd0 hU51
          replace hb10 := hb10.upd0 hU51
          replace hB13 := hB13.upd0 hU51
          replace hb14 := hb14.upd0 hU51
          replace hb31 := hb31.upd0 hU51
          replace HU := HU.trans0 hU51
          replace hb48 := hb48.upd0 hU51
          refine Wl_store (v := .bool true) (cs' := [.bool true]) Try.sizeOf4 rfl rfl rfl rfl hb2 rfl rfl ?_
          intro w52 hU52 hzz52 hb2n
          replace hb2 := hb2n; clear hb2n
          have hzw52 := hU52.size
          replace hdf36 := hdf36.upd1 hU52 (by omega)
          replace hb34 := hb34.upd1 hU52 (by omega)
          replace hdf18 := hdf18.upd1 hU52 (by omega)
          replace hb16 := hb16.upd1 hU52 (by omega)
          replace hb1 := hb1.upd1 hU52 (by omega)
          replace hT5 := hT5.upd1 hU52 (by omega)
          replace hE5 := hE5.upd1 hU52 (by intro h1; have h3 : ((w2.heap.size ≤ B2 ∧ B2 ≠ tb5) ∧ B2 < w5.heap.size) := h1; omega)
          replace hL5 := hL5.upd1 hU52 (by intro h1; have h3 : ((w2.heap.size ≤ B2 ∧ B2 ≠ tb5) ∧ B2 < w5.heap.size) := h1; omega)
          replace hA8 := hA8.upd1 hU52 (by intro h1; have h3 : ((w7.heap.size ≤ B2) ∧ B2 < w8.heap.size) := h1; omega)
          replace hO8 := hO8.upd1 hU52 (by intro h1; have h3 : ((w7.heap.size ≤ B2) ∧ B2 < w8.heap.size) := h1; omega)
          replace hb9 := hb9.upd1 hU52 (by omega)
          replace hb10 := hb10.upd1 hU52 (by omega)
          replace hB13 := hB13.upd1 hU52 (by omega)
          replace hb14 := hb14.upd1 hU52 (by omega)
          replace hb31 := hb31.upd1 hU52 (by omega)
          replace HU := HU.trans1 hU52 (by show (False) ∨ w.heap.size ≤ B2; omega)
          replace hb48 := hb48.upd1 hU52 (by omega)
          refine Wl_nil ?_
          refine W_ret ?_
          refine ret_ds rfl ?_
          refine lv_mark (by simp) hdf36 ?_
          intro w53 hU53 hzz53
          have hzw53 := hU53.size
          replace hb34 := hb34.upd1 hU53 (by omega)
          replace hdf18 := hdf18.upd1 hU53 (by omega)
          replace hb16 := hb16.upd1 hU53 (by omega)
          replace hb1 := hb1.upd1 hU53 (by omega)
          replace hb2 := hb2.upd1 hU53 (by omega)
          replace hT5 := hT5.upd1 hU53 (by omega)
          replace hE5 := hE5.upd1 hU53 (by intro h1; have h3 : ((w2.heap.size ≤ D36 ∧ D36 ≠ tb5) ∧ D36 < w5.heap.size) := h1; omega)
          replace hL5 := hL5.upd1 hU53 (by intro h1; have h3 : ((w2.heap.size ≤ D36 ∧ D36 ≠ tb5) ∧ D36 < w5.heap.size) := h1; omega)
          replace hA8 := hA8.upd1 hU53 (by intro h1; have h3 : ((w7.heap.size ≤ D36) ∧ D36 < w8.heap.size) := h1; omega)
          replace hO8 := hO8.upd1 hU53 (by intro h1; have h3 : ((w7.heap.size ≤ D36) ∧ D36 < w8.heap.size) := h1; omega)
          replace hb9 := hb9.upd1 hU53 (by omega)
          replace hb10 := hb10.upd1 hU53 (by omega)
          replace hB13 := hB13.upd1 hU53 (by omega)
          replace hb14 := hb14.upd1 hU53 (by omega)
          replace hb31 := hb31.upd1 hU53 (by omega)
          replace HU := HU.trans1 hU53 (by show (False) ∨ w.heap.size ≤ D36; omega)
          replace hb48 := hb48.upd1 hU53 (by omega)
          refine lv_mark (by simp) hdf18 ?_
          intro w54 hU54 hzz54
          have hzw54 := hU54.size
          replace hb34 := hb34.upd1 hU54 (by omega)
          replace hb16 := hb16.upd1 hU54 (by omega)
          replace hb1 := hb1.upd1 hU54 (by omega)
          replace hb2 := hb2.upd1 hU54 (by omega)
          replace hT5 := hT5.upd1 hU54 (by omega)
          replace hE5 := hE5.upd1 hU54 (by intro h1; have h3 : ((w2.heap.size ≤ D18 ∧ D18 ≠ tb5) ∧ D18 < w5.heap.size) := h1; omega)
          replace hL5 := hL5.upd1 hU54 (by intro h1; have h3 : ((w2.heap.size ≤ D18 ∧ D18 ≠ tb5) ∧ D18 < w5.heap.size) := h1; omega)
          replace hA8 := hA8.upd1 hU54 (by intro h1; have h3 : ((w7.heap.size ≤ D18) ∧ D18 < w8.heap.size) := h1; omega)
          replace hO8 := hO8.upd1 hU54 (by intro h1; have h3 : ((w7.heap.size ≤ D18) ∧ D18 < w8.heap.size) := h1; omega)
          replace hb9 := hb9.upd1 hU54 (by omega)
          replace hb10 := hb10.upd1 hU54 (by omega)
          replace hB13 := hB13.upd1 hU54 (by omega)
          replace hb14 := hb14.upd1 hU54 (by omega)
          replace hb31 := hb31.upd1 hU54 (by omega)
          replace HU := HU.trans1 hU54 (by show (False) ∨ w.heap.size ≤ D18; omega)
          replace hb48 := hb48.upd1 hU54 (by omega)
          refine lv_nil (v := .bool true) (rc1 Try.results7 rfl (cellIs Try.isAgg4 hb2)) ?_
          exact ⟨_, rfl, rfl, HU⟩
        · exact ((hJx36 _).1 hh).elim
      · obtain ⟨ij, hrc18, hdf18, hb16, hb1, hb2, hT5, hE5, hL5, hA8, hO8, hb9, hb10, hB13, hb14, HU, hq0, hq1, hq2⟩ := (hJx18 _).1 hh
        have hrl18 := hrc18.lt
        refine ⟨_, hrc18, (by simp), ?_⟩
        intro w55 hU55 hzz55
        have hzw55 := hU55.size
        replace hdf18 := hdf18.upd1 hU55 (by omega)
        replace hb16 := hb16.upd1 hU55 (by omega)
        replace hb1 := hb1.upd1 hU55 (by omega)
        replace hb2 := hb2.upd1 hU55 (by omega)
        replace hT5 := hT5.upd1 hU55 (by omega)
        replace hE5 := hE5.upd1 hU55 (by intro h1; have h3 : ((w2.heap.size ≤ (D18 + 1) ∧ (D18 + 1) ≠ tb5) ∧ (D18 + 1) < w5.heap.size) := h1; omega)
        replace hL5 := hL5.upd1 hU55 (by intro h1; have h3 : ((w2.heap.size ≤ (D18 + 1) ∧ (D18 + 1) ≠ tb5) ∧ (D18 + 1) < w5.heap.size) := h1; omega)
        replace hA8 := hA8.upd1 hU55 (by intro h1; have h3 : ((w7.heap.size ≤ (D18 + 1)) ∧ (D18 + 1) < w8.heap.size) := h1; omega)
        replace hO8 := hO8.upd1 hU55 (by intro h1; have h3 : ((w7.heap.size ≤ (D18 + 1)) ∧ (D18 + 1) < w8.heap.size) := h1; omega)
        replace hb9 := hb9.upd1 hU55 (by omega)
        replace hb10 := hb10.upd1 hU55 (by omega)
        replace hB13 := hB13.upd1 hU55 (by omega)
        replace hb14 := hb14.upd1 hU55 (by omega)
        replace HU := HU.trans1 hU55 (by show (False) ∨ w.heap.size ≤ (D18 + 1); omega)
        refine W_exit ?_
        refine W_seq ?_
        refine W_region ?_
        refine Wl_load (v := .int .i64 0) Try.isAgg3 rfl hb14 rfl ?_
        refine Wl_v (v := .bool true) (r_eq (a := 0) (b := 0) rfl rfl) ?_
        refine Wl_v (r_mv (v := .bool true) rfl) ?_
        refine Wl_guard_t rfl ?_
        refine Wl_load (v := .int .i64 (((ij : Nat) : Int) + 1)) Try.isAgg3 rfl hb16 rfl ?_
        refine Wl_guard_t rfl ?_
        refine Wl_load (v := .slice b8 ((ord l).length) d8) Try.isAgg24 rfl hb10 rfl ?_
        refine Wl_guard_t rfl ?_
        refine Wl_v (r_len Try.underlying24 rfl) ?_
        refine Wl_guard_t rfl ?_
        refine Wl_load (v := .int .i64 many) Try.isAgg3 rfl hb1 rfl ?_
        refine Wl_guard_t rfl ?_
        refine Wl_v (r_max rfl rfl) ?_
        refine Wl_guard_t rfl ?_
        refine Wl_v (r_min rfl rfl) ?_
        refine Wl_guard_t rfl ?_
        refine Wl_v (r_ne rfl rfl) ?_
        refine Wl_v (r_pick_t (v := .bool (decide ((((ij : Nat) : Int) + 1) ≠ (min (((ord l).length : Nat) : Int) (max 1 many))))) rfl rfl) ?_
        refine Wl_v (r_mv (v := .bool (decide ((((ij : Nat) : Int) + 1) ≠ (min (((ord l).length : Nat) : Int) (max 1 many))))) rfl) ?_
        have q14 : ¬ ((((ij : Nat) : Int) + 1) ≠ (min (((ord l).length : Nat) : Int) (max 1 many))) := (by omega)
        rw [decide_eq_false q14]
        refine Wl_guard_t rfl ?_
        refine Wl_load (v := .int .i64 0) Try.isAgg3 rfl hb14 rfl ?_
        refine Wl_guard_t rfl ?_
        refine Wl_v (v := .bool false) (r_eq (a := 0) (b := 1) rfl rfl) ?_
        refine Wl_guard_t rfl ?_
        refine Wl_v (r_mv (v := .bool false) rfl) ?_
        refine Wl_guard_f rfl ?_
        refine Wl_guard_f rfl ?_
        refine Wl_guard_f rfl ?_
        refine Wl_guard_f rfl ?_
        refine Wl_guard_t rfl ?_
        refine Wl_v (r_pick_f (v := .bool false) rfl rfl) ?_
        refine Wl_v (r_pick_f (v := .bool false) rfl rfl) ?_
        refine Wl_nil ?_
        refine W_cond_f rfl ?_
        refine W_skip ?_
        refine W_seq ?_
        refine W_seq ?_
        refine W_region ?_
        refine Wl_load (v := .int .i64 0) Try.isAgg3 rfl hb14 rfl ?_
        refine Wl_nil ?_
        refine W_region ?_
        refine Wl_alloc (cs := [.int .i64 0]) Try.zeroValue3 rfl ?_
        intro B56 w56 hB56 hU56 hzz56 hb56
        have hzw56 := hU56.size
        replace hdf18 := hdf18.upd0 hU56
        replace hb16 := hb16.upd0 hU56
        replace hb1 := hb1.upd0 hU56
        replace hb2 := hb2.upd0 hU56
        replace hT5 := hT5.upd0 hU56
        replace hE5 := hE5.upd0 hU56
        replace hL5 := hL5.upd0 hU56
        replace hA8 := hA8.upd0 hU56
        replace hO8 := hO8.upd0 hU56
        replace hb9 := hb9.upd0 hU56
        replace hb10 := hb10.upd0 hU56
        replace hB13 := hB13.upd0 hU56
        replace hb14 := hb14.upd0 hU56
        replace HU := HU.trans0 hU56
        refine Wl_store (v := .int .i64 0) (cs' := [.int .i64 0]) Try.sizeOf3 rfl rfl rfl rfl hb56 rfl rfl ?_
        intro w57 hU57 hzz57 hb56n
        replace hb56 := hb56n; clear hb56n
        have hzw57 := hU57.size
        replace hdf18 := hdf18.upd1 hU57 (by omega)
        replace hb16 := hb16.upd1 hU57 (by omega)
        replace hb1 := hb1.upd1 hU57 (by omega)
        replace hb2 := hb2.upd1 hU57 (by omega)
        replace hT5 := hT5.upd1 hU57 (by omega)
        replace hE5 := hE5.upd1 hU57 (by intro h1; have h3 : ((w2.heap.size ≤ B56 ∧ B56 ≠ tb5) ∧ B56 < w5.heap.size) := h1; omega)
        replace hL5 := hL5.upd1 hU57 (by intro h1; have h3 : ((w2.heap.size ≤ B56 ∧ B56 ≠ tb5) ∧ B56 < w5.heap.size) := h1; omega)
        replace hA8 := hA8.upd1 hU57 (by intro h1; have h3 : ((w7.heap.size ≤ B56) ∧ B56 < w8.heap.size) := h1; omega)
        replace hO8 := hO8.upd1 hU57 (by intro h1; have h3 : ((w7.heap.size ≤ B56) ∧ B56 < w8.heap.size) := h1; omega)
        replace hb9 := hb9.upd1 hU57 (by omega)
        replace hb10 := hb10.upd1 hU57 (by omega)
        replace hB13 := hB13.upd1 hU57 (by omega)
        replace hb14 := hb14.upd1 hU57 (by omega)
        replace HU := HU.trans1 hU57 (by show (False) ∨ w.heap.size ≤ B56; omega)
        refine Wl_nil ?_
        refine W_region ?_
        refine Wl_load (v := .int .i64 0) Try.isAgg3 rfl hb56 rfl ?_
        refine Wl_v (r_add rfl rfl (show IntKind.i64.wrap (0 + 1) = 1 by decide)) ?_
        refine Wl_store (v := .int .i64 1) (cs' := [.int .i64 1]) Try.sizeOf3 rfl rfl rfl rfl hb56 rfl rfl ?_
        intro w58 hU58 hzz58 hb56n
        replace hb56 := hb56n; clear hb56n
        have hzw58 := hU58.size
        replace hdf18 := hdf18.upd1 hU58 (by omega)
        replace hb16 := hb16.upd1 hU58 (by omega)
        replace hb1 := hb1.upd1 hU58 (by omega)
        replace hb2 := hb2.upd1 hU58 (by omega)
        replace hT5 := hT5.upd1 hU58 (by omega)
        replace hE5 := hE5.upd1 hU58 (by intro h1; have h3 : ((w2.heap.size ≤ B56 ∧ B56 ≠ tb5) ∧ B56 < w5.heap.size) := h1; omega)
        replace hL5 := hL5.upd1 hU58 (by intro h1; have h3 : ((w2.heap.size ≤ B56 ∧ B56 ≠ tb5) ∧ B56 < w5.heap.size) := h1; omega)
        replace hA8 := hA8.upd1 hU58 (by intro h1; have h3 : ((w7.heap.size ≤ B56) ∧ B56 < w8.heap.size) := h1; omega)
        replace hO8 := hO8.upd1 hU58 (by intro h1; have h3 : ((w7.heap.size ≤ B56) ∧ B56 < w8.heap.size) := h1; omega)
        replace hb9 := hb9.upd1 hU58 (by omega)
        replace hb10 := hb10.upd1 hU58 (by omega)
        replace hB13 := hB13.upd1 hU58 (by omega)
        replace hb14 := hb14.upd1 hU58 (by omega)
        replace HU := HU.trans1 hU58 (by show (False) ∨ w.heap.size ≤ B56; omega)
        refine Wl_nil ?_
        refine W_seq ?_
        refine W_seq ?_
        refine W_region ?_
        refine Wl_load (v := .int .i64 1) Try.isAgg3 rfl hb56 rfl ?_
        refine Wl_v (v := .bool true) (r_lt (a := 1) (b := 2) rfl rfl) ?_
        refine Wl_nil ?_
        refine W_cond_t rfl ?_
        refine W_skip ?_
        refine W_seq ?_
        refine W_block ?_
        refine W_seq ?_
        refine W_region ?_
        refine Wl_alloc (cs := [.int .i64 0]) Try.zeroValue3 rfl ?_
        intro B59 w59 hB59 hU59 hzz59 hb59
        have hzw59 := hU59.size
        replace hdf18 := hdf18.upd0 hU59
        replace hb16 := hb16.upd0 hU59
        replace hb1 := hb1.upd0 hU59
        replace hb2 := hb2.upd0 hU59
        replace hT5 := hT5.upd0 hU59
        replace hE5 := hE5.upd0 hU59
        replace hL5 := hL5.upd0 hU59
        replace hA8 := hA8.upd0 hU59
        replace hO8 := hO8.upd0 hU59
        replace hb9 := hb9.upd0 hU59
        replace hb10 := hb10.upd0 hU59
        replace hB13 := hB13.upd0 hU59
        replace hb14 := hb14.upd0 hU59
        replace HU := HU.trans0 hU59
        replace hb56 := hb56.upd0 hU59
        refine Wl_store (v := .int .i64 0) (cs' := [.int .i64 0]) Try.sizeOf3 rfl rfl rfl rfl hb59 rfl rfl ?_
        intro w60 hU60 hzz60 hb59n
        replace hb59 := hb59n; clear hb59n
        have hzw60 := hU60.size
        replace hdf18 := hdf18.upd1 hU60 (by omega)
        replace hb16 := hb16.upd1 hU60 (by omega)
        replace hb1 := hb1.upd1 hU60 (by omega)
        replace hb2 := hb2.upd1 hU60 (by omega)
        replace hT5 := hT5.upd1 hU60 (by omega)
        replace hE5 := hE5.upd1 hU60 (by intro h1; have h3 : ((w2.heap.size ≤ B59 ∧ B59 ≠ tb5) ∧ B59 < w5.heap.size) := h1; omega)
        replace hL5 := hL5.upd1 hU60 (by intro h1; have h3 : ((w2.heap.size ≤ B59 ∧ B59 ≠ tb5) ∧ B59 < w5.heap.size) := h1; omega)
        replace hA8 := hA8.upd1 hU60 (by intro h1; have h3 : ((w7.heap.size ≤ B59) ∧ B59 < w8.heap.size) := h1; omega)
        replace hO8 := hO8.upd1 hU60 (by intro h1; have h3 : ((w7.heap.size ≤ B59) ∧ B59 < w8.heap.size) := h1; omega)
        replace hb9 := hb9.upd1 hU60 (by omega)
        replace hb10 := hb10.upd1 hU60 (by omega)
        replace hB13 := hB13.upd1 hU60 (by omega)
        replace hb14 := hb14.upd1 hU60 (by omega)
        replace HU := HU.trans1 hU60 (by show (False) ∨ w.heap.size ≤ B59; omega)
        replace hb56 := hb56.upd1 hU60 (by omega)
        refine Wl_nil ?_
        refine W_seq ?_
        refine W_seq ?_
        refine W_region ?_
        refine Wl_v (r_mv (v := .func (.func 40) #[] #[.pointer (some ⟨B13, 0, none⟩)]) rfl) ?_
        refine Wl_nil ?_
        refine W_block ?_
        refine W_range (gf := 40) (ar := fun y => #[y, .pointer (some ⟨B13, 0, none⟩)]) rfl Try.call40 (fun y => by simp) ?_
        intro D61 fn61 w61 hD61 hU61 hzz61 hdf61 hrc610
        have hzw61 := hU61.size
        replace hdf18 := hdf18.upd0 hU61
        replace hb16 := hb16.upd0 hU61
        replace hb1 := hb1.upd0 hU61
        replace hb2 := hb2.upd0 hU61
        replace hT5 := hT5.upd0 hU61
        replace hE5 := hE5.upd0 hU61
        replace hL5 := hL5.upd0 hU61
        replace hA8 := hA8.upd0 hU61
        replace hO8 := hO8.upd0 hU61
        replace hb9 := hb9.upd0 hU61
        replace hb10 := hb10.upd0 hU61
        replace hB13 := hB13.upd0 hU61
        replace hb14 := hb14.upd0 hU61
        replace HU := HU.trans0 hU61
        replace hb56 := hb56.upd0 hU61
        replace hb59 := hb59.upd0 hU61
        obtain ⟨r61, hr61, hrc61⟩ : ∃ r, r = _ ∧ Rec w61 (D61 + 1) r := ⟨_, rfl, hrc610⟩
        clear hrc610
        obtain ⟨J61, hJ61⟩ : ∃ J : Nat → World → Prop, ∀ i w', J i w' ↔ (Rec w' (D61 + 1) r61 ∧ Dfr w' D61 ∧ Blk w' B59 [.int .i64 ((i : Nat) : Int)] ∧ Dfr w' D18 ∧ Blk w' B16 [.int .i64 (((ij : Nat) : Int) + 1)] ∧ Blk w' B1 [.int .i64 many] ∧ Blk w' B2 [.bool false] ∧ Blk w' tb5 [.slice ea5 (2 ^ bt l) ec5, .int .i64 ((bt l : Nat) : Int), .slice la5 n lc5] ∧ Own w' (fun g => ((w2.heap.size ≤ g ∧ g ≠ tb5) ∧ g < w5.heap.size)) 38 2 (.slice ea5 (2 ^ bt l) ec5) (2 ^ bt l) (rows encE (tbl l)) ∧ Own w' (fun g => ((w2.heap.size ≤ g ∧ g ≠ tb5) ∧ g < w5.heap.size)) 3 1 (.slice la5 n lc5) n (ints .i64 l) ∧ Own w' (fun g => ((w7.heap.size ≤ g) ∧ g < w8.heap.size)) 3 1 (.slice a8 ((ord l).length) c8) ((ord l).length) (ints .i64 (rps l (ord l).length)) ∧ Own w' (fun g => ((w7.heap.size ≤ g) ∧ g < w8.heap.size)) 38 2 (.slice b8 ((ord l).length) d8) ((ord l).length) (rows encE (os l)) ∧ Blk w' B9 [.slice a8 ((ord l).length) c8] ∧ Blk w' B10 [.slice b8 ((ord l).length) d8] ∧ Blk w' B13 [.pointer (some ⟨tb5, 0, none⟩)] ∧ Blk w' B14 [.int .i64 0] ∧ Blk w' B56 [.int .i64 1] ∧ Upd No w w') := ⟨_, fun _ _ => Iff.rfl⟩
        obtain ⟨Jx61, hJx61⟩ : ∃ Jx : World → Prop, ∀ w', Jx w' ↔ (False) := ⟨_, fun _ => Iff.rfl⟩
        refine (runs1_spec (ly := (D61 + 1)) (l := l) (J := J61) (Jx := Jx61) (Sb := (fun g => g = B59 ∨ g = D61 + 1)) (R := fun g => ((w2.heap.size ≤ g ∧ g ≠ tb5) ∧ g < w5.heap.size)) w61 hB13 hT5 hE5.sl q4 (by intro g h1 h2; have h3 : ((w2.heap.size ≤ g ∧ g ≠ tb5) ∧ g < w5.heap.size) := h1; have h4 : g = B59 ∨ g = D61 + 1 := h2; omega) (by show ¬ (_ ∨ _); omega) (by show ¬ (_ ∨ _); omega) (by intro g h1 h2; have h3 : g = B59 ∨ g = D61 + 1 := h2; omega) (by intro g h1; have h3 : ((w2.heap.size ≤ g ∧ g ≠ tb5) ∧ g < w5.heap.size) := h1; omega) ?_ ?_ ?_).mono ?_
        · exact (hJ61 _ _).2 ⟨hrc61, hdf61, hb59, hdf18, hb16, hb1, hb2, hT5, hE5, hL5, hA8, hO8, hb9, hb10, hB13, hb14, hb56, HU⟩
        · intro i wa wb hh hUs
          obtain ⟨hrc61, hdf61, hb59, hdf18, hb16, hb1, hb2, hT5, hE5, hL5, hA8, hO8, hb9, hb10, hB13, hb14, hb56, HU⟩ := (hJ61 _ _).1 hh
          replace hrc61 := hrc61.upd0 hUs
          replace hdf61 := hdf61.upd0 hUs
          replace hb59 := hb59.upd0 hUs
          replace hdf18 := hdf18.upd0 hUs
          replace hb16 := hb16.upd0 hUs
          replace hb1 := hb1.upd0 hUs
          replace hb2 := hb2.upd0 hUs
          replace hT5 := hT5.upd0 hUs
          replace hE5 := hE5.upd0 hUs
          replace hL5 := hL5.upd0 hUs
          replace hA8 := hA8.upd0 hUs
          replace hO8 := hO8.upd0 hUs
          replace hb9 := hb9.upd0 hUs
          replace hb10 := hb10.upd0 hUs
          replace hB13 := hB13.upd0 hUs
          replace hb14 := hb14.upd0 hUs
          replace hb56 := hb56.upd0 hUs
          replace HU := HU.trans0 hUs
          exact (hJ61 _ _).2 ⟨hrc61, hdf61, hb59, hdf18, hb16, hb1, hb2, hT5, hE5, hL5, hA8, hO8, hb9, hb10, hB13, hb14, hb56, HU⟩
        · intro i62 w62 hi62 hh
          obtain ⟨hrc61, hdf61, hb59, hdf18, hb16, hb1, hb2, hT5, hE5, hL5, hA8, hO8, hb9, hb10, hB13, hb14, hb56, HU⟩ := (hJ61 _ _).1 hh
          have hrl61 := hrc61.lt
          have hrg := rps_get (l := l) (k := (ord l).length) (i := i62) (by omega)
          have HB61 : Upd (fun g => g = B59 ∨ g = D61 + 1) w62 w62 := Upd.refl _ _
          refine yieldC_of_W (R := fun b c w' => (b = true ∧ Upd (fun g => g = B59 ∨ g = D61 + 1) w62 w' ∧ J61 (i62 + 1) w') ∨ (b = false ∧ Jx61 w')) hrc61 (by rw [hr61]; rfl) (by rw [hr61]; exact zip2 _ _ _ _ _ _) ?_ ?_
          · rw [hr61]
            refine W_seq ?_
            refine W_region ?_
            refine Wl_v (r_as (v := .int .i64 ((rp l i62 : Nat) : Int)) rfl) ?_
            refine Wl_nil ?_
            refine W_region ?_
            refine Wl_alloc (cs := [.int .i64 0, .int .i64 0]) Try.zeroValue38 rfl ?_
            intro B63 w63 hB63 hU63 hzz63 hb63
            have hzw63 := hU63.size
            replace hrc61 := hrc61.upd0 hU63
            replace hdf61 := hdf61.upd0 hU63
            replace hb59 := hb59.upd0 hU63
            replace hdf18 := hdf18.upd0 hU63
            replace hb16 := hb16.upd0 hU63
            replace hb1 := hb1.upd0 hU63
            replace hb2 := hb2.upd0 hU63
            replace hT5 := hT5.upd0 hU63
            replace hE5 := hE5.upd0 hU63
            replace hL5 := hL5.upd0 hU63
            replace hA8 := hA8.upd0 hU63
            replace hO8 := hO8.upd0 hU63
            replace hb9 := hb9.upd0 hU63
            replace hb10 := hb10.upd0 hU63
            replace hB13 := hB13.upd0 hU63
            replace hb14 := hb14.upd0 hU63
            replace hb56 := hb56.upd0 hU63
            replace HU := HU.trans0 hU63
            replace HB61 := HB61.trans0 hU63
            refine Wl_storea (off := 0) (vs := [.int .i64 (((os l).getD i62 (0, 0)).1), .int .i64 (((os l).getD i62 (0, 0)).2)]) (cs' := [.int .i64 (((os l).getD i62 (0, 0)).1), .int .i64 (((os l).getD i62 (0, 0)).2)]) Try.sizeOf38 rfl rfl rfl (by simp only [List.mem_cons, List.not_mem_nil, or_false, forall_eq_or_imp, forall_eq]; exact ⟨rfl, rfl⟩) hb63 (by simp) rfl ?_
            intro w64 hU64 hzz64 hb63n
            replace hb63 := hb63n; clear hb63n
            have hzw64 := hU64.size
            replace hrc61 := hrc61.upd1 hU64 (by omega)
            replace hdf61 := hdf61.upd1 hU64 (by omega)
            replace hb59 := hb59.upd1 hU64 (by omega)
            replace hdf18 := hdf18.upd1 hU64 (by omega)
            replace hb16 := hb16.upd1 hU64 (by omega)
            replace hb1 := hb1.upd1 hU64 (by omega)
            replace hb2 := hb2.upd1 hU64 (by omega)
            replace hT5 := hT5.upd1 hU64 (by omega)
            replace hE5 := hE5.upd1 hU64 (by intro h1; have h3 : ((w2.heap.size ≤ B63 ∧ B63 ≠ tb5) ∧ B63 < w5.heap.size) := h1; omega)
            replace hL5 := hL5.upd1 hU64 (by intro h1; have h3 : ((w2.heap.size ≤ B63 ∧ B63 ≠ tb5) ∧ B63 < w5.heap.size) := h1; omega)
            replace hA8 := hA8.upd1 hU64 (by intro h1; have h3 : ((w7.heap.size ≤ B63) ∧ B63 < w8.heap.size) := h1; omega)
            replace hO8 := hO8.upd1 hU64 (by intro h1; have h3 : ((w7.heap.size ≤ B63) ∧ B63 < w8.heap.size) := h1; omega)
            replace hb9 := hb9.upd1 hU64 (by omega)
            replace hb10 := hb10.upd1 hU64 (by omega)
            replace hB13 := hB13.upd1 hU64 (by omega)
            replace hb14 := hb14.upd1 hU64 (by omega)
            replace hb56 := hb56.upd1 hU64 (by omega)
            replace HU := HU.trans1 hU64 (by show (False) ∨ w.heap.size ≤ B63; omega)
            replace HB61 := HB61.trans1 hU64 (by show (B63 = B59 ∨ B63 = D61 + 1) ∨ w62.heap.size ≤ B63; omega)
            refine Wl_nil ?_
            refine ⟨rfl, _, hrc61, (by rw [hr61]), ?_⟩
            intro w65 hU65 hzz65 hrc61b
            have hzw65 := hU65.size
            replace hdf61 := hdf61.upd1 hU65 (by omega)
            replace hb59 := hb59.upd1 hU65 (by omega)
            replace hdf18 := hdf18.upd1 hU65 (by omega)
            replace hb16 := hb16.upd1 hU65 (by omega)
            replace hb1 := hb1.upd1 hU65 (by omega)
            replace hb2 := hb2.upd1 hU65 (by omega)
            replace hT5 := hT5.upd1 hU65 (by omega)
            replace hE5 := hE5.upd1 hU65 (by intro h1; have h3 : ((w2.heap.size ≤ (D61 + 1) ∧ (D61 + 1) ≠ tb5) ∧ (D61 + 1) < w5.heap.size) := h1; omega)
            replace hL5 := hL5.upd1 hU65 (by intro h1; have h3 : ((w2.heap.size ≤ (D61 + 1) ∧ (D61 + 1) ≠ tb5) ∧ (D61 + 1) < w5.heap.size) := h1; omega)
            replace hA8 := hA8.upd1 hU65 (by intro h1; have h3 : ((w7.heap.size ≤ (D61 + 1)) ∧ (D61 + 1) < w8.heap.size) := h1; omega)
            replace hO8 := hO8.upd1 hU65 (by intro h1; have h3 : ((w7.heap.size ≤ (D61 + 1)) ∧ (D61 + 1) < w8.heap.size) := h1; omega)
            replace hb9 := hb9.upd1 hU65 (by omega)
            replace hb10 := hb10.upd1 hU65 (by omega)
            replace hB13 := hB13.upd1 hU65 (by omega)
            replace hb14 := hb14.upd1 hU65 (by omega)
            replace hb56 := hb56.upd1 hU65 (by omega)
            replace HU := HU.trans1 hU65 (by show (False) ∨ w.heap.size ≤ (D61 + 1); omega)
            replace HB61 := HB61.trans1 hU65 (by show ((D61 + 1) = B59 ∨ (D61 + 1) = D61 + 1) ∨ w62.heap.size ≤ (D61 + 1); omega)
            replace hb63 := hb63.upd1 hU65 (by omega)
            clear hrc61
            have hrc61 := hrc61b
            clear hrc61b
            refine W_block ?_
            refine W_seq ?_
            refine W_seq ?_
            refine W_drawt rfl (l0 := #[false, false, false, false, false, false, false, false, false, false, false, false, false, false, false, false, false, false, false, false]) (by kernel_rfl) ?_
            refine Wt_take (i := 0) (listed' := #[true, false, false, false, false, false, false, false, false, false, false, false, false, false, false, false, false, false, false, false]) (by kernel_rfl) rfl (by kernel_rfl) (by kernel_rfl) (by kernel_rfl) (by kernel_rfl) (YI_v (v := .int .i64 ((i62 : Nat) : Int)) rfl (fun w' hw' => r_load Try.isAgg3 rfl (by rw [(hb59.upd0 hw').cell]; rfl))) ?_
            refine Wt_take (i := 1) (listed' := #[true, true, false, false, false, false, false, false, false, false, false, false, false, false, false, false, false, false, false, false]) (by kernel_rfl) rfl (by kernel_rfl) (by kernel_rfl) (by kernel_rfl) (by kernel_rfl) (YI_v (v := .slice b8 ((ord l).length) d8) rfl (fun w' hw' => r_load Try.isAgg24 rfl (by rw [(hb10.upd0 hw').cell]; rfl))) ?_
            refine Wt_take (i := 2) (listed' := #[true, true, true, false, false, false, false, false, false, false, false, false, false, false, false, false, false, false, false, false]) (by kernel_rfl) rfl (by kernel_rfl) (by kernel_rfl) (by kernel_rfl) (by kernel_rfl) (YI_v (v := .int .i64 (((ord l).length : Nat) : Int)) rfl (fun w' hw' => r_len Try.underlying24 rfl)) ?_
            refine Wt_take (i := 3) (listed' := #[true, true, true, true, false, false, false, false, false, false, false, false, false, false, false, false, false, false, false, false]) (by kernel_rfl) rfl (by kernel_rfl) (by kernel_rfl) (by kernel_rfl) (by kernel_rfl) (YI_v (v := .bool (decide ((((ord l).length : Nat) : Int) ≤ ((i62 : Nat) : Int)))) rfl (fun w' hw' => r_ge rfl rfl)) ?_
            refine Wt_take (i := 4) (listed' := #[true, true, true, true, true, false, false, false, false, false, false, false, false, false, false, false, false, false, false, false]) (by kernel_rfl) rfl (by kernel_rfl) (by kernel_rfl) (by kernel_rfl) (by kernel_rfl) (YI_v (v := .bool (decide ((((ord l).length : Nat) : Int) ≤ ((i62 : Nat) : Int)))) rfl (fun w' hw' => r_mv (v := .bool (decide ((((ord l).length : Nat) : Int) ≤ ((i62 : Nat) : Int)))) rfl)) ?_
            have q15 : ¬ ((((ord l).length : Nat) : Int) ≤ ((i62 : Nat) : Int)) := (by omega)
            rw [decide_eq_false q15]
            refine Wt_take (i := 5) (listed' := #[true, true, true, true, true, true, false, false, false, false, false, false, false, false, false, false, false, false, false, false]) (by kernel_rfl) rfl (by kernel_rfl) (by kernel_rfl) (by kernel_rfl) (by kernel_rfl) (YI_v (v := .int .i64 ((rp l i62 : Nat) : Int)) rfl (fun w' hw' => r_mv (v := .int .i64 ((rp l i62 : Nat) : Int)) rfl)) ?_
            refine Wt_take (i := 6) (listed' := #[true, true, true, true, true, true, true, false, false, false, false, false, false, false, false, false, false, false, false, false]) (by kernel_rfl) rfl (by kernel_rfl) (by kernel_rfl) (by kernel_rfl) (by kernel_rfl) (YI_v (v := .slice a8 ((ord l).length) c8) rfl (fun w' hw' => r_load Try.isAgg22 rfl (by rw [(hb9.upd0 hw').cell]; rfl))) ?_
            refine Wt_take (i := 7) (listed' := #[true, true, true, true, true, true, true, true, false, false, false, false, false, false, false, false, false, false, false, false]) (by kernel_rfl) rfl (by kernel_rfl) (by kernel_rfl) (by kernel_rfl) (by kernel_rfl) (YI_v (v := .int .i64 ((i62 : Nat) : Int)) rfl (fun w' hw' => r_load Try.isAgg3 rfl (by rw [(hb59.upd0 hw').cell]; rfl))) ?_
            obtain ⟨ib66, io66, ha66, hib66, hc66⟩ := (hA8.sl).iat (i := i62) (by omega)
            replace hib66 : ((w7.heap.size ≤ ib66) ∧ ib66 < w8.heap.size) := hib66
            refine Wt_take (i := 8) (listed' := #[true, true, true, true, true, true, true, true, true, false, false, false, false, false, false, false, false, false, false, false]) (by kernel_rfl) rfl (by kernel_rfl) (by kernel_rfl) (by kernel_rfl) (by kernel_rfl) (YI_v (v := .pointer (some ⟨ib66, io66 + i62, none⟩)) rfl (fun w' hw' => r_idx (b := ib66) (off := io66) (m := (ord l).length) (c := c8) (o' := io66 + i62) Try.underlying22 Try.sizeOf3 (by rw [← ha66]; rfl) rfl (by omega) (by omega) (by omega))) ?_
            refine Wt_take (i := 9) (listed' := #[true, true, true, true, true, true, true, true, true, true, false, false, false, false, false, false, false, false, false, false]) (by kernel_rfl) rfl (by kernel_rfl) (by kernel_rfl) (by kernel_rfl) (by kernel_rfl) (YI_v (v := .int .i64 ((rps l (ord l).length).getD i62 0)) rfl (fun w' hw' => r_load Try.isAgg3 rfl (hw'.cellk hc66))) ?_
            refine Wt_take (i := 10) (listed' := #[true, true, true, true, true, true, true, true, true, true, true, false, false, false, false, false, false, false, false, false]) (by kernel_rfl) rfl (by kernel_rfl) (by kernel_rfl) (by kernel_rfl) (by kernel_rfl) (YI_v (v := .bool (decide (((rp l i62 : Nat) : Int) ≠ ((rps l (ord l).length).getD i62 0)))) rfl (fun w' hw' => r_ne rfl rfl)) ?_
            refine Wt_take (i := 11) (listed' := #[true, true, true, true, true, true, true, true, true, true, true, true, false, false, false, false, false, false, false, false]) (by kernel_rfl) rfl (by kernel_rfl) (by kernel_rfl) (by kernel_rfl) (by kernel_rfl) (YI_v rfl (fun w' hw' => r_pick_f (v := .bool (decide (((rp l i62 : Nat) : Int) ≠ ((rps l (ord l).length).getD i62 0)))) rfl rfl)) ?_
            refine Wt_take (i := 12) (listed' := #[true, true, true, true, true, true, true, true, true, true, true, true, true, false, false, false, false, false, false, false]) (by kernel_rfl) rfl (by kernel_rfl) (by kernel_rfl) (by kernel_rfl) (by kernel_rfl) (YI_v (v := .bool (decide (((rp l i62 : Nat) : Int) ≠ ((rps l (ord l).length).getD i62 0)))) rfl (fun w' hw' => r_mv (v := .bool (decide (((rp l i62 : Nat) : Int) ≠ ((rps l (ord l).length).getD i62 0)))) rfl)) ?_
            have q16 : ¬ (((rp l i62 : Nat) : Int) ≠ ((rps l (ord l).length).getD i62 0)) := (fun h => h hrg.symm)
            rw [decide_eq_false q16]
            refine Wt_take (i := 13) (listed' := #[true, true, true, true, true, true, true, true, true, true, true, true, true, true, false, false, false, false, false, false]) (by kernel_rfl) rfl (by kernel_rfl) (by kernel_rfl) (by kernel_rfl) (by kernel_rfl) (YI_v (v := .agg #[.int .i64 (((os l).getD i62 (0, 0)).1), .int .i64 (((os l).getD i62 (0, 0)).2)]) rfl (fun w' hw' => r_loada (b := B63) (off := 0) (cs := [.int .i64 (((os l).getD i62 (0, 0)).1), .int .i64 (((os l).getD i62 (0, 0)).2)]) Try.isAgg38 Try.sizeOf38 rfl rfl (fun j hj => by rw [(hb63.upd0 hw').cell]; match j, hj with | 0, _ => rfl | 1, _ => rfl))) ?_
            refine Wt_take (i := 14) (listed' := #[true, true, true, true, true, true, true, true, true, true, true, true, true, true, true, false, false, false, false, false]) (by kernel_rfl) rfl (by kernel_rfl) (by kernel_rfl) (by kernel_rfl) (by kernel_rfl) (YI_v (v := .slice b8 ((ord l).length) d8) rfl (fun w' hw' => r_load Try.isAgg24 rfl (by rw [(hb10.upd0 hw').cell]; rfl))) ?_
            refine Wt_take (i := 15) (listed' := #[true, true, true, true, true, true, true, true, true, true, true, true, true, true, true, true, false, false, false, false]) (by kernel_rfl) rfl (by kernel_rfl) (by kernel_rfl) (by kernel_rfl) (by kernel_rfl) (YI_v (v := .int .i64 ((i62 : Nat) : Int)) rfl (fun w' hw' => r_load Try.isAgg3 rfl (by rw [(hb59.upd0 hw').cell]; rfl))) ?_
            obtain ⟨ib67, io67, ha67, hib67, hc67⟩ := Sl.rat (0, 0) encE_len (by decide) (hO8.sl) (i := i62) (by omega)
            refine Wt_take (i := 16) (listed' := #[true, true, true, true, true, true, true, true, true, true, true, true, true, true, true, true, true, false, false, false]) (by kernel_rfl) rfl (by kernel_rfl) (by kernel_rfl) (by kernel_rfl) (by kernel_rfl) (YI_v (v := .pointer (some ⟨ib67, io67 + i62 * 2, none⟩)) rfl (fun w' hw' => r_idx (b := ib67) (off := io67) (m := (ord l).length) (c := d8) (o' := io67 + i62 * 2) Try.underlying24 Try.sizeOf38 (by rw [← ha67]; rfl) rfl (by omega) (by omega) (by omega))) ?_
            refine Wt_take (i := 17) (listed' := #[true, true, true, true, true, true, true, true, true, true, true, true, true, true, true, true, true, true, false, false]) (by kernel_rfl) rfl (by kernel_rfl) (by kernel_rfl) (by kernel_rfl) (by kernel_rfl) (YI_v (v := .agg #[.int .i64 (((os l).getD i62 (0, 0)).1), .int .i64 (((os l).getD i62 (0, 0)).2)]) rfl (fun w' hw' => r_loada (cs := [.int .i64 (((os l).getD i62 (0, 0)).1), .int .i64 (((os l).getD i62 (0, 0)).2)]) Try.isAgg38 Try.sizeOf38 rfl rfl (hw'.cellsk rfl hc67))) ?_
            refine Wt_take (i := 18) (listed' := #[true, true, true, true, true, true, true, true, true, true, true, true, true, true, true, true, true, true, true, false]) (by kernel_rfl) rfl (by kernel_rfl) (by kernel_rfl) (by kernel_rfl) (by kernel_rfl) (YI_v (v := .bool (!decide ((((os l).getD i62 (0, 0)).1) = (((os l).getD i62 (0, 0)).1) ∧ (((os l).getD i62 (0, 0)).2) = (((os l).getD i62 (0, 0)).2)))) rfl (fun w' hw' => r_neag (pp := (((os l).getD i62 (0, 0)).1) = (((os l).getD i62 (0, 0)).1) ∧ (((os l).getD i62 (0, 0)).2) = (((os l).getD i62 (0, 0)).2)) Try.underlying38 (by kernel_rfl) (by kernel_rfl) rfl rfl (fun w => eqf_int (by decide) Try.underlying3 Try.isAgg3 rfl rfl (fun w => eqf_int (by decide) Try.underlying3 Try.isAgg3 rfl rfl (fun w => eqf_nil))) (by simp [Bool.decide_and]))) ?_
            refine Wt_take (i := 19) (listed' := #[true, true, true, true, true, true, true, true, true, true, true, true, true, true, true, true, true, true, true, true]) (by kernel_rfl) rfl (by kernel_rfl) (by kernel_rfl) (by kernel_rfl) (by kernel_rfl) (YI_v rfl (fun w' hw' => r_pick_f (v := .bool (!decide ((((os l).getD i62 (0, 0)).1) = (((os l).getD i62 (0, 0)).1) ∧ (((os l).getD i62 (0, 0)).2) = (((os l).getD i62 (0, 0)).2)))) rfl rfl)) ?_
            intro w68 hU68
            have hzw68 := hU68.size
            replace hrc61 := hrc61.upd0 hU68
            replace hdf61 := hdf61.upd0 hU68
            replace hb59 := hb59.upd0 hU68
            replace hdf18 := hdf18.upd0 hU68
            replace hb16 := hb16.upd0 hU68
            replace hb1 := hb1.upd0 hU68
            replace hb2 := hb2.upd0 hU68
            replace hT5 := hT5.upd0 hU68
            replace hE5 := hE5.upd0 hU68
            replace hL5 := hL5.upd0 hU68
            replace hA8 := hA8.upd0 hU68
            replace hO8 := hO8.upd0 hU68
            replace hb9 := hb9.upd0 hU68
            replace hb10 := hb10.upd0 hU68
            replace hB13 := hB13.upd0 hU68
            replace hb14 := hb14.upd0 hU68
            replace hb56 := hb56.upd0 hU68
            replace HU := HU.trans0 hU68
            replace HB61 := HB61.trans0 hU68
            replace hb63 := hb63.upd0 hU68
            replace hc66 := cell_upd0 hU68 hc66
            refine Wa_done (by kernel_rfl) ?_
            have q17 : (((os l).getD i62 (0, 0)).1) = (((os l).getD i62 (0, 0)).1) ∧ (((os l).getD i62 (0, 0)).2) = (((os l).getD i62 (0, 0)).2) := ⟨rfl, rfl⟩
            rw [decide_eq_true q17]
            simp only [Bool.not_true, Bool.not_false]
            refine W_cond_f rfl ?_
            refine W_skip ?_
            refine W_seq ?_
            refine W_region ?_
            refine Wl_load (v := .int .i64 ((i62 : Nat) : Int)) Try.isAgg3 rfl hb59 rfl ?_
            refine Wl_v (r_add rfl rfl (wi64 (by omega) (by omega))) ?_
            refine Wl_store (v := .int .i64 (((i62 : Nat) : Int) + 1)) (cs' := [.int .i64 (((i62 : Nat) : Int) + 1)]) Try.sizeOf3 rfl rfl rfl rfl hb59 rfl rfl ?_
            intro w69 hU69 hzz69 hb59n
            replace hb59 := hb59n; clear hb59n
            have hzw69 := hU69.size
            replace hrc61 := hrc61.upd1 hU69 (by omega)
            replace hdf61 := hdf61.upd1 hU69 (by omega)
            replace hdf18 := hdf18.upd1 hU69 (by omega)
            replace hb16 := hb16.upd1 hU69 (by omega)
            replace hb1 := hb1.upd1 hU69 (by omega)
            replace hb2 := hb2.upd1 hU69 (by omega)
            replace hT5 := hT5.upd1 hU69 (by omega)
            replace hE5 := hE5.upd1 hU69 (by intro h1; have h3 : ((w2.heap.size ≤ B59 ∧ B59 ≠ tb5) ∧ B59 < w5.heap.size) := h1; omega)
            replace hL5 := hL5.upd1 hU69 (by intro h1; have h3 : ((w2.heap.size ≤ B59 ∧ B59 ≠ tb5) ∧ B59 < w5.heap.size) := h1; omega)
            replace hA8 := hA8.upd1 hU69 (by intro h1; have h3 : ((w7.heap.size ≤ B59) ∧ B59 < w8.heap.size) := h1; omega)
            replace hO8 := hO8.upd1 hU69 (by intro h1; have h3 : ((w7.heap.size ≤ B59) ∧ B59 < w8.heap.size) := h1; omega)
            replace hb9 := hb9.upd1 hU69 (by omega)
            replace hb10 := hb10.upd1 hU69 (by omega)
            replace hB13 := hB13.upd1 hU69 (by omega)
            replace hb14 := hb14.upd1 hU69 (by omega)
            replace hb56 := hb56.upd1 hU69 (by omega)
            replace HU := HU.trans1 hU69 (by show (False) ∨ w.heap.size ≤ B59; omega)
            replace HB61 := HB61.trans1 hU69 (by show (B59 = B59 ∨ B59 = D61 + 1) ∨ w62.heap.size ≤ B59; omega)
            replace hb63 := hb63.upd1 hU69 (by omega)
            replace hc66 := cell_upd1 hU69 hc66 (by show ib66 ≠ B59; omega)
            refine Wl_nil ?_
            refine W_seq ?_
            refine W_region ?_
            refine Wl_load (v := .int .i64 1) Try.isAgg3 rfl hb56 rfl ?_
            refine Wl_v (v := .bool false) (r_eq (a := 1) (b := 0) rfl rfl) ?_
            refine Wl_v (r_mv (v := .bool false) rfl) ?_
            refine Wl_guard_f rfl ?_
            refine Wl_guard_f rfl ?_
            refine Wl_guard_f rfl ?_
            refine Wl_v (r_pick_f (v := .bool false) rfl rfl) ?_
            refine Wl_nil ?_
            refine W_cond_f rfl ?_
            refine W_skip ?_
            refine ⟨rfl, _, hrc61, ?_⟩
            intro w70 hU70 hzz70 hrz
            have hzw70 := hU70.size
            replace hdf61 := hdf61.upd1 hU70 (by omega)
            replace hb59 := hb59.upd1 hU70 (by omega)
            replace hdf18 := hdf18.upd1 hU70 (by omega)
            replace hb16 := hb16.upd1 hU70 (by omega)
            replace hb1 := hb1.upd1 hU70 (by omega)
            replace hb2 := hb2.upd1 hU70 (by omega)
            replace hT5 := hT5.upd1 hU70 (by omega)
            replace hE5 := hE5.upd1 hU70 (by intro h1; have h3 : ((w2.heap.size ≤ (D61 + 1) ∧ (D61 + 1) ≠ tb5) ∧ (D61 + 1) < w5.heap.size) := h1; omega)
            replace hL5 := hL5.upd1 hU70 (by intro h1; have h3 : ((w2.heap.size ≤ (D61 + 1) ∧ (D61 + 1) ≠ tb5) ∧ (D61 + 1) < w5.heap.size) := h1; omega)
            replace hA8 := hA8.upd1 hU70 (by intro h1; have h3 : ((w7.heap.size ≤ (D61 + 1)) ∧ (D61 + 1) < w8.heap.size) := h1; omega)
            replace hO8 := hO8.upd1 hU70 (by intro h1; have h3 : ((w7.heap.size ≤ (D61 + 1)) ∧ (D61 + 1) < w8.heap.size) := h1; omega)
            replace hb9 := hb9.upd1 hU70 (by omega)
            replace hb10 := hb10.upd1 hU70 (by omega)
            replace hB13 := hB13.upd1 hU70 (by omega)
            replace hb14 := hb14.upd1 hU70 (by omega)
            replace hb56 := hb56.upd1 hU70 (by omega)
            replace HU := HU.trans1 hU70 (by show (False) ∨ w.heap.size ≤ (D61 + 1); omega)
            replace HB61 := HB61.trans1 hU70 (by show ((D61 + 1) = B59 ∨ (D61 + 1) = D61 + 1) ∨ w62.heap.size ≤ (D61 + 1); omega)
            replace hb63 := hb63.upd1 hU70 (by omega)
            replace hc66 := cell_upd1 hU70 hc66 (by show ib66 ≠ (D61 + 1); omega)
            exact Or.inl ⟨rfl, HB61, (hJ61 _ _).2 ⟨(by rw [hr61]; rw [hr61] at hrz; exact hrz), hdf61, hb59, hdf18, hb16, hb1, hb2, hT5, hE5, hL5, hA8, hO8, hb9, hb10, hB13, hb14, hb56, HU⟩⟩
          · rintro b c w9 (⟨rfl, h1, h2⟩ | ⟨rfl, h1⟩)
            · exact Or.inl ⟨rfl, h1, h2⟩
            · exact Or.inr ⟨rfl, h1⟩
        rintro e w71 ⟨v, rfl, hh | hh⟩
        · obtain ⟨hrc61, hdf61, hb59, hdf18, hb16, hb1, hb2, hT5, hE5, hL5, hA8, hO8, hb9, hb10, hB13, hb14, hb56, HU⟩ := (hJ61 _ _).1 hh
          have hrl61 := hrc61.lt
          refine ⟨r61, hrc61, (by rw [hr61]; simp), ?_⟩
          intro w72 hU72 hzz72
          have hzw72 := hU72.size
          replace hdf61 := hdf61.upd1 hU72 (by omega)
          replace hb59 := hb59.upd1 hU72 (by omega)
          replace hdf18 := hdf18.upd1 hU72 (by omega)
          replace hb16 := hb16.upd1 hU72 (by omega)
          replace hb1 := hb1.upd1 hU72 (by omega)
          replace hb2 := hb2.upd1 hU72 (by omega)
          replace hT5 := hT5.upd1 hU72 (by omega)
          replace hE5 := hE5.upd1 hU72 (by intro h1; have h3 : ((w2.heap.size ≤ (D61 + 1) ∧ (D61 + 1) ≠ tb5) ∧ (D61 + 1) < w5.heap.size) := h1; omega)
          replace hL5 := hL5.upd1 hU72 (by intro h1; have h3 : ((w2.heap.size ≤ (D61 + 1) ∧ (D61 + 1) ≠ tb5) ∧ (D61 + 1) < w5.heap.size) := h1; omega)
          replace hA8 := hA8.upd1 hU72 (by intro h1; have h3 : ((w7.heap.size ≤ (D61 + 1)) ∧ (D61 + 1) < w8.heap.size) := h1; omega)
          replace hO8 := hO8.upd1 hU72 (by intro h1; have h3 : ((w7.heap.size ≤ (D61 + 1)) ∧ (D61 + 1) < w8.heap.size) := h1; omega)
          replace hb9 := hb9.upd1 hU72 (by omega)
          replace hb10 := hb10.upd1 hU72 (by omega)
          replace hB13 := hB13.upd1 hU72 (by omega)
          replace hb14 := hb14.upd1 hU72 (by omega)
          replace hb56 := hb56.upd1 hU72 (by omega)
          replace HU := HU.trans1 hU72 (by show (False) ∨ w.heap.size ≤ (D61 + 1); omega)
          rw [hr61]
          skip
          refine W_seq ?_
          refine W_region ?_
          refine Wl_load (v := .int .i64 1) Try.isAgg3 rfl hb56 rfl ?_
          refine Wl_v (v := .bool false) (r_eq (a := 1) (b := 0) rfl rfl) ?_
          refine Wl_v (r_mv (v := .bool false) rfl) ?_
          refine Wl_guard_f rfl ?_
          refine Wl_guard_f rfl ?_
          refine Wl_guard_f rfl ?_
          refine Wl_guard_f rfl ?_
          refine Wl_guard_f rfl ?_
          refine Wl_guard_f rfl ?_
          refine Wl_guard_f rfl ?_
          refine Wl_v (r_pick_f (v := .bool false) rfl rfl) ?_
          refine Wl_v (r_mv (v := .bool false) rfl) ?_
          refine Wl_guard_t rfl ?_
          refine Wl_load (v := .int .i64 1) Try.isAgg3 rfl hb56 rfl ?_
          refine Wl_guard_t rfl ?_
          refine Wl_v (v := .bool true) (r_eq (a := 1) (b := 1) rfl rfl) ?_
          refine Wl_guard_t rfl ?_
          refine Wl_v (r_mv (v := .bool true) rfl) ?_
          refine Wl_guard_t rfl ?_
          refine Wl_load (v := .int .i64 (((ord l).length : Nat) : Int)) Try.isAgg3 rfl hb59 rfl ?_
          refine Wl_guard_t rfl ?_
          refine Wl_load (v := .slice b8 ((ord l).length) d8) Try.isAgg24 rfl hb10 rfl ?_
          refine Wl_guard_t rfl ?_
          refine Wl_v (r_len Try.underlying24 rfl) ?_
          refine Wl_guard_t rfl ?_
          refine Wl_v (r_ne rfl rfl) ?_
          refine Wl_guard_t rfl ?_
          refine Wl_v (r_pick_t (v := .bool (decide ((((ord l).length : Nat) : Int) ≠ (((ord l).length : Nat) : Int)))) rfl rfl) ?_
          refine Wl_v (r_pick_f (v := .bool (decide ((((ord l).length : Nat) : Int) ≠ (((ord l).length : Nat) : Int)))) rfl rfl) ?_
          refine Wl_nil ?_
          have q18 : ¬ ((((ord l).length : Nat) : Int) ≠ (((ord l).length : Nat) : Int)) := (by omega)
          rw [decide_eq_false q18]
          refine W_cond_f rfl ?_
          refine W_skip ?_
          refine W_seq ?_
          refine W_seq ?_
          refine W_region ?_
          refine Wl_load (v := .int .i64 1) Try.isAgg3 rfl hb56 rfl ?_
          refine Wl_nil ?_
          refine W_region ?_
          refine Wl_alloc (cs := [.int .i64 0]) Try.zeroValue3 rfl ?_
          intro B73 w73 hB73 hU73 hzz73 hb73
          have hzw73 := hU73.size
          replace hdf61 := hdf61.upd0 hU73
          replace hb59 := hb59.upd0 hU73
          replace hdf18 := hdf18.upd0 hU73
          replace hb16 := hb16.upd0 hU73
          replace hb1 := hb1.upd0 hU73
          replace hb2 := hb2.upd0 hU73
          replace hT5 := hT5.upd0 hU73
          replace hE5 := hE5.upd0 hU73
          replace hL5 := hL5.upd0 hU73
          replace hA8 := hA8.upd0 hU73
          replace hO8 := hO8.upd0 hU73
          replace hb9 := hb9.upd0 hU73
          replace hb10 := hb10.upd0 hU73
          replace hB13 := hB13.upd0 hU73
          replace hb14 := hb14.upd0 hU73
          replace hb56 := hb56.upd0 hU73
          replace HU := HU.trans0 hU73
          refine Wl_store (v := .int .i64 1) (cs' := [.int .i64 1]) Try.sizeOf3 rfl rfl rfl rfl hb73 rfl rfl ?_
          intro w74 hU74 hzz74 hb73n
          replace hb73 := hb73n; clear hb73n
          have hzw74 := hU74.size
          replace hdf61 := hdf61.upd1 hU74 (by omega)
          replace hb59 := hb59.upd1 hU74 (by omega)
          replace hdf18 := hdf18.upd1 hU74 (by omega)
          replace hb16 := hb16.upd1 hU74 (by omega)
          replace hb1 := hb1.upd1 hU74 (by omega)
          replace hb2 := hb2.upd1 hU74 (by omega)
          replace hT5 := hT5.upd1 hU74 (by omega)
          replace hE5 := hE5.upd1 hU74 (by intro h1; have h3 : ((w2.heap.size ≤ B73 ∧ B73 ≠ tb5) ∧ B73 < w5.heap.size) := h1; omega)
          replace hL5 := hL5.upd1 hU74 (by intro h1; have h3 : ((w2.heap.size ≤ B73 ∧ B73 ≠ tb5) ∧ B73 < w5.heap.size) := h1; omega)
          replace hA8 := hA8.upd1 hU74 (by intro h1; have h3 : ((w7.heap.size ≤ B73) ∧ B73 < w8.heap.size) := h1; omega)
          replace hO8 := hO8.upd1 hU74 (by intro h1; have h3 : ((w7.heap.size ≤ B73) ∧ B73 < w8.heap.size) := h1; omega)
          replace hb9 := hb9.upd1 hU74 (by omega)
          replace hb10 := hb10.upd1 hU74 (by omega)
          replace hB13 := hB13.upd1 hU74 (by omega)
          replace hb14 := hb14.upd1 hU74 (by omega)
          replace hb56 := hb56.upd1 hU74 (by omega)
          replace HU := HU.trans1 hU74 (by show (False) ∨ w.heap.size ≤ B73; omega)
          refine Wl_nil ?_
          refine W_region ?_
          refine Wl_load (v := .int .i64 1) Try.isAgg3 rfl hb73 rfl ?_
          refine Wl_v (r_add rfl rfl (show IntKind.i64.wrap (1 + 1) = 2 by decide)) ?_
          refine Wl_store (v := .int .i64 2) (cs' := [.int .i64 2]) Try.sizeOf3 rfl rfl rfl rfl hb73 rfl rfl ?_
          intro w75 hU75 hzz75 hb73n
          replace hb73 := hb73n; clear hb73n
          have hzw75 := hU75.size
          replace hdf61 := hdf61.upd1 hU75 (by omega)
          replace hb59 := hb59.upd1 hU75 (by omega)
          replace hdf18 := hdf18.upd1 hU75 (by omega)
          replace hb16 := hb16.upd1 hU75 (by omega)
          replace hb1 := hb1.upd1 hU75 (by omega)
          replace hb2 := hb2.upd1 hU75 (by omega)
          replace hT5 := hT5.upd1 hU75 (by omega)
          replace hE5 := hE5.upd1 hU75 (by intro h1; have h3 : ((w2.heap.size ≤ B73 ∧ B73 ≠ tb5) ∧ B73 < w5.heap.size) := h1; omega)
          replace hL5 := hL5.upd1 hU75 (by intro h1; have h3 : ((w2.heap.size ≤ B73 ∧ B73 ≠ tb5) ∧ B73 < w5.heap.size) := h1; omega)
          replace hA8 := hA8.upd1 hU75 (by intro h1; have h3 : ((w7.heap.size ≤ B73) ∧ B73 < w8.heap.size) := h1; omega)
          replace hO8 := hO8.upd1 hU75 (by intro h1; have h3 : ((w7.heap.size ≤ B73) ∧ B73 < w8.heap.size) := h1; omega)
          replace hb9 := hb9.upd1 hU75 (by omega)
          replace hb10 := hb10.upd1 hU75 (by omega)
          replace hB13 := hB13.upd1 hU75 (by omega)
          replace hb14 := hb14.upd1 hU75 (by omega)
          replace hb56 := hb56.upd1 hU75 (by omega)
          replace HU := HU.trans1 hU75 (by show (False) ∨ w.heap.size ≤ B73; omega)
          refine Wl_nil ?_
          refine W_seq ?_
          refine W_seq ?_
          refine W_region ?_
          refine Wl_load (v := .int .i64 2) Try.isAgg3 rfl hb73 rfl ?_
          refine Wl_v (v := .bool false) (r_lt (a := 2) (b := 2) rfl rfl) ?_
          refine Wl_nil ?_
          refine W_cond_f rfl ?_
          refine W_exit ?_
          refine W_seq ?_
          refine W_region ?_
          refine Wl_call (r_call0 rfl Try.call11 ) (works15 _ ) ?_
          rintro v w76 ⟨rfl, hU76⟩
          have hzw76 := hU76.size
          replace hdf61 := hdf61.upd0 hU76
          replace hb59 := hb59.upd0 hU76
          replace hdf18 := hdf18.upd0 hU76
          replace hb16 := hb16.upd0 hU76
          replace hb1 := hb1.upd0 hU76
          replace hb2 := hb2.upd0 hU76
          replace hT5 := hT5.upd0 hU76
          replace hE5 := hE5.upd0 hU76
          replace hL5 := hL5.upd0 hU76
          replace hA8 := hA8.upd0 hU76
          replace hO8 := hO8.upd0 hU76
          replace hb9 := hb9.upd0 hU76
          replace hb10 := hb10.upd0 hU76
          replace hB13 := hB13.upd0 hU76
          replace hb14 := hb14.upd0 hU76
          replace hb56 := hb56.upd0 hU76
          replace HU := HU.trans0 hU76
          replace hb73 := hb73.upd0 hU76
          refine Wl_store (v := .bool true) (cs' := [.bool true]) Try.sizeOf4 rfl rfl rfl rfl hb2 rfl rfl ?_
          intro w77 hU77 hzz77 hb2n
          replace hb2 := hb2n; clear hb2n
          have hzw77 := hU77.size
          replace hdf61 := hdf61.upd1 hU77 (by omega)
          replace hb59 := hb59.upd1 hU77 (by omega)
          replace hdf18 := hdf18.upd1 hU77 (by omega)
          replace hb16 := hb16.upd1 hU77 (by omega)
          replace hb1 := hb1.upd1 hU77 (by omega)
          replace hT5 := hT5.upd1 hU77 (by omega)
          replace hE5 := hE5.upd1 hU77 (by intro h1; have h3 : ((w2.heap.size ≤ B2 ∧ B2 ≠ tb5) ∧ B2 < w5.heap.size) := h1; omega)
          replace hL5 := hL5.upd1 hU77 (by intro h1; have h3 : ((w2.heap.size ≤ B2 ∧ B2 ≠ tb5) ∧ B2 < w5.heap.size) := h1; omega)
          replace hA8 := hA8.upd1 hU77 (by intro h1; have h3 : ((w7.heap.size ≤ B2) ∧ B2 < w8.heap.size) := h1; omega)
          replace hO8 := hO8.upd1 hU77 (by intro h1; have h3 : ((w7.heap.size ≤ B2) ∧ B2 < w8.heap.size) := h1; omega)
          replace hb9 := hb9.upd1 hU77 (by omega)
          replace hb10 := hb10.upd1 hU77 (by omega)
          replace hB13 := hB13.upd1 hU77 (by omega)
          replace hb14 := hb14.upd1 hU77 (by omega)
          replace hb56 := hb56.upd1 hU77 (by omega)
          replace HU := HU.trans1 hU77 (by show (False) ∨ w.heap.size ≤ B2; omega)
          replace hb73 := hb73.upd1 hU77 (by omega)
          refine Wl_nil ?_
          refine W_ret ?_
          refine ret_ds rfl ?_
          refine lv_mark (by simp) hdf61 ?_
          intro w78 hU78 hzz78
          have hzw78 := hU78.size
          replace hb59 := hb59.upd1 hU78 (by omega)
          replace hdf18 := hdf18.upd1 hU78 (by omega)
          replace hb16 := hb16.upd1 hU78 (by omega)
          replace hb1 := hb1.upd1 hU78 (by omega)
          replace hb2 := hb2.upd1 hU78 (by omega)
          replace hT5 := hT5.upd1 hU78 (by omega)
          replace hE5 := hE5.upd1 hU78 (by intro h1; have h3 : ((w2.heap.size ≤ D61 ∧ D61 ≠ tb5) ∧ D61 < w5.heap.size) := h1; omega)
          replace hL5 := hL5.upd1 hU78 (by intro h1; have h3 : ((w2.heap.size ≤ D61 ∧ D61 ≠ tb5) ∧ D61 < w5.heap.size) := h1; omega)
          replace hA8 := hA8.upd1 hU78 (by intro h1; have h3 : ((w7.heap.size ≤ D61) ∧ D61 < w8.heap.size) := h1; omega)
          replace hO8 := hO8.upd1 hU78 (by intro h1; have h3 : ((w7.heap.size ≤ D61) ∧ D61 < w8.heap.size) := h1; omega)
          replace hb9 := hb9.upd1 hU78 (by omega)
          replace hb10 := hb10.upd1 hU78 (by omega)
          replace hB13 := hB13.upd1 hU78 (by omega)
          replace hb14 := hb14.upd1 hU78 (by omega)
          replace hb56 := hb56.upd1 hU78 (by omega)
          replace HU := HU.trans1 hU78 (by show (False) ∨ w.heap.size ≤ D61; omega)
          replace hb73 := hb73.upd1 hU78 (by omega)
          refine lv_mark (by simp) hdf18 ?_
          intro w79 hU79 hzz79
          have hzw79 := hU79.size
          replace hb59 := hb59.upd1 hU79 (by omega)
          replace hb16 := hb16.upd1 hU79 (by omega)
          replace hb1 := hb1.upd1 hU79 (by omega)
          replace hb2 := hb2.upd1 hU79 (by omega)
          replace hT5 := hT5.upd1 hU79 (by omega)
          replace hE5 := hE5.upd1 hU79 (by intro h1; have h3 : ((w2.heap.size ≤ D18 ∧ D18 ≠ tb5) ∧ D18 < w5.heap.size) := h1; omega)
          replace hL5 := hL5.upd1 hU79 (by intro h1; have h3 : ((w2.heap.size ≤ D18 ∧ D18 ≠ tb5) ∧ D18 < w5.heap.size) := h1; omega)
          replace hA8 := hA8.upd1 hU79 (by intro h1; have h3 : ((w7.heap.size ≤ D18) ∧ D18 < w8.heap.size) := h1; omega)
          replace hO8 := hO8.upd1 hU79 (by intro h1; have h3 : ((w7.heap.size ≤ D18) ∧ D18 < w8.heap.size) := h1; omega)
          replace hb9 := hb9.upd1 hU79 (by omega)
          replace hb10 := hb10.upd1 hU79 (by omega)
          replace hB13 := hB13.upd1 hU79 (by omega)
          replace hb14 := hb14.upd1 hU79 (by omega)
          replace hb56 := hb56.upd1 hU79 (by omega)
          replace HU := HU.trans1 hU79 (by show (False) ∨ w.heap.size ≤ D18; omega)
          replace hb73 := hb73.upd1 hU79 (by omega)
          refine lv_nil (v := .bool true) (rc1 Try.results7 rfl (cellIs Try.isAgg4 hb2)) ?_
          exact ⟨_, rfl, rfl, HU⟩
        · exact ((hJx61 _).1 hh).elim
    · refine Wl_call (r_call1 rfl Try.call17 rfl) (new_no _ hs (by omega) q2) ?_
      rintro v w80 ⟨rfl, hU80⟩
      have hzw80 := hU80.size
      replace hs := hs.upd0 hU80
      replace HU := HU.trans0 hU80
      replace hb1 := hb1.upd0 hU80
      replace hb2 := hb2.upd0 hU80
      refine Wl_v (r_mv (v := .tuple #[.pointer none, .int .i64 12]) rfl) ?_
      refine Wl_v (r_ext (v := .pointer none) rfl rfl) ?_
      refine Wl_v (r_ext (v := .int .i64 12) rfl rfl) ?_
      refine Wl_v (r_as (v := .pointer none) rfl) ?_
      refine Wl_v (r_as (v := .int .i64 12) rfl) ?_
      refine Wl_nil ?_
      refine W_seq ?_
      refine W_seq ?_
      refine W_region ?_
      refine Wl_v (r_mv (v := .int .i64 12) rfl) ?_
      refine Wl_call (r_call1 rfl Try.call15 rfl) (num15 _ ) ?_
      rintro v w81 ⟨rfl, hU81⟩
      have hzw81 := hU81.size
      replace hs := hs.upd0 hU81
      replace HU := HU.trans0 hU81
      replace hb1 := hb1.upd0 hU81
      replace hb2 := hb2.upd0 hU81
      refine Wl_v (v := .bool false) (r_eq (a := 12) (b := 0) rfl rfl) ?_
      refine Wl_v (r_mv (v := .slice a n c) rfl) ?_
      refine Wl_call (r_call1 rfl Try.call21 rfl) (rright_spec _ hs (by omega)) ?_
      rintro v w82 ⟨rfl, hU82⟩
      have hzw82 := hU82.size
      replace hs := hs.upd0 hU82
      replace HU := HU.trans0 hU82
      replace hb1 := hb1.upd0 hU82
      replace hb2 := hb2.upd0 hU82
      have q19 : ¬ (Rt l) := q2
      rw [decide_eq_false q19]
      refine Wl_v (v := .bool false) (r_neb (a := false) (b := false) Try.underlying4 rfl rfl) ?_
      refine Wl_nil ?_
      refine W_cond_f rfl ?_
      refine W_skip ?_
      refine W_seq ?_
      refine W_region ?_
      refine Wl_v (r_mv (v := .slice a n c) rfl) ?_
      have q20 : ¬ (Rt l) := q19
      refine Wl_call (r_call1 rfl Try.call26 rfl) (rruns_f _ hs (by omega) q20) ?_
      rintro v w83 ⟨rfl, hU83⟩
      have hzw83 := hU83.size
      replace hs := hs.upd0 hU83
      replace HU := HU.trans0 hU83
      replace hb1 := hb1.upd0 hU83
      replace hb2 := hb2.upd0 hU83
      refine Wl_v (r_mv (v := .tuple #[.slice none 0 0, .slice none 0 0]) rfl) ?_
      refine Wl_v (r_ext (v := .slice none 0 0) rfl rfl) ?_
      refine Wl_v (r_ext (v := .slice none 0 0) rfl rfl) ?_
      refine Wl_alloc (cs := [.slice none 0 0]) Try.zeroValue22 rfl ?_
      intro B84 w84 hB84 hU84 hzz84 hb84
      have hzw84 := hU84.size
      replace hs := hs.upd0 hU84
      replace HU := HU.trans0 hU84
      replace hb1 := hb1.upd0 hU84
      replace hb2 := hb2.upd0 hU84
      refine Wl_alloc (cs := [.slice none 0 0]) Try.zeroValue24 rfl ?_
      intro B85 w85 hB85 hU85 hzz85 hb85
      have hzw85 := hU85.size
      replace hs := hs.upd0 hU85
      replace HU := HU.trans0 hU85
      replace hb1 := hb1.upd0 hU85
      replace hb2 := hb2.upd0 hU85
      replace hb84 := hb84.upd0 hU85
      refine Wl_store (v := .slice none 0 0) (cs' := [.slice none 0 0]) Try.sizeOf22 rfl rfl rfl rfl hb84 rfl rfl ?_
      intro w86 hU86 hzz86 hb84n
      replace hb84 := hb84n; clear hb84n
      have hzw86 := hU86.size
      replace hs := hs.upd1 hU86 (by intro h1; have h3 : B84 < w.heap.size := h1; omega)
      replace HU := HU.trans1 hU86 (by show (False) ∨ w.heap.size ≤ B84; omega)
      replace hb1 := hb1.upd1 hU86 (by omega)
      replace hb2 := hb2.upd1 hU86 (by omega)
      replace hb85 := hb85.upd1 hU86 (by omega)
      refine Wl_store (v := .slice none 0 0) (cs' := [.slice none 0 0]) Try.sizeOf24 rfl rfl rfl rfl hb85 rfl rfl ?_
      intro w87 hU87 hzz87 hb85n
      replace hb85 := hb85n; clear hb85n
      have hzw87 := hU87.size
      replace hs := hs.upd1 hU87 (by intro h1; have h3 : B85 < w.heap.size := h1; omega)
      replace HU := HU.trans1 hU87 (by show (False) ∨ w.heap.size ≤ B85; omega)
      replace hb1 := hb1.upd1 hU87 (by omega)
      replace hb2 := hb2.upd1 hU87 (by omega)
      replace hb84 := hb84.upd1 hU87 (by omega)
      refine Wl_nil ?_
      refine W_seq ?_
      refine W_region ?_
      refine Wl_v (r_mv (v := .pointer none) rfl) ?_
      refine Wl_call (r_call1 rfl Try.call27 rfl) (runs_nil _ ) ?_
      rintro v w88 ⟨B88, rfl, hB88, hBg_88, hU88⟩
      have hzw88 := hU88.size
      replace hs := hs.upd0 hU88
      replace HU := HU.trans0 hU88
      replace hb1 := hb1.upd0 hU88
      replace hb2 := hb2.upd0 hU88
      replace hb84 := hb84.upd0 hU88
      replace hb85 := hb85.upd0 hU88
      have hbl_hB88 := hB88.lt
      refine Wl_v (r_as (v := .func (.func 40) #[] #[.pointer (some ⟨B88, 0, none⟩)]) rfl) ?_
      refine Wl_nil ?_
      refine W_seq ?_
      refine W_seq ?_
      refine W_region ?_
      refine Wl_v (r_mv (v := .func (.func 40) #[] #[.pointer (some ⟨B88, 0, none⟩)]) rfl) ?_
      refine Wl_v (r_eqfn_s Try.underlying59 rfl rfl) ?_
      refine Wl_nil ?_
      refine W_cond_f rfl ?_
      refine W_skip ?_
      refine W_seq ?_
      refine W_seq ?_
      refine W_region ?_
      refine Wl_alloc (cs := [.int .i64 0]) Try.zeroValue3 rfl ?_
      intro B89 w89 hB89 hU89 hzz89 hb89
      have hzw89 := hU89.size
      replace hs := hs.upd0 hU89
      replace HU := HU.trans0 hU89
      replace hb1 := hb1.upd0 hU89
      replace hb2 := hb2.upd0 hU89
      replace hb84 := hb84.upd0 hU89
      replace hb85 := hb85.upd0 hU89
      replace hB88 := hB88.upd0 hU89
      refine Wl_store (v := .int .i64 0) (cs' := [.int .i64 0]) Try.sizeOf3 rfl rfl rfl rfl hb89 rfl rfl ?_
      intro w90 hU90 hzz90 hb89n
      replace hb89 := hb89n; clear hb89n
      have hzw90 := hU90.size
      replace hs := hs.upd1 hU90 (by intro h1; have h3 : B89 < w.heap.size := h1; omega)
      replace HU := HU.trans1 hU90 (by show (False) ∨ w.heap.size ≤ B89; omega)
      replace hb1 := hb1.upd1 hU90 (by omega)
      replace hb2 := hb2.upd1 hU90 (by omega)
      replace hb84 := hb84.upd1 hU90 (by omega)
      replace hb85 := hb85.upd1 hU90 (by omega)
      replace hB88 := hB88.upd1 hU90 (by omega)
      refine Wl_nil ?_
      refine W_block ?_
      refine W_unroll2 ?_
      refine W_seq ?_
      refine W_seq ?_
      refine W_region ?_
      refine Wl_load (v := .int .i64 0) Try.isAgg3 rfl hb89 rfl ?_
      refine Wl_v (v := .bool true) (r_lt (a := 0) (b := 2) rfl rfl) ?_
      refine Wl_nil ?_
      refine W_cond_t rfl ?_
      refine W_skip ?_
      refine W_seq ?_
      refine W_block ?_
      refine W_seq ?_
      refine W_region ?_
      refine Wl_alloc (cs := [.int .i64 0]) Try.zeroValue3 rfl ?_
      intro B91 w91 hB91 hU91 hzz91 hb91
      have hzw91 := hU91.size
      replace hs := hs.upd0 hU91
      replace HU := HU.trans0 hU91
      replace hb1 := hb1.upd0 hU91
      replace hb2 := hb2.upd0 hU91
      replace hb84 := hb84.upd0 hU91
      replace hb85 := hb85.upd0 hU91
      replace hB88 := hB88.upd0 hU91
      replace hb89 := hb89.upd0 hU91
      refine Wl_store (v := .int .i64 0) (cs' := [.int .i64 0]) Try.sizeOf3 rfl rfl rfl rfl hb91 rfl rfl ?_
      intro w92 hU92 hzz92 hb91n
      replace hb91 := hb91n; clear hb91n
      have hzw92 := hU92.size
      replace hs := hs.upd1 hU92 (by intro h1; have h3 : B91 < w.heap.size := h1; omega)
      replace HU := HU.trans1 hU92 (by show (False) ∨ w.heap.size ≤ B91; omega)
      replace hb1 := hb1.upd1 hU92 (by omega)
      replace hb2 := hb2.upd1 hU92 (by omega)
      replace hb84 := hb84.upd1 hU92 (by omega)
      replace hb85 := hb85.upd1 hU92 (by omega)
      replace hB88 := hB88.upd1 hU92 (by omega)
      replace hb89 := hb89.upd1 hU92 (by omega)
      refine Wl_nil ?_
      refine W_seq ?_
      refine W_seq ?_
      refine W_region ?_
      refine Wl_v (r_mv (v := .func (.func 40) #[] #[.pointer (some ⟨B88, 0, none⟩)]) rfl) ?_
      refine Wl_nil ?_
      refine W_block ?_
      refine W_range (gf := 40) (ar := fun y => #[y, .pointer (some ⟨B88, 0, none⟩)]) rfl Try.call40 (fun y => by simp) ?_
      intro D93 fn93 w93 hD93 hU93 hzz93 hdf93 hrc930
      have hzw93 := hU93.size
      replace hs := hs.upd0 hU93
      replace HU := HU.trans0 hU93
      replace hb1 := hb1.upd0 hU93
      replace hb2 := hb2.upd0 hU93
      replace hb84 := hb84.upd0 hU93
      replace hb85 := hb85.upd0 hU93
      replace hB88 := hB88.upd0 hU93
      replace hb89 := hb89.upd0 hU93
      replace hb91 := hb91.upd0 hU93
      obtain ⟨r93, hr93, hrc93⟩ : ∃ r, r = _ ∧ Rec w93 (D93 + 1) r := ⟨_, rfl, hrc930⟩
      clear hrc930
      obtain ⟨J93, hJ93⟩ : ∃ J : Nat → World → Prop, ∀ i w', J i w' ↔ (Rec w' (D93 + 1) r93 ∧ Dfr w' D93 ∧ Blk w' B91 [.int .i64 0] ∧ Blk w' B1 [.int .i64 many] ∧ Blk w' B2 [.bool false] ∧ Blk w' B84 [.slice none 0 0] ∧ Blk w' B85 [.slice none 0 0] ∧ Blk w' B88 [.pointer none] ∧ Blk w' B89 [.int .i64 0] ∧ Upd No w w') := ⟨_, fun _ _ => Iff.rfl⟩
      obtain ⟨Jx93, hJx93⟩ : ∃ Jx : World → Prop, ∀ w', Jx w' ↔ (False) := ⟨_, fun _ => Iff.rfl⟩
      refine (runs1_emp (J := J93) (Jx := Jx93) w93 (runs1_nil w93 hB88) ?_ ?_ ?_).mono ?_
      · exact (hJ93 _ _).2 ⟨hrc93, hdf93, hb91, hb1, hb2, hb84, hb85, hB88, hb89, HU⟩
      · intro i wa wb hh hUs
        obtain ⟨hrc93, hdf93, hb91, hb1, hb2, hb84, hb85, hB88, hb89, HU⟩ := (hJ93 _ _).1 hh
        replace hrc93 := hrc93.upd0 hUs
        replace hdf93 := hdf93.upd0 hUs
        replace hb91 := hb91.upd0 hUs
        replace hb1 := hb1.upd0 hUs
        replace hb2 := hb2.upd0 hUs
        replace hb84 := hb84.upd0 hUs
        replace hb85 := hb85.upd0 hUs
        replace hB88 := hB88.upd0 hUs
        replace hb89 := hb89.upd0 hUs
        replace HU := HU.trans0 hUs
        exact (hJ93 _ _).2 ⟨hrc93, hdf93, hb91, hb1, hb2, hb84, hb85, hB88, hb89, HU⟩
      · intro i94 w94 hi94 hh
        obtain ⟨hrc93, hdf93, hb91, hb1, hb2, hb84, hb85, hB88, hb89, HU⟩ := (hJ93 _ _).1 hh
        have hrl93 := hrc93.lt
        omega
      rintro e w95 ⟨v, rfl, hh | hh⟩
      · obtain ⟨hrc93, hdf93, hb91, hb1, hb2, hb84, hb85, hB88, hb89, HU⟩ := (hJ93 _ _).1 hh
        have hrl93 := hrc93.lt
        refine ⟨r93, hrc93, (by rw [hr93]; simp), ?_⟩
        intro w96 hU96 hzz96
        have hzw96 := hU96.size
        replace hdf93 := hdf93.upd1 hU96 (by omega)
        replace hb91 := hb91.upd1 hU96 (by omega)
        replace hb1 := hb1.upd1 hU96 (by omega)
        replace hb2 := hb2.upd1 hU96 (by omega)
        replace hb84 := hb84.upd1 hU96 (by omega)
        replace hb85 := hb85.upd1 hU96 (by omega)
        replace hB88 := hB88.upd1 hU96 (by omega)
        replace hb89 := hb89.upd1 hU96 (by omega)
        replace HU := HU.trans1 hU96 (by show (False) ∨ w.heap.size ≤ (D93 + 1); omega)
        rw [hr93]
        refine W_seq ?_
        refine W_region ?_
        refine Wl_load (v := .int .i64 0) Try.isAgg3 rfl hb89 rfl ?_
        refine Wl_v (v := .bool true) (r_eq (a := 0) (b := 0) rfl rfl) ?_
        refine Wl_v (r_mv (v := .bool true) rfl) ?_
        refine Wl_guard_t rfl ?_
        refine Wl_load (v := .int .i64 0) Try.isAgg3 rfl hb91 rfl ?_
        refine Wl_guard_t rfl ?_
        refine Wl_load (v := .slice none 0 0) Try.isAgg24 rfl hb85 rfl ?_
        refine Wl_guard_t rfl ?_
        refine Wl_v (r_len Try.underlying24 rfl) ?_
        refine Wl_guard_t rfl ?_
        refine Wl_load (v := .int .i64 many) Try.isAgg3 rfl hb1 rfl ?_
        refine Wl_guard_t rfl ?_
        refine Wl_v (r_max rfl rfl) ?_
        refine Wl_guard_t rfl ?_
        refine Wl_v (r_min rfl rfl) ?_
        refine Wl_guard_t rfl ?_
        refine Wl_v (r_ne rfl rfl) ?_
        refine Wl_v (r_pick_t (v := .bool (decide (0 ≠ (min 0 (max 1 many))))) rfl rfl) ?_
        refine Wl_v (r_mv (v := .bool (decide (0 ≠ (min 0 (max 1 many))))) rfl) ?_
        have q21 : ¬ (0 ≠ (min 0 (max 1 many))) := (by omega)
        rw [decide_eq_false q21]
        refine Wl_guard_t rfl ?_
        refine Wl_load (v := .int .i64 0) Try.isAgg3 rfl hb89 rfl ?_
        refine Wl_guard_t rfl ?_
        refine Wl_v (v := .bool false) (r_eq (a := 0) (b := 1) rfl rfl) ?_
        refine Wl_guard_t rfl ?_
        refine Wl_v (r_mv (v := .bool false) rfl) ?_
        refine Wl_guard_f rfl ?_
        refine Wl_guard_f rfl ?_
        refine Wl_guard_f rfl ?_
        refine Wl_guard_f rfl ?_
        refine Wl_guard_t rfl ?_
        refine Wl_v (r_pick_f (v := .bool false) rfl rfl) ?_
        refine Wl_v (r_pick_f (v := .bool false) rfl rfl) ?_
        refine Wl_nil ?_
        refine W_cond_f rfl ?_
        refine W_skip ?_
        refine W_seq ?_
        refine W_seq ?_
        refine W_region ?_
        refine Wl_load (v := .int .i64 0) Try.isAgg3 rfl hb89 rfl ?_
        refine Wl_nil ?_
        refine W_region ?_
        refine Wl_alloc (cs := [.int .i64 0]) Try.zeroValue3 rfl ?_
        intro B97 w97 hB97 hU97 hzz97 hb97
        have hzw97 := hU97.size
        replace hdf93 := hdf93.upd0 hU97
        replace hb91 := hb91.upd0 hU97
        replace hb1 := hb1.upd0 hU97
        replace hb2 := hb2.upd0 hU97
        replace hb84 := hb84.upd0 hU97
        replace hb85 := hb85.upd0 hU97
        replace hB88 := hB88.upd0 hU97
        replace hb89 := hb89.upd0 hU97
        replace HU := HU.trans0 hU97
        refine Wl_store (v := .int .i64 0) (cs' := [.int .i64 0]) Try.sizeOf3 rfl rfl rfl rfl hb97 rfl rfl ?_
        intro w98 hU98 hzz98 hb97n
        replace hb97 := hb97n; clear hb97n
        have hzw98 := hU98.size
        replace hdf93 := hdf93.upd1 hU98 (by omega)
        replace hb91 := hb91.upd1 hU98 (by omega)
        replace hb1 := hb1.upd1 hU98 (by omega)
        replace hb2 := hb2.upd1 hU98 (by omega)
        replace hb84 := hb84.upd1 hU98 (by omega)
        replace hb85 := hb85.upd1 hU98 (by omega)
        replace hB88 := hB88.upd1 hU98 (by omega)
        replace hb89 := hb89.upd1 hU98 (by omega)
        replace HU := HU.trans1 hU98 (by show (False) ∨ w.heap.size ≤ B97; omega)
        refine Wl_nil ?_
        refine W_region ?_
        refine Wl_load (v := .int .i64 0) Try.isAgg3 rfl hb97 rfl ?_
        refine Wl_v (r_add rfl rfl (show IntKind.i64.wrap (0 + 1) = 1 by decide)) ?_
        refine Wl_store (v := .int .i64 1) (cs' := [.int .i64 1]) Try.sizeOf3 rfl rfl rfl rfl hb97 rfl rfl ?_
        intro w99 hU99 hzz99 hb97n
        replace hb97 := hb97n; clear hb97n
        have hzw99 := hU99.size
        replace hdf93 := hdf93.upd1 hU99 (by omega)
        replace hb91 := hb91.upd1 hU99 (by omega)
        replace hb1 := hb1.upd1 hU99 (by omega)
        replace hb2 := hb2.upd1 hU99 (by omega)
        replace hb84 := hb84.upd1 hU99 (by omega)
        replace hb85 := hb85.upd1 hU99 (by omega)
        replace hB88 := hB88.upd1 hU99 (by omega)
        replace hb89 := hb89.upd1 hU99 (by omega)
        replace HU := HU.trans1 hU99 (by show (False) ∨ w.heap.size ≤ B97; omega)
        refine Wl_nil ?_
        refine W_seq ?_
        refine W_seq ?_
        refine W_region ?_
        refine Wl_load (v := .int .i64 1) Try.isAgg3 rfl hb97 rfl ?_
        refine Wl_v (v := .bool true) (r_lt (a := 1) (b := 2) rfl rfl) ?_
        refine Wl_nil ?_
        refine W_cond_t rfl ?_
        refine W_skip ?_
        refine W_seq ?_
        refine W_block ?_
        refine W_seq ?_
        refine W_region ?_
        refine Wl_alloc (cs := [.int .i64 0]) Try.zeroValue3 rfl ?_
        intro B100 w100 hB100 hU100 hzz100 hb100
        have hzw100 := hU100.size
        replace hdf93 := hdf93.upd0 hU100
        replace hb91 := hb91.upd0 hU100
        replace hb1 := hb1.upd0 hU100
        replace hb2 := hb2.upd0 hU100
        replace hb84 := hb84.upd0 hU100
        replace hb85 := hb85.upd0 hU100
        replace hB88 := hB88.upd0 hU100
        replace hb89 := hb89.upd0 hU100
        replace HU := HU.trans0 hU100
        replace hb97 := hb97.upd0 hU100
        refine Wl_store (v := .int .i64 0) (cs' := [.int .i64 0]) Try.sizeOf3 rfl rfl rfl rfl hb100 rfl rfl ?_
        intro w101 hU101 hzz101 hb100n
        replace hb100 := hb100n; clear hb100n
        have hzw101 := hU101.size
        replace hdf93 := hdf93.upd1 hU101 (by omega)
        replace hb91 := hb91.upd1 hU101 (by omega)
        replace hb1 := hb1.upd1 hU101 (by omega)
        replace hb2 := hb2.upd1 hU101 (by omega)
        replace hb84 := hb84.upd1 hU101 (by omega)
        replace hb85 := hb85.upd1 hU101 (by omega)
        replace hB88 := hB88.upd1 hU101 (by omega)
        replace hb89 := hb89.upd1 hU101 (by omega)
        replace HU := HU.trans1 hU101 (by show (False) ∨ w.heap.size ≤ B100; omega)
        replace hb97 := hb97.upd1 hU101 (by omega)
        refine Wl_nil ?_
        refine W_seq ?_
        refine W_seq ?_
        refine W_region ?_
        refine Wl_v (r_mv (v := .func (.func 40) #[] #[.pointer (some ⟨B88, 0, none⟩)]) rfl) ?_
        refine Wl_nil ?_
        refine W_block ?_
        refine W_range (gf := 40) (ar := fun y => #[y, .pointer (some ⟨B88, 0, none⟩)]) rfl Try.call40 (fun y => by simp) ?_
        intro D102 fn102 w102 hD102 hU102 hzz102 hdf102 hrc1020
        have hzw102 := hU102.size
        replace hdf93 := hdf93.upd0 hU102
        replace hb91 := hb91.upd0 hU102
        replace hb1 := hb1.upd0 hU102
        replace hb2 := hb2.upd0 hU102
        replace hb84 := hb84.upd0 hU102
        replace hb85 := hb85.upd0 hU102
        replace hB88 := hB88.upd0 hU102
        replace hb89 := hb89.upd0 hU102
        replace HU := HU.trans0 hU102
        replace hb97 := hb97.upd0 hU102
        replace hb100 := hb100.upd0 hU102
        obtain ⟨r102, hr102, hrc102⟩ : ∃ r, r = _ ∧ Rec w102 (D102 + 1) r := ⟨_, rfl, hrc1020⟩
        clear hrc1020
        obtain ⟨J102, hJ102⟩ : ∃ J : Nat → World → Prop, ∀ i w', J i w' ↔ (Rec w' (D102 + 1) r102 ∧ Dfr w' D102 ∧ Blk w' B100 [.int .i64 0] ∧ Dfr w' D93 ∧ Blk w' B91 [.int .i64 0] ∧ Blk w' B1 [.int .i64 many] ∧ Blk w' B2 [.bool false] ∧ Blk w' B84 [.slice none 0 0] ∧ Blk w' B85 [.slice none 0 0] ∧ Blk w' B88 [.pointer none] ∧ Blk w' B89 [.int .i64 0] ∧ Blk w' B97 [.int .i64 1] ∧ Upd No w w') := ⟨_, fun _ _ => Iff.rfl⟩
        obtain ⟨Jx102, hJx102⟩ : ∃ Jx : World → Prop, ∀ w', Jx w' ↔ (False) := ⟨_, fun _ => Iff.rfl⟩
        refine (runs1_emp (J := J102) (Jx := Jx102) w102 (runs1_nil w102 hB88) ?_ ?_ ?_).mono ?_
        · exact (hJ102 _ _).2 ⟨hrc102, hdf102, hb100, hdf93, hb91, hb1, hb2, hb84, hb85, hB88, hb89, hb97, HU⟩
        · intro i wa wb hh hUs
          obtain ⟨hrc102, hdf102, hb100, hdf93, hb91, hb1, hb2, hb84, hb85, hB88, hb89, hb97, HU⟩ := (hJ102 _ _).1 hh
          replace hrc102 := hrc102.upd0 hUs
          replace hdf102 := hdf102.upd0 hUs
          replace hb100 := hb100.upd0 hUs
          replace hdf93 := hdf93.upd0 hUs
          replace hb91 := hb91.upd0 hUs
          replace hb1 := hb1.upd0 hUs
          replace hb2 := hb2.upd0 hUs
          replace hb84 := hb84.upd0 hUs
          replace hb85 := hb85.upd0 hUs
          replace hB88 := hB88.upd0 hUs
          replace hb89 := hb89.upd0 hUs
          replace hb97 := hb97.upd0 hUs
          replace HU := HU.trans0 hUs
          exact (hJ102 _ _).2 ⟨hrc102, hdf102, hb100, hdf93, hb91, hb1, hb2, hb84, hb85, hB88, hb89, hb97, HU⟩
        · intro i103 w103 hi103 hh
          obtain ⟨hrc102, hdf102, hb100, hdf93, hb91, hb1, hb2, hb84, hb85, hB88, hb89, hb97, HU⟩ := (hJ102 _ _).1 hh
          have hrl102 := hrc102.lt
          omega
        rintro e w104 ⟨v, rfl, hh | hh⟩
        · obtain ⟨hrc102, hdf102, hb100, hdf93, hb91, hb1, hb2, hb84, hb85, hB88, hb89, hb97, HU⟩ := (hJ102 _ _).1 hh
          have hrl102 := hrc102.lt
          refine ⟨r102, hrc102, (by rw [hr102]; simp), ?_⟩
          intro w105 hU105 hzz105
          have hzw105 := hU105.size
          replace hdf102 := hdf102.upd1 hU105 (by omega)
          replace hb100 := hb100.upd1 hU105 (by omega)
          replace hdf93 := hdf93.upd1 hU105 (by omega)
          replace hb91 := hb91.upd1 hU105 (by omega)
          replace hb1 := hb1.upd1 hU105 (by omega)
          replace hb2 := hb2.upd1 hU105 (by omega)
          replace hb84 := hb84.upd1 hU105 (by omega)
          replace hb85 := hb85.upd1 hU105 (by omega)
          replace hB88 := hB88.upd1 hU105 (by omega)
          replace hb89 := hb89.upd1 hU105 (by omega)
          replace hb97 := hb97.upd1 hU105 (by omega)
          replace HU := HU.trans1 hU105 (by show (False) ∨ w.heap.size ≤ (D102 + 1); omega)
          rw [hr102]
          refine W_seq ?_
          refine W_region ?_
          refine Wl_load (v := .int .i64 1) Try.isAgg3 rfl hb97 rfl ?_
          refine Wl_v (v := .bool false) (r_eq (a := 1) (b := 0) rfl rfl) ?_
          refine Wl_v (r_mv (v := .bool false) rfl) ?_
          refine Wl_guard_f rfl ?_
          refine Wl_guard_f rfl ?_
          refine Wl_guard_f rfl ?_
          refine Wl_guard_f rfl ?_
          refine Wl_guard_f rfl ?_
          refine Wl_guard_f rfl ?_
          refine Wl_guard_f rfl ?_
          refine Wl_v (r_pick_f (v := .bool false) rfl rfl) ?_
          refine Wl_v (r_mv (v := .bool false) rfl) ?_
          refine Wl_guard_t rfl ?_
          refine Wl_load (v := .int .i64 1) Try.isAgg3 rfl hb97 rfl ?_
          refine Wl_guard_t rfl ?_
          refine Wl_v (v := .bool true) (r_eq (a := 1) (b := 1) rfl rfl) ?_
          refine Wl_guard_t rfl ?_
          refine Wl_v (r_mv (v := .bool true) rfl) ?_
          refine Wl_guard_t rfl ?_
          refine Wl_load (v := .int .i64 0) Try.isAgg3 rfl hb100 rfl ?_
          refine Wl_guard_t rfl ?_
          refine Wl_load (v := .slice none 0 0) Try.isAgg24 rfl hb85 rfl ?_
          refine Wl_guard_t rfl ?_
          refine Wl_v (r_len Try.underlying24 rfl) ?_
          refine Wl_guard_t rfl ?_
          refine Wl_v (v := .bool false) (r_ne (a := 0) (b := 0) rfl rfl) ?_
          refine Wl_guard_t rfl ?_
          refine Wl_v (r_pick_t (v := .bool false) rfl rfl) ?_
          refine Wl_v (r_pick_f (v := .bool false) rfl rfl) ?_
          refine Wl_nil ?_
          refine W_cond_f rfl ?_
          refine W_skip ?_
          refine W_seq ?_
          refine W_seq ?_
          refine W_region ?_
          refine Wl_load (v := .int .i64 1) Try.isAgg3 rfl hb97 rfl ?_
          refine Wl_nil ?_
          refine W_region ?_
          refine Wl_alloc (cs := [.int .i64 0]) Try.zeroValue3 rfl ?_
          intro B106 w106 hB106 hU106 hzz106 hb106
          have hzw106 := hU106.size
          replace hdf102 := hdf102.upd0 hU106
          replace hb100 := hb100.upd0 hU106
          replace hdf93 := hdf93.upd0 hU106
          replace hb91 := hb91.upd0 hU106
          replace hb1 := hb1.upd0 hU106
          replace hb2 := hb2.upd0 hU106
          replace hb84 := hb84.upd0 hU106
          replace hb85 := hb85.upd0 hU106
          replace hB88 := hB88.upd0 hU106
          replace hb89 := hb89.upd0 hU106
          replace hb97 := hb97.upd0 hU106
          replace HU := HU.trans0 hU106
          refine Wl_store (v := .int .i64 1) (cs' := [.int .i64 1]) Try.sizeOf3 rfl rfl rfl rfl hb106 rfl rfl ?_
          intro w107 hU107 hzz107 hb106n
          replace hb106 := hb106n; clear hb106n
          have hzw107 := hU107.size
          replace hdf102 := hdf102.upd1 hU107 (by omega)
          replace hb100 := hb100.upd1 hU107 (by omega)
          replace hdf93 := hdf93.upd1 hU107 (by omega)
          replace hb91 := hb91.upd1 hU107 (by omega)
          replace hb1 := hb1.upd1 hU107 (by omega)
          replace hb2 := hb2.upd1 hU107 (by omega)
          replace hb84 := hb84.upd1 hU107 (by omega)
          replace hb85 := hb85.upd1 hU107 (by omega)
          replace hB88 := hB88.upd1 hU107 (by omega)
          replace hb89 := hb89.upd1 hU107 (by omega)
          replace hb97 := hb97.upd1 hU107 (by omega)
          replace HU := HU.trans1 hU107 (by show (False) ∨ w.heap.size ≤ B106; omega)
          refine Wl_nil ?_
          refine W_region ?_
          refine Wl_load (v := .int .i64 1) Try.isAgg3 rfl hb106 rfl ?_
          refine Wl_v (r_add rfl rfl (show IntKind.i64.wrap (1 + 1) = 2 by decide)) ?_
          refine Wl_store (v := .int .i64 2) (cs' := [.int .i64 2]) Try.sizeOf3 rfl rfl rfl rfl hb106 rfl rfl ?_
          intro w108 hU108 hzz108 hb106n
          replace hb106 := hb106n; clear hb106n
          have hzw108 := hU108.size
          replace hdf102 := hdf102.upd1 hU108 (by omega)
          replace hb100 := hb100.upd1 hU108 (by omega)
          replace hdf93 := hdf93.upd1 hU108 (by omega)
          replace hb91 := hb91.upd1 hU108 (by omega)
          replace hb1 := hb1.upd1 hU108 (by omega)
          replace hb2 := hb2.upd1 hU108 (by omega)
          replace hb84 := hb84.upd1 hU108 (by omega)
          replace hb85 := hb85.upd1 hU108 (by omega)
          replace hB88 := hB88.upd1 hU108 (by omega)
          replace hb89 := hb89.upd1 hU108 (by omega)
          replace hb97 := hb97.upd1 hU108 (by omega)
          replace HU := HU.trans1 hU108 (by show (False) ∨ w.heap.size ≤ B106; omega)
          refine Wl_nil ?_
          refine W_seq ?_
          refine W_seq ?_
          refine W_region ?_
          refine Wl_load (v := .int .i64 2) Try.isAgg3 rfl hb106 rfl ?_
          refine Wl_v (v := .bool false) (r_lt (a := 2) (b := 2) rfl rfl) ?_
          refine Wl_nil ?_
          refine W_cond_f rfl ?_
          refine W_exit ?_
          refine W_seq ?_
          refine W_region ?_
          refine Wl_call (r_call0 rfl Try.call11 ) (works15 _ ) ?_
          rintro v w109 ⟨rfl, hU109⟩
          have hzw109 := hU109.size
          replace hdf102 := hdf102.upd0 hU109
          replace hb100 := hb100.upd0 hU109
          replace hdf93 := hdf93.upd0 hU109
          replace hb91 := hb91.upd0 hU109
          replace hb1 := hb1.upd0 hU109
          replace hb2 := hb2.upd0 hU109
          replace hb84 := hb84.upd0 hU109
          replace hb85 := hb85.upd0 hU109
          replace hB88 := hB88.upd0 hU109
          replace hb89 := hb89.upd0 hU109
          replace hb97 := hb97.upd0 hU109
          replace HU := HU.trans0 hU109
          replace hb106 := hb106.upd0 hU109
          refine Wl_store (v := .bool true) (cs' := [.bool true]) Try.sizeOf4 rfl rfl rfl rfl hb2 rfl rfl ?_
          intro w110 hU110 hzz110 hb2n
          replace hb2 := hb2n; clear hb2n
          have hzw110 := hU110.size
          replace hdf102 := hdf102.upd1 hU110 (by omega)
          replace hb100 := hb100.upd1 hU110 (by omega)
          replace hdf93 := hdf93.upd1 hU110 (by omega)
          replace hb91 := hb91.upd1 hU110 (by omega)
          replace hb1 := hb1.upd1 hU110 (by omega)
          replace hb84 := hb84.upd1 hU110 (by omega)
          replace hb85 := hb85.upd1 hU110 (by omega)
          replace hB88 := hB88.upd1 hU110 (by omega)
          replace hb89 := hb89.upd1 hU110 (by omega)
          replace hb97 := hb97.upd1 hU110 (by omega)
          replace HU := HU.trans1 hU110 (by show (False) ∨ w.heap.size ≤ B2; omega)
          replace hb106 := hb106.upd1 hU110 (by omega)
          refine Wl_nil ?_
          refine W_ret ?_
          refine ret_ds rfl ?_
          refine lv_mark (by simp) hdf102 ?_
          intro w111 hU111 hzz111
          have hzw111 := hU111.size
          replace hb100 := hb100.upd1 hU111 (by omega)
          replace hdf93 := hdf93.upd1 hU111 (by omega)
          replace hb91 := hb91.upd1 hU111 (by omega)
          replace hb1 := hb1.upd1 hU111 (by omega)
          replace hb2 := hb2.upd1 hU111 (by omega)
          replace hb84 := hb84.upd1 hU111 (by omega)
          replace hb85 := hb85.upd1 hU111 (by omega)
          replace hB88 := hB88.upd1 hU111 (by omega)
          replace hb89 := hb89.upd1 hU111 (by omega)
          replace hb97 := hb97.upd1 hU111 (by omega)
          replace HU := HU.trans1 hU111 (by show (False) ∨ w.heap.size ≤ D102; omega)
          replace hb106 := hb106.upd1 hU111 (by omega)
          refine lv_mark (by simp) hdf93 ?_
          intro w112 hU112 hzz112
          have hzw112 := hU112.size
          replace hb100 := hb100.upd1 hU112 (by omega)
          replace hb91 := hb91.upd1 hU112 (by omega)
          replace hb1 := hb1.upd1 hU112 (by omega)
          replace hb2 := hb2.upd1 hU112 (by omega)
          replace hb84 := hb84.upd1 hU112 (by omega)
          replace hb85 := hb85.upd1 hU112 (by omega)
          replace hB88 := hB88.upd1 hU112 (by omega)
          replace hb89 := hb89.upd1 hU112 (by omega)
          replace hb97 := hb97.upd1 hU112 (by omega)
          replace HU := HU.trans1 hU112 (by show (False) ∨ w.heap.size ≤ D93; omega)
          replace hb106 := hb106.upd1 hU112 (by omega)
          refine lv_nil (v := .bool true) (rc1 Try.results7 rfl (cellIs Try.isAgg4 hb2)) ?_
          exact ⟨_, rfl, rfl, HU⟩
        · exact ((hJx102 _).1 hh).elim
      · exact ((hJx93 _).1 hh).elim

end Go.Proofs.Ytkgjdcjpnfjofaa
