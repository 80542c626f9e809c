/-
  Walks, printed by a small program of this project (gen.py).
-/
import Derived.Test.YtakbopikohghmaaXd
set_option linter.unusedVariables false
set_option linter.unusedSimpArgs false
namespace Go.Proofs.Ytakbopikohghmaa
open Go.Fw

theorem sym_clo {c x : Int × Int} {Bc : Nat} (w : World) (hb : Blk w Bc [.int .i64 c.1, .int .u32 c.2]) :
    Calls Try.prog 39 #[.agg #[.int .i64 x.1, .int .u32 x.2], .pointer (some ⟨Bc, 0, none⟩)] w (Ret fun v w' => v = .bool (decide (qsym c x = true)) ∧ Upd No w w') := by
  have HU : Upd (fun b => False) w w := Upd.refl _ _
  have hbl_hb := hb.lt
  refine calls_of_W Try.func39 rfl Try.ntmps39 (by simp) ?_
  refine W_seq ?_
  refine W_region ?_
  refine Wl_box (v := .agg #[.int .i64 x.1, .int .u32 x.2]) (cs := [.int .i64 x.1, .int .u32 x.2]) rfl rfl ?_
  intro B1 w1 hB1 hU1 hzz1 hb1
  have hzw1 := hU1.size
  replace hb := hb.upd0 hU1
  replace HU := HU.trans0 hU1
  refine Wl_v (r_as (v := .bool false) rfl) ?_
  refine Wl_nil ?_
  refine W_seq ?_
  refine W_region ?_
  refine Wl_v (r_loada (b := B1) (off := 0) (cs := [.int .i64 x.1, .int .u32 x.2]) Try.isAgg37 Try.sizeOf37 rfl rfl (fun j hj => by rw [hb1.cell]; match j, hj with | 0, _ => rfl | 1, _ => rfl)) ?_
  refine Wl_v (r_loada (b := Bc) (off := 0) (cs := [.int .i64 c.1, .int .u32 c.2]) Try.isAgg37 Try.sizeOf37 rfl rfl (fun j hj => by rw [hb.cell]; match j, hj with | 0, _ => rfl | 1, _ => rfl)) ?_
  refine Wl_v (r_eqag (pp := x.1 = c.1 ∧ x.2 = c.2) Try.underlying37 (by kernel_rfl) (by kernel_rfl) rfl rfl (fun w => eqf_int (by decide) Try.underlying3 Try.isAgg3 rfl rfl (fun w => eqf_int (by decide) Try.underlying35 Try.isAgg35 rfl rfl (fun w => eqf_nil))) (by simp [Bool.decide_and])) ?_
  refine Wl_v (r_mv (v := .bool (decide (x.1 = c.1 ∧ x.2 = c.2))) rfl) ?_
  by_cases q1 : x.1 = c.1 ∧ x.2 = c.2
  · rw [decide_eq_true q1]
    refine Wl_guard_t rfl ?_
    refine Wl_v (r_fld Try.underlying37 rfl Try.sizeOf3 rfl rfl) ?_
    refine Wl_guard_t rfl ?_
    refine Wl_load (v := .int .i64 c.1) Try.isAgg3 rfl hb rfl ?_
    refine Wl_guard_t rfl ?_
    refine Wl_v (r_gt rfl rfl) ?_
    refine Wl_v (r_pick_t (v := .bool (decide (0 < c.1))) rfl rfl) ?_
    refine Wl_v (r_as (v := .bool (decide (0 < c.1))) rfl) ?_
    refine Wl_nil ?_
    refine W_ret ?_
    refine ret_end (v := .bool (decide (0 < c.1))) rfl (res1 Try.results39 rfl) ?_
    exact ⟨_, rfl, (by first | exact vbool (by unfold qsym; rw [decide_eq_true_iff, Prod.ext_iff]; omega) | exact vboolf (by unfold qsym; rw [decide_eq_true_iff, Prod.ext_iff]; omega)), HU⟩
  · rw [decide_eq_false q1]
    refine Wl_guard_f rfl ?_
    refine Wl_guard_f rfl ?_
    refine Wl_guard_f rfl ?_
    refine Wl_v (r_pick_f (v := .bool false) rfl rfl) ?_
    refine Wl_v (r_as (v := .bool false) rfl) ?_
    refine Wl_nil ?_
    refine W_ret ?_
    refine ret_end (v := .bool false) rfl (res1 Try.results39 rfl) ?_
    exact ⟨_, rfl, (by first | exact vbool (by unfold qsym; rw [decide_eq_true_iff, Prod.ext_iff]; omega) | exact vboolf (by unfold qsym; rw [decide_eq_true_iff, Prod.ext_iff]; omega)), HU⟩

theorem fidx_nil {α : Type} (q : α → Bool) : fidx q ([] : List α) = -1 := rfl

theorem symbol_spec {a : Option Addr} {n k : Nat} {l : List Int} {c : Int × Int} {R : Nat → Prop} (w : World) (hs : Sl w R 1 (.slice a n k) n (ints .i64 l)) (hn : n ≤ 17592186044415) :
    Calls Try.prog 20 #[.slice a n k, .agg #[.int .i64 c.1, .int .u32 c.2]] w (Ret fun v w' => v = .tuple #[.int .i64 (if 0 ≤ sy l c then sy l c else 0), .bool (decide (0 ≤ sy l c))] ∧ Upd No w w') := by
  have HU : Upd (fun b => False) w w := Upd.refl _ _
  have hl_hs := ilen hs
  have hc_hs := hs.cap.1
  replace hs := hs.tight
  refine calls_of_W Try.func20 rfl Try.ntmps20 (by simp) ?_
  refine W_seq ?_
  refine W_region ?_
  refine Wl_box (v := .agg #[.int .i64 c.1, .int .u32 c.2]) (cs := [.int .i64 c.1, .int .u32 c.2]) rfl rfl ?_
  intro B1 w1 hB1 hU1 hzz1 hb1
  have hzw1 := hU1.size
  replace hs := hs.upd0 hU1
  replace HU := HU.trans0 hU1
  refine Wl_v (r_as (v := .int .i64 0) rfl) ?_
  refine Wl_v (r_as (v := .bool false) rfl) ?_
  refine Wl_nil ?_
  refine W_seq ?_
  refine W_region ?_
  refine Wl_v (r_mv (v := .slice a n k) rfl) ?_
  by_cases q1 : Rt l
  · refine Wl_call (r_call1 rfl Try.call16 rfl) (codes_ok _ hs (by omega) q1) ?_
    rintro v w2 ⟨a2, c2, rfl, hO2, hU2⟩
    have hzw2 := hU2.size
    replace hs := hs.upd0 hU2
    replace HU := HU.trans0 hU2
    replace hb1 := hb1.upd0 hU2
    replace hO2 := hO2.tight
    have hl_hO2 := rlen encC_len (by decide) hO2.sl
    have hc_hO2 := hO2.sl.cap.1
    refine Wl_v (r_mv (v := .tuple #[.slice a2 n c2, .int .i64 0]) rfl) ?_
    refine Wl_v (r_ext (v := .slice a2 n c2) rfl rfl) ?_
    refine Wl_v (r_ext (v := .int .i64 0) rfl rfl) ?_
    refine Wl_v (r_as (v := .slice a2 n c2) rfl) ?_
    refine Wl_v (r_as (v := .int .i64 0) rfl) ?_
    refine Wl_nil ?_
    refine W_seq ?_
    refine W_region ?_
    refine Wl_v (r_mv (v := .slice a2 n c2) rfl) ?_
    refine Wl_v (r_mkf1 (v0 := .pointer (some ⟨B1, 0, none⟩)) rfl) ?_
    refine Wl_call (r_call2 rfl Try.call38 rfl rfl) (found_spec (q := qsym c) (ar := fun y => #[y, .pointer (some ⟨B1, 0, none⟩)]) _ hO2.sl (by omega) Try.call39 (by intro x; first | rfl | (simp; rfl)) (fun i w' hi hN => sym_clo w' (hb1.upd0 hN))) ?_
    rintro v w3 ⟨rfl, hU3⟩
    have hzw3 := hU3.size
    replace hs := hs.upd0 hU3
    replace HU := HU.trans0 hU3
    replace hb1 := hb1.upd0 hU3
    replace hO2 := hO2.upd0 hU3
    refine Wl_v (r_as (v := .int .i64 (fidx (qsym c) (cds l))) rfl) ?_
    refine Wl_nil ?_
    refine W_seq ?_
    refine W_seq ?_
    refine W_region ?_
    refine Wl_v (r_mv (v := .int .i64 0) rfl) ?_
    refine Wl_v (v := .bool false) (r_ne (a := 0) (b := 0) rfl rfl) ?_
    refine Wl_v (r_mv (v := .bool false) rfl) ?_
    refine Wl_guard_t rfl ?_
    refine Wl_v (r_mv (v := .int .i64 (fidx (qsym c) (cds l))) rfl) ?_
    refine Wl_guard_t rfl ?_
    refine Wl_v (r_lt rfl rfl) ?_
    refine Wl_v (r_pick_f (v := .bool (decide ((fidx (qsym c) (cds l)) < 0))) rfl rfl) ?_
    refine Wl_nil ?_
    by_cases q2 : (fidx (qsym c) (cds l)) < 0
    · rw [decide_eq_true q2]
      refine W_cond_t rfl ?_
      refine W_seq ?_
      refine W_region ?_
      refine Wl_v (r_as (v := .int .i64 0) rfl) ?_
      refine Wl_v (r_as (v := .bool false) rfl) ?_
      refine Wl_nil ?_
      refine W_ret ?_
      refine ret_end (v := .tuple #[.int .i64 0, .bool false]) rfl (res2 Try.results20 rfl rfl) ?_
      rw [sy_t q1]
      exact ⟨_, rfl, (by first | rfl | exact vtup2 (vint (by split <;> omega)) (by first | exact vboolt (by omega) | exact vboolf (by omega))), HU⟩
    · rw [decide_eq_false q2]
      refine W_cond_f rfl ?_
      refine W_skip ?_
      refine W_seq ?_
      refine W_region ?_
      refine Wl_v (r_mv (v := .int .i64 (fidx (qsym c) (cds l))) rfl) ?_
      refine Wl_v (r_as (v := .int .i64 (fidx (qsym c) (cds l))) rfl) ?_
      refine Wl_v (r_as (v := .bool true) rfl) ?_
      refine Wl_nil ?_
      refine W_ret ?_
      refine ret_end (v := .tuple #[.int .i64 (fidx (qsym c) (cds l)), .bool true]) rfl (res2 Try.results20 rfl rfl) ?_
      rw [sy_t q1]
      exact ⟨_, rfl, (by first | rfl | exact vtup2 (vint (by split <;> omega)) (by first | exact vboolt (by omega) | exact vboolf (by omega))), HU⟩
  · refine Wl_call (r_call1 rfl Try.call16 rfl) (codes_no _ hs (by omega) q1) ?_
    rintro v w4 ⟨rfl, hU4⟩
    have hzw4 := hU4.size
    replace hs := hs.upd0 hU4
    replace HU := HU.trans0 hU4
    replace hb1 := hb1.upd0 hU4
    refine Wl_v (r_mv (v := .tuple #[.slice none 0 0, .int .i64 12]) rfl) ?_
    refine Wl_v (r_ext (v := .slice none 0 0) rfl rfl) ?_
    refine Wl_v (r_ext (v := .int .i64 12) rfl rfl) ?_
    refine Wl_v (r_as (v := .slice none 0 0) rfl) ?_
    refine Wl_v (r_as (v := .int .i64 12) rfl) ?_
    refine Wl_nil ?_
    refine W_seq ?_
    refine W_region ?_
    refine Wl_v (r_mv (v := .slice none 0 0) rfl) ?_
    refine Wl_v (r_mkf1 (v0 := .pointer (some ⟨B1, 0, none⟩)) rfl) ?_
    refine Wl_call (r_call2 rfl Try.call38 rfl rfl) (found_spec (l := []) (q := qsym c) (ar := fun y => #[y, .pointer (some ⟨B1, 0, none⟩)]) _ (Sl.nil _ No _) (by omega) Try.call39 (by intro x; first | rfl | (simp; rfl)) (fun i w' hi hN => sym_clo w' (hb1.upd0 hN))) ?_
    rintro v w5 ⟨rfl, hU5⟩
    have hzw5 := hU5.size
    replace hs := hs.upd0 hU5
    replace HU := HU.trans0 hU5
    replace hb1 := hb1.upd0 hU5
    refine Wl_v (r_as (v := .int .i64 (fidx (qsym c) [])) rfl) ?_
    refine Wl_nil ?_
    refine W_seq ?_
    refine W_seq ?_
    refine W_region ?_
    refine Wl_v (r_mv (v := .int .i64 12) rfl) ?_
    refine Wl_v (v := .bool true) (r_ne (a := 12) (b := 0) rfl rfl) ?_
    refine Wl_v (r_mv (v := .bool true) rfl) ?_
    refine Wl_guard_f rfl ?_
    refine Wl_guard_f rfl ?_
    refine Wl_v (r_pick_t (v := .bool true) rfl rfl) ?_
    refine Wl_nil ?_
    refine W_cond_t rfl ?_
    refine W_seq ?_
    refine W_region ?_
    refine Wl_v (r_as (v := .int .i64 0) rfl) ?_
    refine Wl_v (r_as (v := .bool false) rfl) ?_
    refine Wl_nil ?_
    refine W_ret ?_
    refine ret_end (v := .tuple #[.int .i64 0, .bool false]) rfl (res2 Try.results20 rfl rfl) ?_
    rw [sy_f q1]
    exact ⟨_, rfl, (by first | rfl | exact vtup2 (vint (by split <;> omega)) (by first | exact vboolt (by omega) | exact vboolf (by omega))), HU⟩

theorem dec_clr {b0 b1 : Nat} {xb0 xb1 : Value} (w : World) (hbb0 : Blk w b0 [xb0]) (hbb1 : Blk w b1 [xb1]) (hne0 : b0 ≠ b1) :
    Calls Try.prog 40 #[.pointer (some ⟨b0, 0, none⟩), .pointer (some ⟨b1, 0, none⟩)] w (Ret fun v w' => v = .tuple #[] ∧ (Blk w' b0 [.int .i64 0] ∧ Blk w' b1 [.int .i64 0]) ∧ Upd (fun g => g = b0 ∨ g = b1) w w') := by
  have HU : Upd (fun b => b = b0 ∨ b = b1) w w := Upd.refl _ _
  have hlb0 := hbb0.lt
  have hlb1 := hbb1.lt
  refine calls_of_W Try.func40 rfl Try.ntmps40 (by simp) ?_
  refine W_region ?_
  refine Wl_store (v := .int .i64 0) (cs' := [.int .i64 0]) Try.sizeOf3 rfl rfl rfl rfl hbb0 rfl rfl ?_
  intro w1 hU1 hzz1 hbb0n
  replace hbb0 := hbb0n; clear hbb0n
  have hzw1 := hU1.size
  replace hbb1 := hbb1.upd1 hU1 (by omega)
  replace HU := HU.trans1 hU1 (by show (b0 = b0 ∨ b0 = b1) ∨ w.heap.size ≤ b0; omega)
  refine Wl_store (v := .int .i64 0) (cs' := [.int .i64 0]) Try.sizeOf3 rfl rfl rfl rfl hbb1 rfl rfl ?_
  intro w2 hU2 hzz2 hbb1n
  replace hbb1 := hbb1n; clear hbb1n
  have hzw2 := hU2.size
  replace hbb0 := hbb0.upd1 hU2 (by omega)
  replace HU := HU.trans1 hU2 (by show (b1 = b0 ∨ b1 = b1) ∨ w.heap.size ≤ b1; omega)
  refine Wl_nil ?_
  refine nrm_end (v := .tuple #[]) rfl (res0 Try.results40) ?_
  exact ⟨_, rfl, rfl, ⟨hbb0, hbb1⟩, HU⟩

theorem dec_clo {x : Int × Int} {Bn Bb : Nat} {bits n : Int} (w : World) (hn : Blk w Bn [.int .i64 n]) (hb : Blk w Bb [.int .u64 bits]) (hx : 0 ≤ x.2 ∧ x.2 < 4294967296) (hn64 : n ≤ 64) :
    Calls Try.prog 42 #[.agg #[.int .i64 x.1, .int .u32 x.2], .pointer (some ⟨Bn, 0, none⟩), .pointer (some ⟨Bb, 0, none⟩)] w (Ret fun v w' => v = .bool (decide (qrd bits n x = true)) ∧ Upd No w w') := by
  have HU : Upd (fun b => False) w w := Upd.refl _ _
  have hbl_hn := hn.lt
  have hbl_hb := hb.lt
  refine calls_of_W Try.func42 rfl Try.ntmps42 (by simp) ?_
  refine W_seq ?_
  refine W_region ?_
  refine Wl_box (v := .agg #[.int .i64 x.1, .int .u32 x.2]) (cs := [.int .i64 x.1, .int .u32 x.2]) rfl rfl ?_
  intro B1 w1 hB1 hU1 hzz1 hb1
  have hzw1 := hU1.size
  replace hn := hn.upd0 hU1
  replace hb := hb.upd0 hU1
  replace HU := HU.trans0 hU1
  refine Wl_v (r_as (v := .bool false) rfl) ?_
  refine Wl_nil ?_
  refine W_seq ?_
  refine W_drawt rfl (l0 := #[false, false, false, false, false, false, false, false, false, false, false, false, false, false, false, false, false, false, false, false, false, false]) (by kernel_rfl) ?_
  refine Wt_take (i := 0) (listed' := #[true, false, false, false, false, false, false, false, false, false, false, false, false, false, false, false, false, false, false, false, false, false]) (by kernel_rfl) rfl (by kernel_rfl) (by kernel_rfl) (by kernel_rfl) (by kernel_rfl) (YI_v (v := .pointer (some ⟨B1, 0, none⟩)) rfl (fun w' hw' => r_fld Try.underlying37 rfl Try.sizeOf3 rfl rfl)) ?_
  refine Wt_take (i := 1) (listed' := #[true, true, false, false, false, false, false, false, false, false, false, false, false, false, false, false, false, false, false, false, false, false]) (by kernel_rfl) rfl (by kernel_rfl) (by kernel_rfl) (by kernel_rfl) (by kernel_rfl) (YI_v (v := .int .i64 x.1) rfl (fun w' hw' => r_load Try.isAgg3 rfl (by rw [(hb1.upd0 hw').cell]; rfl))) ?_
  refine Wt_take (i := 2) (listed' := #[true, true, true, false, false, false, false, false, false, false, false, false, false, false, false, false, false, false, false, false, false, false]) (by kernel_rfl) rfl (by kernel_rfl) (by kernel_rfl) (by kernel_rfl) (by kernel_rfl) (YI_v (v := .bool (decide (0 < x.1))) rfl (fun w' hw' => r_gt rfl rfl)) ?_
  refine Wt_take (i := 3) (listed' := #[true, true, true, true, false, false, false, false, false, false, false, false, false, false, false, false, false, false, false, false, false, false]) (by kernel_rfl) rfl (by kernel_rfl) (by kernel_rfl) (by kernel_rfl) (by kernel_rfl) (YI_v (v := .bool (decide (0 < x.1))) rfl (fun w' hw' => r_mv (v := .bool (decide (0 < x.1))) rfl)) ?_
  by_cases q1 : 0 < x.1
  · rw [decide_eq_true q1]
    refine Wt_take (i := 4) (listed' := #[true, true, true, true, true, false, false, false, false, false, false, false, false, false, false, false, false, false, false, false, false, false]) (by kernel_rfl) rfl (by kernel_rfl) (by kernel_rfl) (by kernel_rfl) (by kernel_rfl) (YI_v (v := .pointer (some ⟨B1, 0, none⟩)) rfl (fun w' hw' => r_fld Try.underlying37 rfl Try.sizeOf3 rfl rfl)) ?_
    refine Wt_take (i := 5) (listed' := #[true, true, true, true, true, true, false, false, false, false, false, false, false, false, false, false, false, false, false, false, false, false]) (by kernel_rfl) rfl (by kernel_rfl) (by kernel_rfl) (by kernel_rfl) (by kernel_rfl) (YI_v (v := .int .i64 x.1) rfl (fun w' hw' => r_load Try.isAgg3 rfl (by rw [(hb1.upd0 hw').cell]; rfl))) ?_
    refine Wt_take (i := 6) (listed' := #[true, true, true, true, true, true, true, false, false, false, false, false, false, false, false, false, false, false, false, false, false, false]) (by kernel_rfl) rfl (by kernel_rfl) (by kernel_rfl) (by kernel_rfl) (by kernel_rfl) (YI_v (v := .int .i64 n) rfl (fun w' hw' => r_load Try.isAgg3 rfl (by rw [(hn.upd0 hw').cell]; rfl))) ?_
    refine Wt_take (i := 7) (listed' := #[true, true, true, true, true, true, true, true, false, false, false, false, false, false, false, false, false, false, false, false, false, false]) (by kernel_rfl) rfl (by kernel_rfl) (by kernel_rfl) (by kernel_rfl) (by kernel_rfl) (YI_v (v := .bool (decide (x.1 ≤ n))) rfl (fun w' hw' => r_le rfl rfl)) ?_
    refine Wt_take (i := 8) (listed' := #[true, true, true, true, true, true, true, true, true, false, false, false, false, false, false, false, false, false, false, false, false, false]) (by kernel_rfl) rfl (by kernel_rfl) (by kernel_rfl) (by kernel_rfl) (by kernel_rfl) (YI_v rfl (fun w' hw' => r_pick_t (v := .bool (decide (x.1 ≤ n))) rfl rfl)) ?_
    refine Wt_take (i := 9) (listed' := #[true, true, true, true, true, true, true, true, true, true, false, false, false, false, false, false, false, false, false, false, false, false]) (by kernel_rfl) rfl (by kernel_rfl) (by kernel_rfl) (by kernel_rfl) (by kernel_rfl) (YI_v (v := .bool (decide (x.1 ≤ n))) rfl (fun w' hw' => r_mv (v := .bool (decide (x.1 ≤ n))) rfl)) ?_
    by_cases q2 : x.1 ≤ n
    · rw [decide_eq_true q2]
      refine Wt_take (i := 10) (listed' := #[true, true, true, true, true, true, true, true, true, true, true, false, false, false, false, false, false, false, false, false, false, false]) (by kernel_rfl) rfl (by kernel_rfl) (by kernel_rfl) (by kernel_rfl) (by kernel_rfl) (YI_v (v := .int .u64 bits) rfl (fun w' hw' => r_load Try.isAgg41 rfl (by rw [(hb.upd0 hw').cell]; rfl))) ?_
      refine Wt_take (i := 11) (listed' := #[true, true, true, true, true, true, true, true, true, true, true, true, false, false, false, false, false, false, false, false, false, false]) (by kernel_rfl) rfl (by kernel_rfl) (by kernel_rfl) (by kernel_rfl) (by kernel_rfl) (YI_v (v := .int .i64 n) rfl (fun w' hw' => r_load Try.isAgg3 rfl (by rw [(hn.upd0 hw').cell]; rfl))) ?_
      refine Wt_take (i := 12) (listed' := #[true, true, true, true, true, true, true, true, true, true, true, true, true, false, false, false, false, false, false, false, false, false]) (by kernel_rfl) rfl (by kernel_rfl) (by kernel_rfl) (by kernel_rfl) (by kernel_rfl) (YI_v (v := .pointer (some ⟨B1, 0, none⟩)) rfl (fun w' hw' => r_fld Try.underlying37 rfl Try.sizeOf3 rfl rfl)) ?_
      refine Wt_take (i := 13) (listed' := #[true, true, true, true, true, true, true, true, true, true, true, true, true, true, false, false, false, false, false, false, false, false]) (by kernel_rfl) rfl (by kernel_rfl) (by kernel_rfl) (by kernel_rfl) (by kernel_rfl) (YI_v (v := .int .i64 x.1) rfl (fun w' hw' => r_load Try.isAgg3 rfl (by rw [(hb1.upd0 hw').cell]; rfl))) ?_
      refine Wt_take (i := 14) (listed' := #[true, true, true, true, true, true, true, true, true, true, true, true, true, true, true, false, false, false, false, false, false, false]) (by kernel_rfl) rfl (by kernel_rfl) (by kernel_rfl) (by kernel_rfl) (by kernel_rfl) (YI_v (v := .int .i64 (n - x.1)) rfl (fun w' hw' => r_sub rfl rfl (wi64 (by omega) (by omega)))) ?_
      refine Wt_take (i := 15) (listed' := #[true, true, true, true, true, true, true, true, true, true, true, true, true, true, true, true, false, false, false, false, false, false]) (by kernel_rfl) rfl (by kernel_rfl) (by kernel_rfl) (by kernel_rfl) (by kernel_rfl) (YI_v (v := .int .u64 (bits / 2 ^ (min (n - x.1).toNat IntKind.u64.bits))) rfl (fun w' hw' => r_shr rfl rfl (by omega) rfl)) ?_
      refine Wt_take (i := 16) (listed' := #[true, true, true, true, true, true, true, true, true, true, true, true, true, true, true, true, true, false, false, false, false, false]) (by kernel_rfl) rfl (by kernel_rfl) (by kernel_rfl) (by kernel_rfl) (by kernel_rfl) (YI_v (v := .pointer (some ⟨B1, 1, none⟩)) rfl (fun w' hw' => r_fld Try.underlying37 rfl Try.sizeOf35 rfl rfl)) ?_
      refine Wt_take (i := 17) (listed' := #[true, true, true, true, true, true, true, true, true, true, true, true, true, true, true, true, true, true, false, false, false, false]) (by kernel_rfl) rfl (by kernel_rfl) (by kernel_rfl) (by kernel_rfl) (by kernel_rfl) (YI_v (v := .int .u32 x.2) rfl (fun w' hw' => r_load Try.isAgg35 rfl (by rw [(hb1.upd0 hw').cell]; rfl))) ?_
      refine Wt_take (i := 18) (listed' := #[true, true, true, true, true, true, true, true, true, true, true, true, true, true, true, true, true, true, true, false, false, false]) (by kernel_rfl) rfl (by kernel_rfl) (by kernel_rfl) (by kernel_rfl) (by kernel_rfl) (YI_v (v := .int .u64 x.2) rfl (fun w' hw' => r_cvt Try.underlying35 Try.underlying41 rfl (wu64 (by omega) (by omega)))) ?_
      refine Wt_take (i := 19) (listed' := #[true, true, true, true, true, true, true, true, true, true, true, true, true, true, true, true, true, true, true, true, false, false]) (by kernel_rfl) rfl (by kernel_rfl) (by kernel_rfl) (by kernel_rfl) (by kernel_rfl) (YI_v (v := .bool (decide ((bits / 2 ^ (min (n - x.1).toNat IntKind.u64.bits)) = x.2))) rfl (fun w' hw' => r_eq rfl rfl)) ?_
      refine Wt_take (i := 20) (listed' := #[true, true, true, true, true, true, true, true, true, true, true, true, true, true, true, true, true, true, true, true, true, false]) (by kernel_rfl) rfl (by kernel_rfl) (by kernel_rfl) (by kernel_rfl) (by kernel_rfl) (YI_v rfl (fun w' hw' => r_pick_t (v := .bool (decide ((bits / 2 ^ (min (n - x.1).toNat IntKind.u64.bits)) = x.2))) rfl rfl)) ?_
      refine Wt_take (i := 21) (listed' := #[true, true, true, true, true, true, true, true, true, true, true, true, true, true, true, true, true, true, true, true, true, true]) (by kernel_rfl) rfl (by kernel_rfl) (by kernel_rfl) (by kernel_rfl) (by kernel_rfl) (YI_v (v := .bool (decide ((bits / 2 ^ (min (n - x.1).toNat IntKind.u64.bits)) = x.2))) rfl (fun w' hw' => r_as (v := .bool (decide ((bits / 2 ^ (min (n - x.1).toNat IntKind.u64.bits)) = x.2))) rfl)) ?_
      intro w2 hU2
      have hzw2 := hU2.size
      replace hn := hn.upd0 hU2
      replace hb := hb.upd0 hU2
      replace HU := HU.trans0 hU2
      replace hb1 := hb1.upd0 hU2
      refine Wa_done (by kernel_rfl) ?_
      refine W_ret ?_
      refine ret_end (v := .bool (decide ((bits / 2 ^ (min (n - x.1).toNat IntKind.u64.bits)) = x.2))) rfl (res1 Try.results42 rfl) ?_
      exact ⟨_, rfl, (by first | exact vbool (by unfold qrd; rw [decide_eq_true_iff]; exact ⟨fun h => ⟨by omega, by omega, h⟩, fun h => h.2.2⟩) | exact vboolf (by unfold qrd; rw [decide_eq_true_iff]; omega)), HU⟩
    · rw [decide_eq_false q2]
      refine Wt_take (i := 10) (listed' := #[true, true, true, true, true, true, true, true, true, true, true, false, false, false, false, false, false, false, false, false, false, false]) (by kernel_rfl) rfl (by kernel_rfl) (by kernel_rfl) (by kernel_rfl) (by kernel_rfl) (YI_no rfl) ?_
      refine Wt_take (i := 11) (listed' := #[true, true, true, true, true, true, true, true, true, true, true, true, false, false, false, false, false, false, false, false, false, false]) (by kernel_rfl) rfl (by kernel_rfl) (by kernel_rfl) (by kernel_rfl) (by kernel_rfl) (YI_no rfl) ?_
      refine Wt_take (i := 12) (listed' := #[true, true, true, true, true, true, true, true, true, true, true, true, true, false, false, false, false, false, false, false, false, false]) (by kernel_rfl) rfl (by kernel_rfl) (by kernel_rfl) (by kernel_rfl) (by kernel_rfl) (YI_no rfl) ?_
      refine Wt_take (i := 13) (listed' := #[true, true, true, true, true, true, true, true, true, true, true, true, true, true, false, false, false, false, false, false, false, false]) (by kernel_rfl) rfl (by kernel_rfl) (by kernel_rfl) (by kernel_rfl) (by kernel_rfl) (YI_no rfl) ?_
      refine Wt_take (i := 14) (listed' := #[true, true, true, true, true, true, true, true, true, true, true, true, true, true, true, false, false, false, false, false, false, false]) (by kernel_rfl) rfl (by kernel_rfl) (by kernel_rfl) (by kernel_rfl) (by kernel_rfl) (YI_no rfl) ?_
      refine Wt_take (i := 15) (listed' := #[true, true, true, true, true, true, true, true, true, true, true, true, true, true, true, true, false, false, false, false, false, false]) (by kernel_rfl) rfl (by kernel_rfl) (by kernel_rfl) (by kernel_rfl) (by kernel_rfl) (YI_no rfl) ?_
      refine Wt_take (i := 16) (listed' := #[true, true, true, true, true, true, true, true, true, true, true, true, true, true, true, true, true, false, false, false, false, false]) (by kernel_rfl) rfl (by kernel_rfl) (by kernel_rfl) (by kernel_rfl) (by kernel_rfl) (YI_no rfl) ?_
      refine Wt_take (i := 17) (listed' := #[true, true, true, true, true, true, true, true, true, true, true, true, true, true, true, true, true, true, false, false, false, false]) (by kernel_rfl) rfl (by kernel_rfl) (by kernel_rfl) (by kernel_rfl) (by kernel_rfl) (YI_no rfl) ?_
      refine Wt_take (i := 18) (listed' := #[true, true, true, true, true, true, true, true, true, true, true, true, true, true, true, true, true, true, true, false, false, false]) (by kernel_rfl) rfl (by kernel_rfl) (by kernel_rfl) (by kernel_rfl) (by kernel_rfl) (YI_no rfl) ?_
      refine Wt_take (i := 19) (listed' := #[true, true, true, true, true, true, true, true, true, true, true, true, true, true, true, true, true, true, true, true, false, false]) (by kernel_rfl) rfl (by kernel_rfl) (by kernel_rfl) (by kernel_rfl) (by kernel_rfl) (YI_no rfl) ?_
      refine Wt_take (i := 20) (listed' := #[true, true, true, true, true, true, true, true, true, true, true, true, true, true, true, true, true, true, true, true, true, false]) (by kernel_rfl) rfl (by kernel_rfl) (by kernel_rfl) (by kernel_rfl) (by kernel_rfl) (YI_v rfl (fun w' hw' => r_pick_f (v := .bool false) rfl rfl)) ?_
      refine Wt_take (i := 21) (listed' := #[true, true, true, true, true, true, true, true, true, true, true, true, true, true, true, true, true, true, true, true, true, true]) (by kernel_rfl) rfl (by kernel_rfl) (by kernel_rfl) (by kernel_rfl) (by kernel_rfl) (YI_v (v := .bool false) rfl (fun w' hw' => r_as (v := .bool false) rfl)) ?_
      intro w3 hU3
      have hzw3 := hU3.size
      replace hn := hn.upd0 hU3
      replace hb := hb.upd0 hU3
      replace HU := HU.trans0 hU3
      replace hb1 := hb1.upd0 hU3
      refine Wa_done (by kernel_rfl) ?_
      refine W_ret ?_
      refine ret_end (v := .bool false) rfl (res1 Try.results42 rfl) ?_
      exact ⟨_, rfl, (by first | exact vbool (by unfold qrd; rw [decide_eq_true_iff]; exact ⟨fun h => ⟨by omega, by omega, h⟩, fun h => h.2.2⟩) | exact vboolf (by unfold qrd; rw [decide_eq_true_iff]; omega)), HU⟩
  · rw [decide_eq_false q1]
    refine Wt_take (i := 4) (listed' := #[true, true, true, true, true, false, false, false, false, false, false, false, false, false, false, false, false, false, false, false, false, false]) (by kernel_rfl) rfl (by kernel_rfl) (by kernel_rfl) (by kernel_rfl) (by kernel_rfl) (YI_no rfl) ?_
    refine Wt_take (i := 5) (listed' := #[true, true, true, true, true, true, false, false, false, false, false, false, false, false, false, false, false, false, false, false, false, false]) (by kernel_rfl) rfl (by kernel_rfl) (by kernel_rfl) (by kernel_rfl) (by kernel_rfl) (YI_no rfl) ?_
    refine Wt_take (i := 6) (listed' := #[true, true, true, true, true, true, true, false, false, false, false, false, false, false, false, false, false, false, false, false, false, false]) (by kernel_rfl) rfl (by kernel_rfl) (by kernel_rfl) (by kernel_rfl) (by kernel_rfl) (YI_no rfl) ?_
    refine Wt_take (i := 7) (listed' := #[true, true, true, true, true, true, true, true, false, false, false, false, false, false, false, false, false, false, false, false, false, false]) (by kernel_rfl) rfl (by kernel_rfl) (by kernel_rfl) (by kernel_rfl) (by kernel_rfl) (YI_no rfl) ?_
    refine Wt_take (i := 8) (listed' := #[true, true, true, true, true, true, true, true, true, false, false, false, false, false, false, false, false, false, false, false, false, false]) (by kernel_rfl) rfl (by kernel_rfl) (by kernel_rfl) (by kernel_rfl) (by kernel_rfl) (YI_v rfl (fun w' hw' => r_pick_f (v := .bool false) rfl rfl)) ?_
    refine Wt_take (i := 9) (listed' := #[true, true, true, true, true, true, true, true, true, true, false, false, false, false, false, false, false, false, false, false, false, false]) (by kernel_rfl) rfl (by kernel_rfl) (by kernel_rfl) (by kernel_rfl) (by kernel_rfl) (YI_v (v := .bool false) rfl (fun w' hw' => r_mv (v := .bool false) rfl)) ?_
    refine Wt_take (i := 10) (listed' := #[true, true, true, true, true, true, true, true, true, true, true, false, false, false, false, false, false, false, false, false, false, false]) (by kernel_rfl) rfl (by kernel_rfl) (by kernel_rfl) (by kernel_rfl) (by kernel_rfl) (YI_no rfl) ?_
    refine Wt_take (i := 11) (listed' := #[true, true, true, true, true, true, true, true, true, true, true, true, false, false, false, false, false, false, false, false, false, false]) (by kernel_rfl) rfl (by kernel_rfl) (by kernel_rfl) (by kernel_rfl) (by kernel_rfl) (YI_no rfl) ?_
    refine Wt_take (i := 12) (listed' := #[true, true, true, true, true, true, true, true, true, true, true, true, true, false, false, false, false, false, false, false, false, false]) (by kernel_rfl) rfl (by kernel_rfl) (by kernel_rfl) (by kernel_rfl) (by kernel_rfl) (YI_no rfl) ?_
    refine Wt_take (i := 13) (listed' := #[true, true, true, true, true, true, true, true, true, true, true, true, true, true, false, false, false, false, false, false, false, false]) (by kernel_rfl) rfl (by kernel_rfl) (by kernel_rfl) (by kernel_rfl) (by kernel_rfl) (YI_no rfl) ?_
    refine Wt_take (i := 14) (listed' := #[true, true, true, true, true, true, true, true, true, true, true, true, true, true, true, false, false, false, false, false, false, false]) (by kernel_rfl) rfl (by kernel_rfl) (by kernel_rfl) (by kernel_rfl) (by kernel_rfl) (YI_no rfl) ?_
    refine Wt_take (i := 15) (listed' := #[true, true, true, true, true, true, true, true, true, true, true, true, true, true, true, true, false, false, false, false, false, false]) (by kernel_rfl) rfl (by kernel_rfl) (by kernel_rfl) (by kernel_rfl) (by kernel_rfl) (YI_no rfl) ?_
    refine Wt_take (i := 16) (listed' := #[true, true, true, true, true, true, true, true, true, true, true, true, true, true, true, true, true, false, false, false, false, false]) (by kernel_rfl) rfl (by kernel_rfl) (by kernel_rfl) (by kernel_rfl) (by kernel_rfl) (YI_no rfl) ?_
    refine Wt_take (i := 17) (listed' := #[true, true, true, true, true, true, true, true, true, true, true, true, true, true, true, true, true, true, false, false, false, false]) (by kernel_rfl) rfl (by kernel_rfl) (by kernel_rfl) (by kernel_rfl) (by kernel_rfl) (YI_no rfl) ?_
    refine Wt_take (i := 18) (listed' := #[true, true, true, true, true, true, true, true, true, true, true, true, true, true, true, true, true, true, true, false, false, false]) (by kernel_rfl) rfl (by kernel_rfl) (by kernel_rfl) (by kernel_rfl) (by kernel_rfl) (YI_no rfl) ?_
    refine Wt_take (i := 19) (listed' := #[true, true, true, true, true, true, true, true, true, true, true, true, true, true, true, true, true, true, true, true, false, false]) (by kernel_rfl) rfl (by kernel_rfl) (by kernel_rfl) (by kernel_rfl) (by kernel_rfl) (YI_no rfl) ?_
    refine Wt_take (i := 20) (listed' := #[true, true, true, true, true, true, true, true, true, true, true, true, true, true, true, true, true, true, true, true, true, false]) (by kernel_rfl) rfl (by kernel_rfl) (by kernel_rfl) (by kernel_rfl) (by kernel_rfl) (YI_v rfl (fun w' hw' => r_pick_f (v := .bool false) rfl rfl)) ?_
    refine Wt_take (i := 21) (listed' := #[true, true, true, true, true, true, true, true, true, true, true, true, true, true, true, true, true, true, true, true, true, true]) (by kernel_rfl) rfl (by kernel_rfl) (by kernel_rfl) (by kernel_rfl) (by kernel_rfl) (YI_v (v := .bool false) rfl (fun w' hw' => r_as (v := .bool false) rfl)) ?_
    intro w4 hU4
    have hzw4 := hU4.size
    replace hn := hn.upd0 hU4
    replace hb := hb.upd0 hU4
    replace HU := HU.trans0 hU4
    replace hb1 := hb1.upd0 hU4
    refine Wa_done (by kernel_rfl) ?_
    refine W_ret ?_
    refine ret_end (v := .bool false) rfl (res1 Try.results42 rfl) ?_
    exact ⟨_, rfl, (by first | exact vbool (by unfold qrd; rw [decide_eq_true_iff]; exact ⟨fun h => ⟨by omega, by omega, h⟩, fun h => h.2.2⟩) | exact vboolf (by unfold qrd; rw [decide_eq_true_iff]; omega)), HU⟩

theorem Wl_same {P : Program} {ro : Option Nat} {n : Nat} {ops : Array Oper} {Q : Post} {rest : List Oper} {ρ : Env} {ds : List Deferred} {w : World} {t : TypeId} {p : String} {e : Array Edge}
    {st : TypeId} {x y : Operand} {b i : Nat} {cs : List Value} {v : Value} {dd : Option Nat} (hsz : ∀ w, (sizeOf st).run P w = .ok 1 w) (hx : ev n ρ x = .pointer (some ⟨b, i, none⟩)) (hy : ev n ρ y = v)
    (hv : v.cells = #[v]) (h1 : v.oneCell' = true) (hb : Blk w b cs) (hi : cs[i]? = some v)
    (h : ∀ w', Upd No w w' → Wl P ro n ops Q rest (put ρ dd undef) ds w') :
    Wl P ro n ops Q (⟨dd, .store st x y, t, p, e, none⟩ :: rest) ρ ds w := by
  refine Wl_u (w' := w.setCell ⟨b, i, none⟩ v) ?_ (h _ ?_)
  · have hc : w.cell? ⟨b, i, none⟩ = some v := by rw [hb.cell]; exact hi
    have hf : w.frozen? ⟨b, i, none⟩ = false := hb.frozen i
    have hadd : (⟨b, i, none⟩ : Addr).add 0 = ⟨b, i, none⟩ := rfl
    rw [sem_op (by simp)]; simp [execOp, hx, hy, Instr.storeAt, Instr.sureAddr, storeVar, hsz, hv, storeCells, hadd, run_store P w _ v _ h1, hc, hf]
  · obtain ⟨tt, ht⟩ := hb
    refine ⟨rfl, rfl, rfl, by simp, fun g _ _ => ?_⟩
    by_cases hg : g = b
    · subst hg
      have e1 : cs.set i v = cs := by
        apply List.ext_getElem?
        intro j
        rw [List.getElem?_set]
        split
        · rename_i hij; subst hij; rw [hi]; simp [(List.getElem?_eq_some_iff.1 hi).1]
        · rfl
      simp [World.setCell, Array.getElem?_modify, ht, e1]
    · exact RowKit.Below.heap_setCell w _ v g hg
theorem cds_bd {l : List Int} (h : Rt l) (i : Nat) : 0 ≤ ((cds l).getD i (0, 0)).2 ∧ ((cds l).getD i (0, 0)).2 < 4294967296 := by
  rcases Nat.lt_or_ge i (cds l).length with h1 | h1
  · rw [cds_len] at h1
    rw [cds_get h1]
    by_cases h2 : 0 < l.getD i 0
    · have := cd_bd h h1 h2; omega
    · rw [cd_zero h2]; simp
  · rw [List.getD_eq_getElem?_getD, List.getElem?_eq_none h1]; simp
theorem fidx_lt {α : Type} (d : α) (q : α → Bool) (l : List α) : fidx q l < l.length ∧ -1 ≤ fidx q l := by
  rcases fidx_cases q l d with ⟨h, _⟩ | ⟨k, h, h2, _⟩ <;> rw [h] <;> omega

theorem decode_spec {a : Option Addr} {n c : Nat} {l : List Int} {bits m : Int} {R : Nat → Prop} (w : World) (hs : Sl w R 1 (.slice a n c) n (ints .i64 l)) (hn : n ≤ 17592186044415) (hbits : 0 ≤ bits ∧ bits < 18446744073709551616) (hm : -9223372036854775808 ≤ m ∧ m ≤ 9223372036854775807) :
    Calls Try.prog 22 #[.slice a n c, .int .u64 bits, .int .i64 m] w (Ret fun v w' => v = .tuple #[.int .i64 ((dec l bits m).1), .int .i64 ((dec l bits m).2.1), .int .i64 ((dec l bits m).2.2)] ∧ Upd No w w') := by
  have HU : Upd (fun b => False) w w := Upd.refl _ _
  have hl_hs := ilen hs
  have hc_hs := hs.cap.1
  replace hs := hs.tight
  refine calls_of_W Try.func22 rfl Try.ntmps22 (by simp) ?_
  refine W_seq ?_
  refine W_region ?_
  refine Wl_box (v := .int .u64 bits) (cs := [.int .u64 bits]) rfl rfl ?_
  intro B1 w1 hB1 hU1 hzz1 hb1
  have hzw1 := hU1.size
  replace hs := hs.upd0 hU1
  replace HU := HU.trans0 hU1
  refine Wl_box (v := .int .i64 m) (cs := [.int .i64 m]) rfl rfl ?_
  intro B2 w2 hB2 hU2 hzz2 hb2
  have hzw2 := hU2.size
  replace hs := hs.upd0 hU2
  replace HU := HU.trans0 hU2
  replace hb1 := hb1.upd0 hU2
  refine Wl_alloc (cs := [.int .i64 0]) Try.zeroValue3 rfl ?_
  intro B3 w3 hB3 hU3 hzz3 hb3
  have hzw3 := hU3.size
  replace hs := hs.upd0 hU3
  replace HU := HU.trans0 hU3
  replace hb1 := hb1.upd0 hU3
  replace hb2 := hb2.upd0 hU3
  refine Wl_alloc (cs := [.int .i64 0]) Try.zeroValue3 rfl ?_
  intro B4 w4 hB4 hU4 hzz4 hb4
  have hzw4 := hU4.size
  replace hs := hs.upd0 hU4
  replace HU := HU.trans0 hU4
  replace hb1 := hb1.upd0 hU4
  replace hb2 := hb2.upd0 hU4
  replace hb3 := hb3.upd0 hU4
  refine Wl_alloc (cs := [.int .i64 0]) Try.zeroValue26 rfl ?_
  intro B5 w5 hB5 hU5 hzz5 hb5
  have hzw5 := hU5.size
  replace hs := hs.upd0 hU5
  replace HU := HU.trans0 hU5
  replace hb1 := hb1.upd0 hU5
  replace hb2 := hb2.upd0 hU5
  replace hb3 := hb3.upd0 hU5
  replace hb4 := hb4.upd0 hU5
  refine Wl_nil ?_
  refine W_seq ?_
  refine W_region ?_
  refine Wl_v (r_mkf2 (v0 := .pointer (some ⟨B3, 0, none⟩)) (v1 := .pointer (some ⟨B4, 0, none⟩)) rfl rfl) ?_
  refine Wl_defer2 rfl rfl ?_
  refine Wl_nil ?_
  refine W_seq ?_
  refine W_region ?_
  refine Wl_v (r_mv (v := .slice a n c) rfl) ?_
  by_cases q1 : Rt l
  · refine Wl_call (r_call1 rfl Try.call35 rfl) (of_ok _ hs (by omega) q1) ?_
    rintro v w6 ⟨rfl, hS6, hU6⟩
    have hzw6 := hU6.size
    replace hs := hs.upd0 hU6
    replace HU := HU.trans0 hU6
    replace hb1 := hb1.upd0 hU6
    replace hb2 := hb2.upd0 hU6
    replace hb3 := hb3.upd0 hU6
    replace hb4 := hb4.upd0 hU6
    replace hb5 := hb5.upd0 hU6
    have hl_hS6 := ilen hS6
    have hc_hS6 := hS6.cap.1
    refine Wl_alloc (cs := [.slice none 0 0]) Try.zeroValue68 rfl ?_
    intro B7 w7 hB7 hU7 hzz7 hb7
    have hzw7 := hU7.size
    replace hs := hs.upd0 hU7
    replace HU := HU.trans0 hU7
    replace hb1 := hb1.upd0 hU7
    replace hb2 := hb2.upd0 hU7
    replace hb3 := hb3.upd0 hU7
    replace hb4 := hb4.upd0 hU7
    replace hb5 := hb5.upd0 hU7
    replace hS6 := hS6.upd0 hU7
    refine Wl_storea (off := 0) (vs := [.slice a n n]) (cs' := [.slice a n n]) Try.sizeOf68 rfl rfl rfl (by simp only [List.mem_cons, List.not_mem_nil, or_false, forall_eq_or_imp, forall_eq]; exact rfl) hb7 (by simp) rfl ?_
    intro w8 hU8 hzz8 hb7n
    replace hb7 := hb7n; clear hb7n
    have hzw8 := hU8.size
    replace hs := hs.upd1 hU8 (by intro h1; have h3 : ((R B7) ∧ B7 < w.heap.size) := h1; omega)
    replace HU := HU.trans1 hU8 (by show (False) ∨ w.heap.size ≤ B7; omega)
    replace hb1 := hb1.upd1 hU8 (by omega)
    replace hb2 := hb2.upd1 hU8 (by omega)
    replace hb3 := hb3.upd1 hU8 (by omega)
    replace hb4 := hb4.upd1 hU8 (by omega)
    replace hb5 := hb5.upd1 hU8 (by omega)
    replace hS6 := hS6.upd1 hU8 (by intro h1; have h3 : ((R B7) ∧ B7 < w.heap.size) := h1; omega)
    refine Wl_nil ?_
    refine W_seq ?_
    refine W_region ?_
    refine Wl_load (v := .int .i64 m) Try.isAgg3 rfl hb2 rfl ?_
    refine Wl_v (r_ge rfl rfl) ?_
    refine Wl_v (r_mv (v := .bool (decide (0 ≤ m))) rfl) ?_
    by_cases q2 : 0 ≤ m
    · rw [decide_eq_true q2]
      refine Wl_guard_t rfl ?_
      refine Wl_load (v := .int .i64 m) Try.isAgg3 rfl hb2 rfl ?_
      refine Wl_guard_t rfl ?_
      refine Wl_v (r_le rfl rfl) ?_
      refine Wl_v (r_pick_t (v := .bool (decide (m ≤ 64))) rfl rfl) ?_
      by_cases q3 : m ≤ 64
      · rw [decide_eq_true q3]
        refine Wl_lit (pv := [(0, .bool true)]) (cs := [.bool true]) Try.underlying78 Try.sizeOf4 Try.zeroValue4 (by decide) (by decide) (by simp only [List.map_toArray, List.map_cons, List.map_nil] <;> rfl) (by kernel_rfl) rfl (by decide) ?_
        intro B9 w9 hB9 hU9 hzz9 hs9
        have hzw9 := hU9.size
        replace hs := hs.upd0 hU9
        replace HU := HU.trans0 hU9
        replace hb1 := hb1.upd0 hU9
        replace hb2 := hb2.upd0 hU9
        replace hb3 := hb3.upd0 hU9
        replace hb4 := hb4.upd0 hU9
        replace hb5 := hb5.upd0 hU9
        replace hS6 := hS6.upd0 hU9
        replace hb7 := hb7.upd0 hU9
        replace hs9 : Own w9 (Is B9) 4 1 (.slice (some ⟨B9, 0, none⟩) 1 1) 1 (rows encB [true]) := hs9
        refine Wl_call (r_call2 rfl Try.call41 rfl rfl) (must_ok _ hs9.sl (by omega) (by rfl)) ?_
        rintro v w10 ⟨rfl, hU10⟩
        have hzw10 := hU10.size
        replace hs := hs.upd0 hU10
        replace HU := HU.trans0 hU10
        replace hb1 := hb1.upd0 hU10
        replace hb2 := hb2.upd0 hU10
        replace hb3 := hb3.upd0 hU10
        replace hb4 := hb4.upd0 hU10
        replace hb5 := hb5.upd0 hU10
        replace hS6 := hS6.upd0 hU10
        replace hb7 := hb7.upd0 hU10
        replace hs9 := hs9.upd0 hU10
        refine Wl_nil ?_
        refine W_seq ?_
        refine W_region ?_
        refine Wl_load (v := .int .i64 m) Try.isAgg3 rfl hb2 rfl ?_
        refine Wl_v (r_eq rfl rfl) ?_
        refine Wl_v (r_mv (v := .bool (decide (m = 64))) rfl) ?_
        by_cases q4 : m = 64
        · rw [decide_eq_true q4]
          refine Wl_guard_f rfl ?_
          refine Wl_guard_f rfl ?_
          refine Wl_guard_f rfl ?_
          refine Wl_guard_f rfl ?_
          refine Wl_v (r_pick_t (v := .bool true) rfl rfl) ?_
          refine Wl_lit (pv := [(0, .bool true)]) (cs := [.bool true]) Try.underlying78 Try.sizeOf4 Try.zeroValue4 (by decide) (by decide) (by simp only [List.map_toArray, List.map_cons, List.map_nil] <;> rfl) (by kernel_rfl) rfl (by decide) ?_
          intro B11 w11 hB11 hU11 hzz11 hs11
          have hzw11 := hU11.size
          replace hs := hs.upd0 hU11
          replace HU := HU.trans0 hU11
          replace hb1 := hb1.upd0 hU11
          replace hb2 := hb2.upd0 hU11
          replace hb3 := hb3.upd0 hU11
          replace hb4 := hb4.upd0 hU11
          replace hb5 := hb5.upd0 hU11
          replace hS6 := hS6.upd0 hU11
          replace hb7 := hb7.upd0 hU11
          replace hs9 := hs9.upd0 hU11
          replace hs11 : Own w11 (Is B11) 4 1 (.slice (some ⟨B11, 0, none⟩) 1 1) 1 (rows encB [true]) := hs11
          refine Wl_call (r_call2 rfl Try.call41 rfl rfl) (must_ok _ hs11.sl (by omega) (by rfl)) ?_
          rintro v w12 ⟨rfl, hU12⟩
          have hzw12 := hU12.size
          replace hs := hs.upd0 hU12
          replace HU := HU.trans0 hU12
          replace hb1 := hb1.upd0 hU12
          replace hb2 := hb2.upd0 hU12
          replace hb3 := hb3.upd0 hU12
          replace hb4 := hb4.upd0 hU12
          replace hb5 := hb5.upd0 hU12
          replace hS6 := hS6.upd0 hU12
          replace hb7 := hb7.upd0 hU12
          replace hs9 := hs9.upd0 hU12
          replace hs11 := hs11.upd0 hU12
          refine Wl_nil ?_
          refine W_seq ?_
          refine W_region ?_
          refine Wl_v (r_loada (b := B7) (off := 0) (cs := [.slice a n n]) Try.isAgg68 Try.sizeOf68 rfl rfl (fun j hj => by rw [hb7.cell]; match j, hj with | 0, _ => rfl)) ?_
          refine Wl_call (r_call1 rfl Try.call37 rfl) (codes_spec _ hS6 (by omega) q1) ?_
          rintro v w13 ⟨a13, c13, rfl, hO13, hU13⟩
          have hzw13 := hU13.size
          replace hs := hs.upd0 hU13
          replace HU := HU.trans0 hU13
          replace hb1 := hb1.upd0 hU13
          replace hb2 := hb2.upd0 hU13
          replace hb3 := hb3.upd0 hU13
          replace hb4 := hb4.upd0 hU13
          replace hb5 := hb5.upd0 hU13
          replace hS6 := hS6.upd0 hU13
          replace hb7 := hb7.upd0 hU13
          replace hs9 := hs9.upd0 hU13
          replace hs11 := hs11.upd0 hU13
          replace hO13 := hO13.tight
          have hl_hO13 := rlen encC_len (by decide) hO13.sl
          have hc_hO13 := hO13.sl.cap.1
          have h256 := (q1).2.1
          have hfx := fidx_lt (0, 0) (qrd bits m) (cds l)
          rw [cds_len] at hfx
          refine Wl_v (r_as (v := .slice a13 n c13) rfl) ?_
          refine Wl_nil ?_
          refine W_seq ?_
          refine W_region ?_
          refine Wl_v (r_mv (v := .slice a13 n c13) rfl) ?_
          refine Wl_v (r_mkf2 (v0 := .pointer (some ⟨B2, 0, none⟩)) (v1 := .pointer (some ⟨B1, 0, none⟩)) rfl rfl) ?_
          refine Wl_call (r_call2 rfl Try.call38 rfl rfl) (found_spec (q := qrd bits m) (ar := fun y => #[y, .pointer (some ⟨B2, 0, none⟩), .pointer (some ⟨B1, 0, none⟩)]) _ hO13.sl (by omega) Try.call42 (by intro x; first | rfl | (simp; rfl)) (fun i w' hi hN => dec_clo w' (hb2.upd0 hN) (hb1.upd0 hN) (cds_bd q1 i) (by omega))) ?_
          rintro v w14 ⟨rfl, hU14⟩
          have hzw14 := hU14.size
          replace hs := hs.upd0 hU14
          replace HU := HU.trans0 hU14
          replace hb1 := hb1.upd0 hU14
          replace hb2 := hb2.upd0 hU14
          replace hb3 := hb3.upd0 hU14
          replace hb4 := hb4.upd0 hU14
          replace hb5 := hb5.upd0 hU14
          replace hS6 := hS6.upd0 hU14
          replace hb7 := hb7.upd0 hU14
          replace hs9 := hs9.upd0 hU14
          replace hs11 := hs11.upd0 hU14
          replace hO13 := hO13.upd0 hU14
          refine Wl_store (v := .int .i64 (fidx (qrd bits m) (cds l))) (cs' := [.int .i64 (fidx (qrd bits m) (cds l))]) Try.sizeOf3 rfl rfl rfl rfl hb3 rfl rfl ?_
          intro w15 hU15 hzz15 hb3n
          replace hb3 := hb3n; clear hb3n
          have hzw15 := hU15.size
          replace hs := hs.upd1 hU15 (by intro h1; have h3 : ((R B3) ∧ B3 < w.heap.size) := h1; omega)
          replace HU := HU.trans1 hU15 (by show (False) ∨ w.heap.size ≤ B3; omega)
          replace hb1 := hb1.upd1 hU15 (by omega)
          replace hb2 := hb2.upd1 hU15 (by omega)
          replace hb4 := hb4.upd1 hU15 (by omega)
          replace hb5 := hb5.upd1 hU15 (by omega)
          replace hS6 := hS6.upd1 hU15 (by intro h1; have h3 : ((R B3) ∧ B3 < w.heap.size) := h1; omega)
          replace hb7 := hb7.upd1 hU15 (by omega)
          replace hs9 := hs9.upd1 hU15 (by intro h1; have h3 : B3 = B9 := h1; omega)
          replace hs11 := hs11.upd1 hU15 (by intro h1; have h3 : B3 = B11 := h1; omega)
          replace hO13 := hO13.upd1 hU15 (by intro h1; have h3 : ((w12.heap.size ≤ B3) ∧ B3 < w13.heap.size) := h1; omega)
          refine Wl_nil ?_
          refine W_seq ?_
          refine W_region ?_
          refine Wl_load (v := .int .i64 (fidx (qrd bits m) (cds l))) Try.isAgg3 rfl hb3 rfl ?_
          refine Wl_v (r_ge rfl rfl) ?_
          by_cases q5 : 0 ≤ (fidx (qrd bits m) (cds l))
          · rw [decide_eq_true q5]
            refine Wl_lit (pv := [(0, .bool true)]) (cs := [.bool true]) Try.underlying78 Try.sizeOf4 Try.zeroValue4 (by decide) (by decide) (by simp only [List.map_toArray, List.map_cons, List.map_nil] <;> rfl) (by kernel_rfl) rfl (by decide) ?_
            intro B16 w16 hB16 hU16 hzz16 hs16
            have hzw16 := hU16.size
            replace hs := hs.upd0 hU16
            replace HU := HU.trans0 hU16
            replace hb1 := hb1.upd0 hU16
            replace hb2 := hb2.upd0 hU16
            replace hb3 := hb3.upd0 hU16
            replace hb4 := hb4.upd0 hU16
            replace hb5 := hb5.upd0 hU16
            replace hS6 := hS6.upd0 hU16
            replace hb7 := hb7.upd0 hU16
            replace hs9 := hs9.upd0 hU16
            replace hs11 := hs11.upd0 hU16
            replace hO13 := hO13.upd0 hU16
            replace hs16 : Own w16 (Is B16) 4 1 (.slice (some ⟨B16, 0, none⟩) 1 1) 1 (rows encB [true]) := hs16
            refine Wl_call (r_call2 rfl Try.call41 rfl rfl) (must_ok _ hs16.sl (by omega) (by rfl)) ?_
            rintro v w17 ⟨rfl, hU17⟩
            have hzw17 := hU17.size
            replace hs := hs.upd0 hU17
            replace HU := HU.trans0 hU17
            replace hb1 := hb1.upd0 hU17
            replace hb2 := hb2.upd0 hU17
            replace hb3 := hb3.upd0 hU17
            replace hb4 := hb4.upd0 hU17
            replace hb5 := hb5.upd0 hU17
            replace hS6 := hS6.upd0 hU17
            replace hb7 := hb7.upd0 hU17
            replace hs9 := hs9.upd0 hU17
            replace hs11 := hs11.upd0 hU17
            replace hO13 := hO13.upd0 hU17
            replace hs16 := hs16.upd0 hU17
            refine Wl_nil ?_
            refine W_seq ?_
            refine W_drawt rfl (l0 := #[false, false, false, false, false, false, false, false, false]) (by kernel_rfl) ?_
            refine Wt_take (i := 0) (listed' := #[true, false, false, false, false, false, false, false, false]) (by kernel_rfl) rfl (by kernel_rfl) (by kernel_rfl) (by kernel_rfl) (by kernel_rfl) (YI_v (v := .int .i64 (fidx (qrd bits m) (cds l))) rfl (fun w' hw' => r_load Try.isAgg3 rfl (by rw [(hb3.upd0 hw').cell]; rfl))) ?_
            refine Wt_take (i := 1) (listed' := #[true, true, false, false, false, false, false, false, false]) (by kernel_rfl) rfl (by kernel_rfl) (by kernel_rfl) (by kernel_rfl) (by kernel_rfl) (YI_v (v := .slice a13 n c13) rfl (fun w' hw' => r_mv (v := .slice a13 n c13) rfl)) ?_
            refine Wt_take (i := 2) (listed' := #[true, true, true, false, false, false, false, false, false]) (by kernel_rfl) rfl (by kernel_rfl) (by kernel_rfl) (by kernel_rfl) (by kernel_rfl) (YI_v (v := .int .i64 (fidx (qrd bits m) (cds l))) rfl (fun w' hw' => r_load Try.isAgg3 rfl (by rw [(hb3.upd0 hw').cell]; rfl))) ?_
            obtain ⟨ib18, io18, ha18, hib18, hc18⟩ := Sl.rat (0, 0) encC_len (by decide) (hO13.sl) (i := (fidx (qrd bits m) (cds l)).toNat) (by omega)
            refine Wt_take (i := 3) (listed' := #[true, true, true, true, false, false, false, false, false]) (by kernel_rfl) rfl (by kernel_rfl) (by kernel_rfl) (by kernel_rfl) (by kernel_rfl) (YI_v (v := .pointer (some ⟨ib18, io18 + ((fidx (qrd bits m) (cds l)).toNat) * 2, none⟩)) rfl (fun w' hw' => r_idx (b := ib18) (off := io18) (m := n) (c := c13) (o' := io18 + ((fidx (qrd bits m) (cds l)).toNat) * 2) Try.underlying28 Try.sizeOf37 (by rw [← ha18]; rfl) rfl (by omega) (by omega) (by omega))) ?_
            refine Wt_take (i := 4) (listed' := #[true, true, true, true, true, false, false, false, false]) (by kernel_rfl) rfl (by kernel_rfl) (by kernel_rfl) (by kernel_rfl) (by kernel_rfl) (YI_v (v := .pointer (some ⟨ib18, io18 + ((fidx (qrd bits m) (cds l)).toNat) * 2, none⟩)) rfl (fun w' hw' => r_fld Try.underlying37 rfl Try.sizeOf3 rfl rfl)) ?_
            refine Wt_take (i := 5) (listed' := #[true, true, true, true, true, true, false, false, false]) (by kernel_rfl) rfl (by kernel_rfl) (by kernel_rfl) (by kernel_rfl) (by kernel_rfl) (YI_v (v := .int .i64 (((cds l).getD (fidx (qrd bits m) (cds l)).toNat (0, 0)).1)) rfl (fun w' hw' => r_load (v := .int .i64 (((cds l).getD (fidx (qrd bits m) (cds l)).toNat (0, 0)).1)) Try.isAgg3 rfl (hw'.cellk (hc18 0 (by decide))))) ?_
            intro w19 hU19
            have hzw19 := hU19.size
            replace hs := hs.upd0 hU19
            replace HU := HU.trans0 hU19
            replace hb1 := hb1.upd0 hU19
            replace hb2 := hb2.upd0 hU19
            replace hb3 := hb3.upd0 hU19
            replace hb4 := hb4.upd0 hU19
            replace hb5 := hb5.upd0 hU19
            replace hS6 := hS6.upd0 hU19
            replace hb7 := hb7.upd0 hU19
            replace hs9 := hs9.upd0 hU19
            replace hs11 := hs11.upd0 hU19
            replace hO13 := hO13.upd0 hU19
            replace hs16 := hs16.upd0 hU19
            refine Wa_one (i := 6) (listed' := #[true, true, true, true, true, true, true, false, false]) (by kernel_rfl) rfl (by kernel_rfl) ?_
            refine Ws_of_Wl ?_
            have hW : Upd No w17 w19 := hU19
            refine Wl_same (v := .int .i64 (fidx (qrd bits m) (cds l))) Try.sizeOf3 rfl rfl rfl rfl hb3 rfl ?_
            intro w20 hU20
            have hzw20 := hU20.size
            replace hs := hs.upd0 hU20
            replace HU := HU.trans0 hU20
            replace hb1 := hb1.upd0 hU20
            replace hb2 := hb2.upd0 hU20
            replace hb3 := hb3.upd0 hU20
            replace hb4 := hb4.upd0 hU20
            replace hb5 := hb5.upd0 hU20
            replace hS6 := hS6.upd0 hU20
            replace hb7 := hb7.upd0 hU20
            replace hs9 := hs9.upd0 hU20
            replace hs11 := hs11.upd0 hU20
            replace hO13 := hO13.upd0 hU20
            replace hs16 := hs16.upd0 hU20
            try replace hW := hW.trans0 hU20
            refine Wl_nil ?_
            intro w21 hS21
            have hX : Upd No w17 w21 := hW.trans0 hS21.upd
            refine ⟨fun _ => ⟨hX, ?_⟩, fun h => absurd h (by rw [show barOp _ 6 = false from by kernel_rfl]; simp)⟩
            have hU21 := hS21.upd
            have hzw21 := hU21.size
            replace hs := hs.upd0 hU21
            replace HU := HU.trans0 hU21
            replace hb1 := hb1.upd0 hU21
            replace hb2 := hb2.upd0 hU21
            replace hb3 := hb3.upd0 hU21
            replace hb4 := hb4.upd0 hU21
            replace hb5 := hb5.upd0 hU21
            replace hS6 := hS6.upd0 hU21
            replace hb7 := hb7.upd0 hU21
            replace hs9 := hs9.upd0 hU21
            replace hs11 := hs11.upd0 hU21
            replace hO13 := hO13.upd0 hU21
            replace hs16 := hs16.upd0 hU21
            try replace hW := hW.trans0 hU21
            refine Wt_base hX ?_
            intro w22 hU22
            have hzw22 := hU22.size
            replace hs := hs.upd0 hU22
            replace HU := HU.trans0 hU22
            replace hb1 := hb1.upd0 hU22
            replace hb2 := hb2.upd0 hU22
            replace hb3 := hb3.upd0 hU22
            replace hb4 := hb4.upd0 hU22
            replace hb5 := hb5.upd0 hU22
            replace hS6 := hS6.upd0 hU22
            replace hb7 := hb7.upd0 hU22
            replace hs9 := hs9.upd0 hU22
            replace hs11 := hs11.upd0 hU22
            replace hO13 := hO13.upd0 hU22
            replace hs16 := hs16.upd0 hU22
            try replace hW := hW.trans0 hU22
            refine Wa_one (i := 7) (listed' := #[true, true, true, true, true, true, true, true, false]) (by kernel_rfl) rfl (by kernel_rfl) ?_
            refine Ws_of_Wl ?_
            have hW : Upd No w21 w22 := hU22
            refine Wl_store (v := .int .i64 (((cds l).getD (fidx (qrd bits m) (cds l)).toNat (0, 0)).1)) (cs' := [.int .i64 (((cds l).getD (fidx (qrd bits m) (cds l)).toNat (0, 0)).1)]) Try.sizeOf3 rfl rfl rfl rfl hb4 rfl rfl ?_
            intro w23 hU23 hzz23 hb4n
            replace hb4 := hb4n; clear hb4n
            have hzw23 := hU23.size
            replace hs := hs.upd1 hU23 (by intro h1; have h3 : ((R B4) ∧ B4 < w.heap.size) := h1; omega)
            replace HU := HU.trans1 hU23 (by show (False) ∨ w.heap.size ≤ B4; omega)
            replace hb1 := hb1.upd1 hU23 (by omega)
            replace hb2 := hb2.upd1 hU23 (by omega)
            replace hb3 := hb3.upd1 hU23 (by omega)
            replace hb5 := hb5.upd1 hU23 (by omega)
            replace hS6 := hS6.upd1 hU23 (by intro h1; have h3 : ((R B4) ∧ B4 < w.heap.size) := h1; omega)
            replace hb7 := hb7.upd1 hU23 (by omega)
            replace hs9 := hs9.upd1 hU23 (by intro h1; have h3 : B4 = B9 := h1; omega)
            replace hs11 := hs11.upd1 hU23 (by intro h1; have h3 : B4 = B11 := h1; omega)
            replace hO13 := hO13.upd1 hU23 (by intro h1; have h3 : ((w12.heap.size ≤ B4) ∧ B4 < w13.heap.size) := h1; omega)
            replace hs16 := hs16.upd1 hU23 (by intro h1; have h3 : B4 = B16 := h1; omega)
            refine Wl_nil ?_
            intro w24 hS24
            refine ⟨fun h => absurd h (by rw [show barOp _ 7 = true from by kernel_rfl]; simp), fun _ => ⟨Upd No w24, ?_⟩⟩
            have hU24 := hS24.upd
            have hzw24 := hU24.size
            replace hs := hs.upd0 hU24
            replace HU := HU.trans0 hU24
            replace hb1 := hb1.upd0 hU24
            replace hb2 := hb2.upd0 hU24
            replace hb3 := hb3.upd0 hU24
            replace hb4 := hb4.upd0 hU24
            replace hb5 := hb5.upd0 hU24
            replace hS6 := hS6.upd0 hU24
            replace hb7 := hb7.upd0 hU24
            replace hs9 := hs9.upd0 hU24
            replace hs11 := hs11.upd0 hU24
            replace hO13 := hO13.upd0 hU24
            replace hs16 := hs16.upd0 hU24
            try replace hW := hW.trans0 hU24
            refine Wt_base (Upd.refl _ _) ?_
            intro w25 hU25
            have hzw25 := hU25.size
            replace hs := hs.upd0 hU25
            replace HU := HU.trans0 hU25
            replace hb1 := hb1.upd0 hU25
            replace hb2 := hb2.upd0 hU25
            replace hb3 := hb3.upd0 hU25
            replace hb4 := hb4.upd0 hU25
            replace hb5 := hb5.upd0 hU25
            replace hS6 := hS6.upd0 hU25
            replace hb7 := hb7.upd0 hU25
            replace hs9 := hs9.upd0 hU25
            replace hs11 := hs11.upd0 hU25
            replace hO13 := hO13.upd0 hU25
            replace hs16 := hs16.upd0 hU25
            try replace hW := hW.trans0 hU25
            refine Wa_one (i := 8) (listed' := #[true, true, true, true, true, true, true, true, true]) (by kernel_rfl) rfl (by kernel_rfl) ?_
            refine Ws_of_Wl ?_
            have hW : Upd No w24 w25 := hU25
            refine Wl_store (v := .int .i64 0) (cs' := [.int .i64 0]) Try.sizeOf26 rfl rfl rfl rfl hb5 rfl rfl ?_
            intro w26 hU26 hzz26 hb5n
            replace hb5 := hb5n; clear hb5n
            have hzw26 := hU26.size
            replace hs := hs.upd1 hU26 (by intro h1; have h3 : ((R B5) ∧ B5 < w.heap.size) := h1; omega)
            replace HU := HU.trans1 hU26 (by show (False) ∨ w.heap.size ≤ B5; omega)
            replace hb1 := hb1.upd1 hU26 (by omega)
            replace hb2 := hb2.upd1 hU26 (by omega)
            replace hb3 := hb3.upd1 hU26 (by omega)
            replace hb4 := hb4.upd1 hU26 (by omega)
            replace hS6 := hS6.upd1 hU26 (by intro h1; have h3 : ((R B5) ∧ B5 < w.heap.size) := h1; omega)
            replace hb7 := hb7.upd1 hU26 (by omega)
            replace hs9 := hs9.upd1 hU26 (by intro h1; have h3 : B5 = B9 := h1; omega)
            replace hs11 := hs11.upd1 hU26 (by intro h1; have h3 : B5 = B11 := h1; omega)
            replace hO13 := hO13.upd1 hU26 (by intro h1; have h3 : ((w12.heap.size ≤ B5) ∧ B5 < w13.heap.size) := h1; omega)
            replace hs16 := hs16.upd1 hU26 (by intro h1; have h3 : B5 = B16 := h1; omega)
            refine Wl_nil ?_
            intro w27 hS27
            refine ⟨fun h => absurd h (by rw [show barOp _ 8 = true from by kernel_rfl]; simp), fun _ => ⟨Upd No w27, ?_⟩⟩
            have hU27 := hS27.upd
            have hzw27 := hU27.size
            replace hs := hs.upd0 hU27
            replace HU := HU.trans0 hU27
            replace hb1 := hb1.upd0 hU27
            replace hb2 := hb2.upd0 hU27
            replace hb3 := hb3.upd0 hU27
            replace hb4 := hb4.upd0 hU27
            replace hb5 := hb5.upd0 hU27
            replace hS6 := hS6.upd0 hU27
            replace hb7 := hb7.upd0 hU27
            replace hs9 := hs9.upd0 hU27
            replace hs11 := hs11.upd0 hU27
            replace hO13 := hO13.upd0 hU27
            replace hs16 := hs16.upd0 hU27
            try replace hW := hW.trans0 hU27
            refine Wa_done (by kernel_rfl) ?_
            refine W_ret ?_
            refine ret_ds rfl ?_
            refine lv_call (by simp) Try.call33 rfl (caught_ret _) ?_
            rintro e1 u1 w28 ⟨rfl, v1, rfl, rfl, hU28⟩
            have hzw28 := hU28.size
            replace hs := hs.upd0 hU28
            replace HU := HU.trans0 hU28
            replace hb1 := hb1.upd0 hU28
            replace hb2 := hb2.upd0 hU28
            replace hb3 := hb3.upd0 hU28
            replace hb4 := hb4.upd0 hU28
            replace hb5 := hb5.upd0 hU28
            replace hS6 := hS6.upd0 hU28
            replace hb7 := hb7.upd0 hU28
            replace hs9 := hs9.upd0 hU28
            replace hs11 := hs11.upd0 hU28
            replace hO13 := hO13.upd0 hU28
            replace hs16 := hs16.upd0 hU28
            try replace hW := hW.trans0 hU28
            refine lv_nil (v := .tuple #[.int .i64 (fidx (qrd bits m) (cds l)), .int .i64 (((cds l).getD (fidx (qrd bits m) (cds l)).toNat (0, 0)).1), .int .i64 0]) (rc3 Try.results22 rfl rfl rfl (cellIs Try.isAgg3 hb3) (cellIs Try.isAgg3 hb4) (cellIs Try.isAgg26 hb5)) ?_
            rw [dec_ok q1 (show Va bits m from ⟨by omega, by first | (left; omega) | (right; assumption)⟩) (by omega)]
            exact ⟨_, rfl, (vtup3 (by first | rfl | exact vint (by omega)) (by first | rfl | exact vint (by omega)) (by first | rfl | exact vint (by omega))), HU⟩
          · rw [decide_eq_false q5]
            refine Wl_lit (pv := [(0, .bool false)]) (cs := [.bool false]) Try.underlying78 Try.sizeOf4 Try.zeroValue4 (by decide) (by decide) (by simp only [List.map_toArray, List.map_cons, List.map_nil] <;> rfl) (by kernel_rfl) rfl (by decide) ?_
            intro B29 w29 hB29 hU29 hzz29 hs29
            have hzw29 := hU29.size
            replace hs := hs.upd0 hU29
            replace HU := HU.trans0 hU29
            replace hb1 := hb1.upd0 hU29
            replace hb2 := hb2.upd0 hU29
            replace hb3 := hb3.upd0 hU29
            replace hb4 := hb4.upd0 hU29
            replace hb5 := hb5.upd0 hU29
            replace hS6 := hS6.upd0 hU29
            replace hb7 := hb7.upd0 hU29
            replace hs9 := hs9.upd0 hU29
            replace hs11 := hs11.upd0 hU29
            replace hO13 := hO13.upd0 hU29
            replace hs29 : Own w29 (Is B29) 4 1 (.slice (some ⟨B29, 0, none⟩) 1 1) 1 (rows encB [false]) := hs29
            refine Wl_callp (r_call2 rfl Try.call41 rfl rfl) (must_no _ hs29.sl (by omega) (by rfl)) ?_
            intro w30 hU30
            have hzw30 := hU30.size
            replace hs := hs.upd0 hU30
            replace HU := HU.trans0 hU30
            replace hb1 := hb1.upd0 hU30
            replace hb2 := hb2.upd0 hU30
            replace hb3 := hb3.upd0 hU30
            replace hb4 := hb4.upd0 hU30
            replace hb5 := hb5.upd0 hU30
            replace hS6 := hS6.upd0 hU30
            replace hb7 := hb7.upd0 hU30
            replace hs9 := hs9.upd0 hU30
            replace hs11 := hs11.upd0 hU30
            replace hO13 := hO13.upd0 hU30
            replace hs29 := hs29.upd0 hU30
            refine pan_ds rfl ?_
            refine lv_call (by simp) Try.call33 rfl (caught_pan (S := fun g => g = B3 ∨ g = B4) (Φ := fun w' => Blk w' B3 [.int .i64 0] ∧ Blk w' B4 [.int .i64 0]) _ hb5 Try.call40 (by show ¬ (B5 = B3 ∨ B5 = B4); first | omega | exact fun h => h) (dec_clr _ hb3 hb4 (by omega))) ?_
            rintro e1 u1 w31 ⟨rfl, v1, rfl, rfl, wq31, ⟨hz31_0, hz31_1⟩, hUa31, hUb31, hbe31⟩
            have hzwq31 := hUa31.size
            replace hs := hs.upd hUa31 (by intro x h1 h2; have h3 : ((R x) ∧ x < w.heap.size) := h1; have h4 : x = B3 ∨ x = B4 := h2; omega)
            replace HU := HU.trans hUa31 (by intro x hx; have hx2 : x = B3 ∨ x = B4 := hx; show (False) ∨ w.heap.size ≤ x; omega)
            replace hb1 := hb1.upd hUa31 (by intro hx; have hx2 : B1 = B3 ∨ B1 = B4 := hx; omega)
            replace hb2 := hb2.upd hUa31 (by intro hx; have hx2 : B2 = B3 ∨ B2 = B4 := hx; omega)
            replace hS6 := hS6.upd hUa31 (by intro x h1 h2; have h3 : ((R x) ∧ x < w.heap.size) := h1; have h4 : x = B3 ∨ x = B4 := h2; omega)
            replace hb7 := hb7.upd hUa31 (by intro hx; have hx2 : B7 = B3 ∨ B7 = B4 := hx; omega)
            replace hs9 := hs9.upd hUa31 (by intro x h1 h2; have h3 : x = B9 := h1; have h4 : x = B3 ∨ x = B4 := h2; omega)
            replace hs11 := hs11.upd hUa31 (by intro x h1 h2; have h3 : x = B11 := h1; have h4 : x = B3 ∨ x = B4 := h2; omega)
            replace hO13 := hO13.upd hUa31 (by intro x h1 h2; have h3 : ((w12.heap.size ≤ x) ∧ x < w13.heap.size) := h1; have h4 : x = B3 ∨ x = B4 := h2; omega)
            replace hs29 := hs29.upd hUa31 (by intro x h1 h2; have h3 : x = B29 := h1; have h4 : x = B3 ∨ x = B4 := h2; omega)
            have hzw31 := hUb31.size
            replace hs := hs.upd1 hUb31 (by intro h1; have h3 : ((R B5) ∧ B5 < w.heap.size) := h1; omega)
            replace HU := HU.trans1 hUb31 (by show (False) ∨ w.heap.size ≤ B5; omega)
            replace hb1 := hb1.upd1 hUb31 (by omega)
            replace hb2 := hb2.upd1 hUb31 (by omega)
            replace hS6 := hS6.upd1 hUb31 (by intro h1; have h3 : ((R B5) ∧ B5 < w.heap.size) := h1; omega)
            replace hb7 := hb7.upd1 hUb31 (by omega)
            replace hs9 := hs9.upd1 hUb31 (by intro h1; have h3 : B5 = B9 := h1; omega)
            replace hs11 := hs11.upd1 hUb31 (by intro h1; have h3 : B5 = B11 := h1; omega)
            replace hO13 := hO13.upd1 hUb31 (by intro h1; have h3 : ((w12.heap.size ≤ B5) ∧ B5 < w13.heap.size) := h1; omega)
            replace hs29 := hs29.upd1 hUb31 (by intro h1; have h3 : B5 = B29 := h1; omega)
            replace hz31_0 := hz31_0.upd1 hUb31 (by omega)
            replace hz31_1 := hz31_1.upd1 hUb31 (by omega)
            refine lv_nil (v := .tuple #[.int .i64 0, .int .i64 0, .int .i64 3]) (rc3 Try.results22 rfl rfl rfl (cellIs Try.isAgg3 hz31_0) (cellIs Try.isAgg3 hz31_1) (cellIs Try.isAgg26 hbe31)) ?_
            rw [dec_short q1 (show Va bits m from ⟨by omega, by first | (left; omega) | (right; assumption)⟩) (by omega)]
            exact ⟨_, rfl, (vtup3 (by first | rfl | exact vint (by omega)) (by first | rfl | exact vint (by omega)) (by first | rfl | exact vint (by omega))), HU⟩
        · rw [decide_eq_false q4]
          refine Wl_guard_t rfl ?_
          refine Wl_load (v := .int .u64 bits) Try.isAgg41 rfl hb1 rfl ?_
          refine Wl_guard_t rfl ?_
          refine Wl_load (v := .int .i64 m) Try.isAgg3 rfl hb2 rfl ?_
          refine Wl_guard_t rfl ?_
          refine Wl_v (r_shr rfl rfl (by omega) rfl) ?_
          refine Wl_guard_t rfl ?_
          refine Wl_v (r_eq rfl rfl) ?_
          refine Wl_v (r_pick_f (v := .bool (decide ((bits / 2 ^ (min (m).toNat IntKind.u64.bits)) = 0))) rfl rfl) ?_
          by_cases q6 : (bits / 2 ^ (min (m).toNat IntKind.u64.bits)) = 0
          · rw [decide_eq_true q6]
            refine Wl_lit (pv := [(0, .bool true)]) (cs := [.bool true]) Try.underlying78 Try.sizeOf4 Try.zeroValue4 (by decide) (by decide) (by simp only [List.map_toArray, List.map_cons, List.map_nil] <;> rfl) (by kernel_rfl) rfl (by decide) ?_
            intro B32 w32 hB32 hU32 hzz32 hs32
            have hzw32 := hU32.size
            replace hs := hs.upd0 hU32
            replace HU := HU.trans0 hU32
            replace hb1 := hb1.upd0 hU32
            replace hb2 := hb2.upd0 hU32
            replace hb3 := hb3.upd0 hU32
            replace hb4 := hb4.upd0 hU32
            replace hb5 := hb5.upd0 hU32
            replace hS6 := hS6.upd0 hU32
            replace hb7 := hb7.upd0 hU32
            replace hs9 := hs9.upd0 hU32
            replace hs32 : Own w32 (Is B32) 4 1 (.slice (some ⟨B32, 0, none⟩) 1 1) 1 (rows encB [true]) := hs32
            refine Wl_call (r_call2 rfl Try.call41 rfl rfl) (must_ok _ hs32.sl (by omega) (by rfl)) ?_
            rintro v w33 ⟨rfl, hU33⟩
            have hzw33 := hU33.size
            replace hs := hs.upd0 hU33
            replace HU := HU.trans0 hU33
            replace hb1 := hb1.upd0 hU33
            replace hb2 := hb2.upd0 hU33
            replace hb3 := hb3.upd0 hU33
            replace hb4 := hb4.upd0 hU33
            replace hb5 := hb5.upd0 hU33
            replace hS6 := hS6.upd0 hU33
            replace hb7 := hb7.upd0 hU33
            replace hs9 := hs9.upd0 hU33
            replace hs32 := hs32.upd0 hU33
            refine Wl_nil ?_
            refine W_seq ?_
            refine W_region ?_
            refine Wl_v (r_loada (b := B7) (off := 0) (cs := [.slice a n n]) Try.isAgg68 Try.sizeOf68 rfl rfl (fun j hj => by rw [hb7.cell]; match j, hj with | 0, _ => rfl)) ?_
            refine Wl_call (r_call1 rfl Try.call37 rfl) (codes_spec _ hS6 (by omega) q1) ?_
            rintro v w34 ⟨a34, c34, rfl, hO34, hU34⟩
            have hzw34 := hU34.size
            replace hs := hs.upd0 hU34
            replace HU := HU.trans0 hU34
            replace hb1 := hb1.upd0 hU34
            replace hb2 := hb2.upd0 hU34
            replace hb3 := hb3.upd0 hU34
            replace hb4 := hb4.upd0 hU34
            replace hb5 := hb5.upd0 hU34
            replace hS6 := hS6.upd0 hU34
            replace hb7 := hb7.upd0 hU34
            replace hs9 := hs9.upd0 hU34
            replace hs32 := hs32.upd0 hU34
            replace hO34 := hO34.tight
            have hl_hO34 := rlen encC_len (by decide) hO34.sl
            have hc_hO34 := hO34.sl.cap.1
            have h256 := (q1).2.1
            have hfx := fidx_lt (0, 0) (qrd bits m) (cds l)
            rw [cds_len] at hfx
            refine Wl_v (r_as (v := .slice a34 n c34) rfl) ?_
            refine Wl_nil ?_
            refine W_seq ?_
            refine W_region ?_
            refine Wl_v (r_mv (v := .slice a34 n c34) rfl) ?_
            refine Wl_v (r_mkf2 (v0 := .pointer (some ⟨B2, 0, none⟩)) (v1 := .pointer (some ⟨B1, 0, none⟩)) rfl rfl) ?_
            refine Wl_call (r_call2 rfl Try.call38 rfl rfl) (found_spec (q := qrd bits m) (ar := fun y => #[y, .pointer (some ⟨B2, 0, none⟩), .pointer (some ⟨B1, 0, none⟩)]) _ hO34.sl (by omega) Try.call42 (by intro x; first | rfl | (simp; rfl)) (fun i w' hi hN => dec_clo w' (hb2.upd0 hN) (hb1.upd0 hN) (cds_bd q1 i) (by omega))) ?_
            rintro v w35 ⟨rfl, hU35⟩
            have hzw35 := hU35.size
            replace hs := hs.upd0 hU35
            replace HU := HU.trans0 hU35
            replace hb1 := hb1.upd0 hU35
            replace hb2 := hb2.upd0 hU35
            replace hb3 := hb3.upd0 hU35
            replace hb4 := hb4.upd0 hU35
            replace hb5 := hb5.upd0 hU35
            replace hS6 := hS6.upd0 hU35
            replace hb7 := hb7.upd0 hU35
            replace hs9 := hs9.upd0 hU35
            replace hs32 := hs32.upd0 hU35
            replace hO34 := hO34.upd0 hU35
            refine Wl_store (v := .int .i64 (fidx (qrd bits m) (cds l))) (cs' := [.int .i64 (fidx (qrd bits m) (cds l))]) Try.sizeOf3 rfl rfl rfl rfl hb3 rfl rfl ?_
            intro w36 hU36 hzz36 hb3n
            replace hb3 := hb3n; clear hb3n
            have hzw36 := hU36.size
            replace hs := hs.upd1 hU36 (by intro h1; have h3 : ((R B3) ∧ B3 < w.heap.size) := h1; omega)
            replace HU := HU.trans1 hU36 (by show (False) ∨ w.heap.size ≤ B3; omega)
            replace hb1 := hb1.upd1 hU36 (by omega)
            replace hb2 := hb2.upd1 hU36 (by omega)
            replace hb4 := hb4.upd1 hU36 (by omega)
            replace hb5 := hb5.upd1 hU36 (by omega)
            replace hS6 := hS6.upd1 hU36 (by intro h1; have h3 : ((R B3) ∧ B3 < w.heap.size) := h1; omega)
            replace hb7 := hb7.upd1 hU36 (by omega)
            replace hs9 := hs9.upd1 hU36 (by intro h1; have h3 : B3 = B9 := h1; omega)
            replace hs32 := hs32.upd1 hU36 (by intro h1; have h3 : B3 = B32 := h1; omega)
            replace hO34 := hO34.upd1 hU36 (by intro h1; have h3 : ((w33.heap.size ≤ B3) ∧ B3 < w34.heap.size) := h1; omega)
            refine Wl_nil ?_
            refine W_seq ?_
            refine W_region ?_
            refine Wl_load (v := .int .i64 (fidx (qrd bits m) (cds l))) Try.isAgg3 rfl hb3 rfl ?_
            refine Wl_v (r_ge rfl rfl) ?_
            by_cases q7 : 0 ≤ (fidx (qrd bits m) (cds l))
            · rw [decide_eq_true q7]
              refine Wl_lit (pv := [(0, .bool true)]) (cs := [.bool true]) Try.underlying78 Try.sizeOf4 Try.zeroValue4 (by decide) (by decide) (by simp only [List.map_toArray, List.map_cons, List.map_nil] <;> rfl) (by kernel_rfl) rfl (by decide) ?_
              intro B37 w37 hB37 hU37 hzz37 hs37
              have hzw37 := hU37.size
              replace hs := hs.upd0 hU37
              replace HU := HU.trans0 hU37
              replace hb1 := hb1.upd0 hU37
              replace hb2 := hb2.upd0 hU37
              replace hb3 := hb3.upd0 hU37
              replace hb4 := hb4.upd0 hU37
              replace hb5 := hb5.upd0 hU37
              replace hS6 := hS6.upd0 hU37
              replace hb7 := hb7.upd0 hU37
              replace hs9 := hs9.upd0 hU37
              replace hs32 := hs32.upd0 hU37
              replace hO34 := hO34.upd0 hU37
              replace hs37 : Own w37 (Is B37) 4 1 (.slice (some ⟨B37, 0, none⟩) 1 1) 1 (rows encB [true]) := hs37
              refine Wl_call (r_call2 rfl Try.call41 rfl rfl) (must_ok _ hs37.sl (by omega) (by rfl)) ?_
              rintro v w38 ⟨rfl, hU38⟩
              have hzw38 := hU38.size
              replace hs := hs.upd0 hU38
              replace HU := HU.trans0 hU38
              replace hb1 := hb1.upd0 hU38
              replace hb2 := hb2.upd0 hU38
              replace hb3 := hb3.upd0 hU38
              replace hb4 := hb4.upd0 hU38
              replace hb5 := hb5.upd0 hU38
              replace hS6 := hS6.upd0 hU38
              replace hb7 := hb7.upd0 hU38
              replace hs9 := hs9.upd0 hU38
              replace hs32 := hs32.upd0 hU38
              replace hO34 := hO34.upd0 hU38
              replace hs37 := hs37.upd0 hU38
              refine Wl_nil ?_
              refine W_seq ?_
              refine W_drawt rfl (l0 := #[false, false, false, false, false, false, false, false, false]) (by kernel_rfl) ?_
              refine Wt_take (i := 0) (listed' := #[true, false, false, false, false, false, false, false, false]) (by kernel_rfl) rfl (by kernel_rfl) (by kernel_rfl) (by kernel_rfl) (by kernel_rfl) (YI_v (v := .int .i64 (fidx (qrd bits m) (cds l))) rfl (fun w' hw' => r_load Try.isAgg3 rfl (by rw [(hb3.upd0 hw').cell]; rfl))) ?_
              refine Wt_take (i := 1) (listed' := #[true, true, false, false, false, false, false, false, false]) (by kernel_rfl) rfl (by kernel_rfl) (by kernel_rfl) (by kernel_rfl) (by kernel_rfl) (YI_v (v := .slice a34 n c34) rfl (fun w' hw' => r_mv (v := .slice a34 n c34) rfl)) ?_
              refine Wt_take (i := 2) (listed' := #[true, true, true, false, false, false, false, false, false]) (by kernel_rfl) rfl (by kernel_rfl) (by kernel_rfl) (by kernel_rfl) (by kernel_rfl) (YI_v (v := .int .i64 (fidx (qrd bits m) (cds l))) rfl (fun w' hw' => r_load Try.isAgg3 rfl (by rw [(hb3.upd0 hw').cell]; rfl))) ?_
              obtain ⟨ib39, io39, ha39, hib39, hc39⟩ := Sl.rat (0, 0) encC_len (by decide) (hO34.sl) (i := (fidx (qrd bits m) (cds l)).toNat) (by omega)
              refine Wt_take (i := 3) (listed' := #[true, true, true, true, false, false, false, false, false]) (by kernel_rfl) rfl (by kernel_rfl) (by kernel_rfl) (by kernel_rfl) (by kernel_rfl) (YI_v (v := .pointer (some ⟨ib39, io39 + ((fidx (qrd bits m) (cds l)).toNat) * 2, none⟩)) rfl (fun w' hw' => r_idx (b := ib39) (off := io39) (m := n) (c := c34) (o' := io39 + ((fidx (qrd bits m) (cds l)).toNat) * 2) Try.underlying28 Try.sizeOf37 (by rw [← ha39]; rfl) rfl (by omega) (by omega) (by omega))) ?_
              refine Wt_take (i := 4) (listed' := #[true, true, true, true, true, false, false, false, false]) (by kernel_rfl) rfl (by kernel_rfl) (by kernel_rfl) (by kernel_rfl) (by kernel_rfl) (YI_v (v := .pointer (some ⟨ib39, io39 + ((fidx (qrd bits m) (cds l)).toNat) * 2, none⟩)) rfl (fun w' hw' => r_fld Try.underlying37 rfl Try.sizeOf3 rfl rfl)) ?_
              refine Wt_take (i := 5) (listed' := #[true, true, true, true, true, true, false, false, false]) (by kernel_rfl) rfl (by kernel_rfl) (by kernel_rfl) (by kernel_rfl) (by kernel_rfl) (YI_v (v := .int .i64 (((cds l).getD (fidx (qrd bits m) (cds l)).toNat (0, 0)).1)) rfl (fun w' hw' => r_load (v := .int .i64 (((cds l).getD (fidx (qrd bits m) (cds l)).toNat (0, 0)).1)) Try.isAgg3 rfl (hw'.cellk (hc39 0 (by decide))))) ?_
              intro w40 hU40
              have hzw40 := hU40.size
              replace hs := hs.upd0 hU40
              replace HU := HU.trans0 hU40
              replace hb1 := hb1.upd0 hU40
              replace hb2 := hb2.upd0 hU40
              replace hb3 := hb3.upd0 hU40
              replace hb4 := hb4.upd0 hU40
              replace hb5 := hb5.upd0 hU40
              replace hS6 := hS6.upd0 hU40
              replace hb7 := hb7.upd0 hU40
              replace hs9 := hs9.upd0 hU40
              replace hs32 := hs32.upd0 hU40
              replace hO34 := hO34.upd0 hU40
              replace hs37 := hs37.upd0 hU40
              refine Wa_one (i := 6) (listed' := #[true, true, true, true, true, true, true, false, false]) (by kernel_rfl) rfl (by kernel_rfl) ?_
              refine Ws_of_Wl ?_
              have hW : Upd No w38 w40 := hU40
              refine Wl_same (v := .int .i64 (fidx (qrd bits m) (cds l))) Try.sizeOf3 rfl rfl rfl rfl hb3 rfl ?_
              intro w41 hU41
              have hzw41 := hU41.size
              replace hs := hs.upd0 hU41
              replace HU := HU.trans0 hU41
              replace hb1 := hb1.upd0 hU41
              replace hb2 := hb2.upd0 hU41
              replace hb3 := hb3.upd0 hU41
              replace hb4 := hb4.upd0 hU41
              replace hb5 := hb5.upd0 hU41
              replace hS6 := hS6.upd0 hU41
              replace hb7 := hb7.upd0 hU41
              replace hs9 := hs9.upd0 hU41
              replace hs32 := hs32.upd0 hU41
              replace hO34 := hO34.upd0 hU41
              replace hs37 := hs37.upd0 hU41
              try replace hW := hW.trans0 hU41
              refine Wl_nil ?_
              intro w42 hS42
              have hX : Upd No w38 w42 := hW.trans0 hS42.upd
              refine ⟨fun _ => ⟨hX, ?_⟩, fun h => absurd h (by rw [show barOp _ 6 = false from by kernel_rfl]; simp)⟩
              have hU42 := hS42.upd
              have hzw42 := hU42.size
              replace hs := hs.upd0 hU42
              replace HU := HU.trans0 hU42
              replace hb1 := hb1.upd0 hU42
              replace hb2 := hb2.upd0 hU42
              replace hb3 := hb3.upd0 hU42
              replace hb4 := hb4.upd0 hU42
              replace hb5 := hb5.upd0 hU42
              replace hS6 := hS6.upd0 hU42
              replace hb7 := hb7.upd0 hU42
              replace hs9 := hs9.upd0 hU42
              replace hs32 := hs32.upd0 hU42
              replace hO34 := hO34.upd0 hU42
              replace hs37 := hs37.upd0 hU42
              try replace hW := hW.trans0 hU42
              refine Wt_base hX ?_
              intro w43 hU43
              have hzw43 := hU43.size
              replace hs := hs.upd0 hU43
              replace HU := HU.trans0 hU43
              replace hb1 := hb1.upd0 hU43
              replace hb2 := hb2.upd0 hU43
              replace hb3 := hb3.upd0 hU43
              replace hb4 := hb4.upd0 hU43
              replace hb5 := hb5.upd0 hU43
              replace hS6 := hS6.upd0 hU43
              replace hb7 := hb7.upd0 hU43
              replace hs9 := hs9.upd0 hU43
              replace hs32 := hs32.upd0 hU43
              replace hO34 := hO34.upd0 hU43
              replace hs37 := hs37.upd0 hU43
              try replace hW := hW.trans0 hU43
              refine Wa_one (i := 7) (listed' := #[true, true, true, true, true, true, true, true, false]) (by kernel_rfl) rfl (by kernel_rfl) ?_
              refine Ws_of_Wl ?_
              have hW : Upd No w42 w43 := hU43
              refine Wl_store (v := .int .i64 (((cds l).getD (fidx (qrd bits m) (cds l)).toNat (0, 0)).1)) (cs' := [.int .i64 (((cds l).getD (fidx (qrd bits m) (cds l)).toNat (0, 0)).1)]) Try.sizeOf3 rfl rfl rfl rfl hb4 rfl rfl ?_
              intro w44 hU44 hzz44 hb4n
              replace hb4 := hb4n; clear hb4n
              have hzw44 := hU44.size
              replace hs := hs.upd1 hU44 (by intro h1; have h3 : ((R B4) ∧ B4 < w.heap.size) := h1; omega)
              replace HU := HU.trans1 hU44 (by show (False) ∨ w.heap.size ≤ B4; omega)
              replace hb1 := hb1.upd1 hU44 (by omega)
              replace hb2 := hb2.upd1 hU44 (by omega)
              replace hb3 := hb3.upd1 hU44 (by omega)
              replace hb5 := hb5.upd1 hU44 (by omega)
              replace hS6 := hS6.upd1 hU44 (by intro h1; have h3 : ((R B4) ∧ B4 < w.heap.size) := h1; omega)
              replace hb7 := hb7.upd1 hU44 (by omega)
              replace hs9 := hs9.upd1 hU44 (by intro h1; have h3 : B4 = B9 := h1; omega)
              replace hs32 := hs32.upd1 hU44 (by intro h1; have h3 : B4 = B32 := h1; omega)
              replace hO34 := hO34.upd1 hU44 (by intro h1; have h3 : ((w33.heap.size ≤ B4) ∧ B4 < w34.heap.size) := h1; omega)
              replace hs37 := hs37.upd1 hU44 (by intro h1; have h3 : B4 = B37 := h1; omega)
              refine Wl_nil ?_
              intro w45 hS45
              refine ⟨fun h => absurd h (by rw [show barOp _ 7 = true from by kernel_rfl]; simp), fun _ => ⟨Upd No w45, ?_⟩⟩
              have hU45 := hS45.upd
              have hzw45 := hU45.size
              replace hs := hs.upd0 hU45
              replace HU := HU.trans0 hU45
              replace hb1 := hb1.upd0 hU45
              replace hb2 := hb2.upd0 hU45
              replace hb3 := hb3.upd0 hU45
              replace hb4 := hb4.upd0 hU45
              replace hb5 := hb5.upd0 hU45
              replace hS6 := hS6.upd0 hU45
              replace hb7 := hb7.upd0 hU45
              replace hs9 := hs9.upd0 hU45
              replace hs32 := hs32.upd0 hU45
              replace hO34 := hO34.upd0 hU45
              replace hs37 := hs37.upd0 hU45
              try replace hW := hW.trans0 hU45
              refine Wt_base (Upd.refl _ _) ?_
              intro w46 hU46
              have hzw46 := hU46.size
              replace hs := hs.upd0 hU46
              replace HU := HU.trans0 hU46
              replace hb1 := hb1.upd0 hU46
              replace hb2 := hb2.upd0 hU46
              replace hb3 := hb3.upd0 hU46
              replace hb4 := hb4.upd0 hU46
              replace hb5 := hb5.upd0 hU46
              replace hS6 := hS6.upd0 hU46
              replace hb7 := hb7.upd0 hU46
              replace hs9 := hs9.upd0 hU46
              replace hs32 := hs32.upd0 hU46
              replace hO34 := hO34.upd0 hU46
              replace hs37 := hs37.upd0 hU46
              try replace hW := hW.trans0 hU46
              refine Wa_one (i := 8) (listed' := #[true, true, true, true, true, true, true, true, true]) (by kernel_rfl) rfl (by kernel_rfl) ?_
              refine Ws_of_Wl ?_
              have hW : Upd No w45 w46 := hU46
              refine Wl_store (v := .int .i64 0) (cs' := [.int .i64 0]) Try.sizeOf26 rfl rfl rfl rfl hb5 rfl rfl ?_
              intro w47 hU47 hzz47 hb5n
              replace hb5 := hb5n; clear hb5n
              have hzw47 := hU47.size
              replace hs := hs.upd1 hU47 (by intro h1; have h3 : ((R B5) ∧ B5 < w.heap.size) := h1; omega)
              replace HU := HU.trans1 hU47 (by show (False) ∨ w.heap.size ≤ B5; omega)
              replace hb1 := hb1.upd1 hU47 (by omega)
              replace hb2 := hb2.upd1 hU47 (by omega)
              replace hb3 := hb3.upd1 hU47 (by omega)
              replace hb4 := hb4.upd1 hU47 (by omega)
              replace hS6 := hS6.upd1 hU47 (by intro h1; have h3 : ((R B5) ∧ B5 < w.heap.size) := h1; omega)
              replace hb7 := hb7.upd1 hU47 (by omega)
              replace hs9 := hs9.upd1 hU47 (by intro h1; have h3 : B5 = B9 := h1; omega)
              replace hs32 := hs32.upd1 hU47 (by intro h1; have h3 : B5 = B32 := h1; omega)
              replace hO34 := hO34.upd1 hU47 (by intro h1; have h3 : ((w33.heap.size ≤ B5) ∧ B5 < w34.heap.size) := h1; omega)
              replace hs37 := hs37.upd1 hU47 (by intro h1; have h3 : B5 = B37 := h1; omega)
              refine Wl_nil ?_
              intro w48 hS48
              refine ⟨fun h => absurd h (by rw [show barOp _ 8 = true from by kernel_rfl]; simp), fun _ => ⟨Upd No w48, ?_⟩⟩
              have hU48 := hS48.upd
              have hzw48 := hU48.size
              replace hs := hs.upd0 hU48
              replace HU := HU.trans0 hU48
              replace hb1 := hb1.upd0 hU48
              replace hb2 := hb2.upd0 hU48
              replace hb3 := hb3.upd0 hU48
              replace hb4 := hb4.upd0 hU48
              replace hb5 := hb5.upd0 hU48
              replace hS6 := hS6.upd0 hU48
              replace hb7 := hb7.upd0 hU48
              replace hs9 := hs9.upd0 hU48
              replace hs32 := hs32.upd0 hU48
              replace hO34 := hO34.upd0 hU48
              replace hs37 := hs37.upd0 hU48
              try replace hW := hW.trans0 hU48
              refine Wa_done (by kernel_rfl) ?_
              refine W_ret ?_
              refine ret_ds rfl ?_
              refine lv_call (by simp) Try.call33 rfl (caught_ret _) ?_
              rintro e1 u1 w49 ⟨rfl, v1, rfl, rfl, hU49⟩
              have hzw49 := hU49.size
              replace hs := hs.upd0 hU49
              replace HU := HU.trans0 hU49
              replace hb1 := hb1.upd0 hU49
              replace hb2 := hb2.upd0 hU49
              replace hb3 := hb3.upd0 hU49
              replace hb4 := hb4.upd0 hU49
              replace hb5 := hb5.upd0 hU49
              replace hS6 := hS6.upd0 hU49
              replace hb7 := hb7.upd0 hU49
              replace hs9 := hs9.upd0 hU49
              replace hs32 := hs32.upd0 hU49
              replace hO34 := hO34.upd0 hU49
              replace hs37 := hs37.upd0 hU49
              try replace hW := hW.trans0 hU49
              refine lv_nil (v := .tuple #[.int .i64 (fidx (qrd bits m) (cds l)), .int .i64 (((cds l).getD (fidx (qrd bits m) (cds l)).toNat (0, 0)).1), .int .i64 0]) (rc3 Try.results22 rfl rfl rfl (cellIs Try.isAgg3 hb3) (cellIs Try.isAgg3 hb4) (cellIs Try.isAgg26 hb5)) ?_
              rw [dec_ok q1 (show Va bits m from ⟨by omega, by first | (left; omega) | (right; assumption)⟩) (by omega)]
              exact ⟨_, rfl, (vtup3 (by first | rfl | exact vint (by omega)) (by first | rfl | exact vint (by omega)) (by first | rfl | exact vint (by omega))), HU⟩
            · rw [decide_eq_false q7]
              refine Wl_lit (pv := [(0, .bool false)]) (cs := [.bool false]) Try.underlying78 Try.sizeOf4 Try.zeroValue4 (by decide) (by decide) (by simp only [List.map_toArray, List.map_cons, List.map_nil] <;> rfl) (by kernel_rfl) rfl (by decide) ?_
              intro B50 w50 hB50 hU50 hzz50 hs50
              have hzw50 := hU50.size
              replace hs := hs.upd0 hU50
              replace HU := HU.trans0 hU50
              replace hb1 := hb1.upd0 hU50
              replace hb2 := hb2.upd0 hU50
              replace hb3 := hb3.upd0 hU50
              replace hb4 := hb4.upd0 hU50
              replace hb5 := hb5.upd0 hU50
              replace hS6 := hS6.upd0 hU50
              replace hb7 := hb7.upd0 hU50
              replace hs9 := hs9.upd0 hU50
              replace hs32 := hs32.upd0 hU50
              replace hO34 := hO34.upd0 hU50
              replace hs50 : Own w50 (Is B50) 4 1 (.slice (some ⟨B50, 0, none⟩) 1 1) 1 (rows encB [false]) := hs50
              refine Wl_callp (r_call2 rfl Try.call41 rfl rfl) (must_no _ hs50.sl (by omega) (by rfl)) ?_
              intro w51 hU51
              have hzw51 := hU51.size
              replace hs := hs.upd0 hU51
              replace HU := HU.trans0 hU51
              replace hb1 := hb1.upd0 hU51
              replace hb2 := hb2.upd0 hU51
              replace hb3 := hb3.upd0 hU51
              replace hb4 := hb4.upd0 hU51
              replace hb5 := hb5.upd0 hU51
              replace hS6 := hS6.upd0 hU51
              replace hb7 := hb7.upd0 hU51
              replace hs9 := hs9.upd0 hU51
              replace hs32 := hs32.upd0 hU51
              replace hO34 := hO34.upd0 hU51
              replace hs50 := hs50.upd0 hU51
              refine pan_ds rfl ?_
              refine lv_call (by simp) Try.call33 rfl (caught_pan (S := fun g => g = B3 ∨ g = B4) (Φ := fun w' => Blk w' B3 [.int .i64 0] ∧ Blk w' B4 [.int .i64 0]) _ hb5 Try.call40 (by show ¬ (B5 = B3 ∨ B5 = B4); first | omega | exact fun h => h) (dec_clr _ hb3 hb4 (by omega))) ?_
              rintro e1 u1 w52 ⟨rfl, v1, rfl, rfl, wq52, ⟨hz52_0, hz52_1⟩, hUa52, hUb52, hbe52⟩
              have hzwq52 := hUa52.size
              replace hs := hs.upd hUa52 (by intro x h1 h2; have h3 : ((R x) ∧ x < w.heap.size) := h1; have h4 : x = B3 ∨ x = B4 := h2; omega)
              replace HU := HU.trans hUa52 (by intro x hx; have hx2 : x = B3 ∨ x = B4 := hx; show (False) ∨ w.heap.size ≤ x; omega)
              replace hb1 := hb1.upd hUa52 (by intro hx; have hx2 : B1 = B3 ∨ B1 = B4 := hx; omega)
              replace hb2 := hb2.upd hUa52 (by intro hx; have hx2 : B2 = B3 ∨ B2 = B4 := hx; omega)
              replace hS6 := hS6.upd hUa52 (by intro x h1 h2; have h3 : ((R x) ∧ x < w.heap.size) := h1; have h4 : x = B3 ∨ x = B4 := h2; omega)
              replace hb7 := hb7.upd hUa52 (by intro hx; have hx2 : B7 = B3 ∨ B7 = B4 := hx; omega)
              replace hs9 := hs9.upd hUa52 (by intro x h1 h2; have h3 : x = B9 := h1; have h4 : x = B3 ∨ x = B4 := h2; omega)
              replace hs32 := hs32.upd hUa52 (by intro x h1 h2; have h3 : x = B32 := h1; have h4 : x = B3 ∨ x = B4 := h2; omega)
              replace hO34 := hO34.upd hUa52 (by intro x h1 h2; have h3 : ((w33.heap.size ≤ x) ∧ x < w34.heap.size) := h1; have h4 : x = B3 ∨ x = B4 := h2; omega)
              replace hs50 := hs50.upd hUa52 (by intro x h1 h2; have h3 : x = B50 := h1; have h4 : x = B3 ∨ x = B4 := h2; omega)
              have hzw52 := hUb52.size
              replace hs := hs.upd1 hUb52 (by intro h1; have h3 : ((R B5) ∧ B5 < w.heap.size) := h1; omega)
              replace HU := HU.trans1 hUb52 (by show (False) ∨ w.heap.size ≤ B5; omega)
              replace hb1 := hb1.upd1 hUb52 (by omega)
              replace hb2 := hb2.upd1 hUb52 (by omega)
              replace hS6 := hS6.upd1 hUb52 (by intro h1; have h3 : ((R B5) ∧ B5 < w.heap.size) := h1; omega)
              replace hb7 := hb7.upd1 hUb52 (by omega)
              replace hs9 := hs9.upd1 hUb52 (by intro h1; have h3 : B5 = B9 := h1; omega)
              replace hs32 := hs32.upd1 hUb52 (by intro h1; have h3 : B5 = B32 := h1; omega)
              replace hO34 := hO34.upd1 hUb52 (by intro h1; have h3 : ((w33.heap.size ≤ B5) ∧ B5 < w34.heap.size) := h1; omega)
              replace hs50 := hs50.upd1 hUb52 (by intro h1; have h3 : B5 = B50 := h1; omega)
              replace hz52_0 := hz52_0.upd1 hUb52 (by omega)
              replace hz52_1 := hz52_1.upd1 hUb52 (by omega)
              refine lv_nil (v := .tuple #[.int .i64 0, .int .i64 0, .int .i64 3]) (rc3 Try.results22 rfl rfl rfl (cellIs Try.isAgg3 hz52_0) (cellIs Try.isAgg3 hz52_1) (cellIs Try.isAgg26 hbe52)) ?_
              rw [dec_short q1 (show Va bits m from ⟨by omega, by first | (left; omega) | (right; assumption)⟩) (by omega)]
              exact ⟨_, rfl, (vtup3 (by first | rfl | exact vint (by omega)) (by first | rfl | exact vint (by omega)) (by first | rfl | exact vint (by omega))), HU⟩
          · rw [decide_eq_false q6]
            refine Wl_lit (pv := [(0, .bool false)]) (cs := [.bool false]) Try.underlying78 Try.sizeOf4 Try.zeroValue4 (by decide) (by decide) (by simp only [List.map_toArray, List.map_cons, List.map_nil] <;> rfl) (by kernel_rfl) rfl (by decide) ?_
            intro B53 w53 hB53 hU53 hzz53 hs53
            have hzw53 := hU53.size
            replace hs := hs.upd0 hU53
            replace HU := HU.trans0 hU53
            replace hb1 := hb1.upd0 hU53
            replace hb2 := hb2.upd0 hU53
            replace hb3 := hb3.upd0 hU53
            replace hb4 := hb4.upd0 hU53
            replace hb5 := hb5.upd0 hU53
            replace hS6 := hS6.upd0 hU53
            replace hb7 := hb7.upd0 hU53
            replace hs9 := hs9.upd0 hU53
            replace hs53 : Own w53 (Is B53) 4 1 (.slice (some ⟨B53, 0, none⟩) 1 1) 1 (rows encB [false]) := hs53
            refine Wl_callp (r_call2 rfl Try.call41 rfl rfl) (must_no _ hs53.sl (by omega) (by rfl)) ?_
            intro w54 hU54
            have hzw54 := hU54.size
            replace hs := hs.upd0 hU54
            replace HU := HU.trans0 hU54
            replace hb1 := hb1.upd0 hU54
            replace hb2 := hb2.upd0 hU54
            replace hb3 := hb3.upd0 hU54
            replace hb4 := hb4.upd0 hU54
            replace hb5 := hb5.upd0 hU54
            replace hS6 := hS6.upd0 hU54
            replace hb7 := hb7.upd0 hU54
            replace hs9 := hs9.upd0 hU54
            replace hs53 := hs53.upd0 hU54
            refine pan_ds rfl ?_
            refine lv_call (by simp) Try.call33 rfl (caught_pan (S := fun g => g = B3 ∨ g = B4) (Φ := fun w' => Blk w' B3 [.int .i64 0] ∧ Blk w' B4 [.int .i64 0]) _ hb5 Try.call40 (by show ¬ (B5 = B3 ∨ B5 = B4); first | omega | exact fun h => h) (dec_clr _ hb3 hb4 (by omega))) ?_
            rintro e1 u1 w55 ⟨rfl, v1, rfl, rfl, wq55, ⟨hz55_0, hz55_1⟩, hUa55, hUb55, hbe55⟩
            have hzwq55 := hUa55.size
            replace hs := hs.upd hUa55 (by intro x h1 h2; have h3 : ((R x) ∧ x < w.heap.size) := h1; have h4 : x = B3 ∨ x = B4 := h2; omega)
            replace HU := HU.trans hUa55 (by intro x hx; have hx2 : x = B3 ∨ x = B4 := hx; show (False) ∨ w.heap.size ≤ x; omega)
            replace hb1 := hb1.upd hUa55 (by intro hx; have hx2 : B1 = B3 ∨ B1 = B4 := hx; omega)
            replace hb2 := hb2.upd hUa55 (by intro hx; have hx2 : B2 = B3 ∨ B2 = B4 := hx; omega)
            replace hS6 := hS6.upd hUa55 (by intro x h1 h2; have h3 : ((R x) ∧ x < w.heap.size) := h1; have h4 : x = B3 ∨ x = B4 := h2; omega)
            replace hb7 := hb7.upd hUa55 (by intro hx; have hx2 : B7 = B3 ∨ B7 = B4 := hx; omega)
            replace hs9 := hs9.upd hUa55 (by intro x h1 h2; have h3 : x = B9 := h1; have h4 : x = B3 ∨ x = B4 := h2; omega)
            replace hs53 := hs53.upd hUa55 (by intro x h1 h2; have h3 : x = B53 := h1; have h4 : x = B3 ∨ x = B4 := h2; omega)
            have hzw55 := hUb55.size
            replace hs := hs.upd1 hUb55 (by intro h1; have h3 : ((R B5) ∧ B5 < w.heap.size) := h1; omega)
            replace HU := HU.trans1 hUb55 (by show (False) ∨ w.heap.size ≤ B5; omega)
            replace hb1 := hb1.upd1 hUb55 (by omega)
            replace hb2 := hb2.upd1 hUb55 (by omega)
            replace hS6 := hS6.upd1 hUb55 (by intro h1; have h3 : ((R B5) ∧ B5 < w.heap.size) := h1; omega)
            replace hb7 := hb7.upd1 hUb55 (by omega)
            replace hs9 := hs9.upd1 hUb55 (by intro h1; have h3 : B5 = B9 := h1; omega)
            replace hs53 := hs53.upd1 hUb55 (by intro h1; have h3 : B5 = B53 := h1; omega)
            replace hz55_0 := hz55_0.upd1 hUb55 (by omega)
            replace hz55_1 := hz55_1.upd1 hUb55 (by omega)
            refine lv_nil (v := .tuple #[.int .i64 0, .int .i64 0, .int .i64 2]) (rc3 Try.results22 rfl rfl rfl (cellIs Try.isAgg3 hz55_0) (cellIs Try.isAgg3 hz55_1) (cellIs Try.isAgg26 hbe55)) ?_
            rw [dec_arg q1 (fun h => by unfold Va at h; omega)]
            exact ⟨_, rfl, (vtup3 (by first | rfl | exact vint (by omega)) (by first | rfl | exact vint (by omega)) (by first | rfl | exact vint (by omega))), HU⟩
      · rw [decide_eq_false q3]
        refine Wl_lit (pv := [(0, .bool false)]) (cs := [.bool false]) Try.underlying78 Try.sizeOf4 Try.zeroValue4 (by decide) (by decide) (by simp only [List.map_toArray, List.map_cons, List.map_nil] <;> rfl) (by kernel_rfl) rfl (by decide) ?_
        intro B56 w56 hB56 hU56 hzz56 hs56
        have hzw56 := hU56.size
        replace hs := hs.upd0 hU56
        replace HU := HU.trans0 hU56
        replace hb1 := hb1.upd0 hU56
        replace hb2 := hb2.upd0 hU56
        replace hb3 := hb3.upd0 hU56
        replace hb4 := hb4.upd0 hU56
        replace hb5 := hb5.upd0 hU56
        replace hS6 := hS6.upd0 hU56
        replace hb7 := hb7.upd0 hU56
        replace hs56 : Own w56 (Is B56) 4 1 (.slice (some ⟨B56, 0, none⟩) 1 1) 1 (rows encB [false]) := hs56
        refine Wl_callp (r_call2 rfl Try.call41 rfl rfl) (must_no _ hs56.sl (by omega) (by rfl)) ?_
        intro w57 hU57
        have hzw57 := hU57.size
        replace hs := hs.upd0 hU57
        replace HU := HU.trans0 hU57
        replace hb1 := hb1.upd0 hU57
        replace hb2 := hb2.upd0 hU57
        replace hb3 := hb3.upd0 hU57
        replace hb4 := hb4.upd0 hU57
        replace hb5 := hb5.upd0 hU57
        replace hS6 := hS6.upd0 hU57
        replace hb7 := hb7.upd0 hU57
        replace hs56 := hs56.upd0 hU57
        refine pan_ds rfl ?_
        refine lv_call (by simp) Try.call33 rfl (caught_pan (S := fun g => g = B3 ∨ g = B4) (Φ := fun w' => Blk w' B3 [.int .i64 0] ∧ Blk w' B4 [.int .i64 0]) _ hb5 Try.call40 (by show ¬ (B5 = B3 ∨ B5 = B4); first | omega | exact fun h => h) (dec_clr _ hb3 hb4 (by omega))) ?_
        rintro e1 u1 w58 ⟨rfl, v1, rfl, rfl, wq58, ⟨hz58_0, hz58_1⟩, hUa58, hUb58, hbe58⟩
        have hzwq58 := hUa58.size
        replace hs := hs.upd hUa58 (by intro x h1 h2; have h3 : ((R x) ∧ x < w.heap.size) := h1; have h4 : x = B3 ∨ x = B4 := h2; omega)
        replace HU := HU.trans hUa58 (by intro x hx; have hx2 : x = B3 ∨ x = B4 := hx; show (False) ∨ w.heap.size ≤ x; omega)
        replace hb1 := hb1.upd hUa58 (by intro hx; have hx2 : B1 = B3 ∨ B1 = B4 := hx; omega)
        replace hb2 := hb2.upd hUa58 (by intro hx; have hx2 : B2 = B3 ∨ B2 = B4 := hx; omega)
        replace hS6 := hS6.upd hUa58 (by intro x h1 h2; have h3 : ((R x) ∧ x < w.heap.size) := h1; have h4 : x = B3 ∨ x = B4 := h2; omega)
        replace hb7 := hb7.upd hUa58 (by intro hx; have hx2 : B7 = B3 ∨ B7 = B4 := hx; omega)
        replace hs56 := hs56.upd hUa58 (by intro x h1 h2; have h3 : x = B56 := h1; have h4 : x = B3 ∨ x = B4 := h2; omega)
        have hzw58 := hUb58.size
        replace hs := hs.upd1 hUb58 (by intro h1; have h3 : ((R B5) ∧ B5 < w.heap.size) := h1; omega)
        replace HU := HU.trans1 hUb58 (by show (False) ∨ w.heap.size ≤ B5; omega)
        replace hb1 := hb1.upd1 hUb58 (by omega)
        replace hb2 := hb2.upd1 hUb58 (by omega)
        replace hS6 := hS6.upd1 hUb58 (by intro h1; have h3 : ((R B5) ∧ B5 < w.heap.size) := h1; omega)
        replace hb7 := hb7.upd1 hUb58 (by omega)
        replace hs56 := hs56.upd1 hUb58 (by intro h1; have h3 : B5 = B56 := h1; omega)
        replace hz58_0 := hz58_0.upd1 hUb58 (by omega)
        replace hz58_1 := hz58_1.upd1 hUb58 (by omega)
        refine lv_nil (v := .tuple #[.int .i64 0, .int .i64 0, .int .i64 2]) (rc3 Try.results22 rfl rfl rfl (cellIs Try.isAgg3 hz58_0) (cellIs Try.isAgg3 hz58_1) (cellIs Try.isAgg26 hbe58)) ?_
        rw [dec_arg q1 (fun h => by unfold Va at h; omega)]
        exact ⟨_, rfl, (vtup3 (by first | rfl | exact vint (by omega)) (by first | rfl | exact vint (by omega)) (by first | rfl | exact vint (by omega))), HU⟩
    · rw [decide_eq_false q2]
      refine Wl_guard_f rfl ?_
      refine Wl_guard_f rfl ?_
      refine Wl_v (r_pick_f (v := .bool false) rfl rfl) ?_
      refine Wl_lit (pv := [(0, .bool false)]) (cs := [.bool false]) Try.underlying78 Try.sizeOf4 Try.zeroValue4 (by decide) (by decide) (by simp only [List.map_toArray, List.map_cons, List.map_nil] <;> rfl) (by kernel_rfl) rfl (by decide) ?_
      intro B59 w59 hB59 hU59 hzz59 hs59
      have hzw59 := hU59.size
      replace hs := hs.upd0 hU59
      replace HU := HU.trans0 hU59
      replace hb1 := hb1.upd0 hU59
      replace hb2 := hb2.upd0 hU59
      replace hb3 := hb3.upd0 hU59
      replace hb4 := hb4.upd0 hU59
      replace hb5 := hb5.upd0 hU59
      replace hS6 := hS6.upd0 hU59
      replace hb7 := hb7.upd0 hU59
      replace hs59 : Own w59 (Is B59) 4 1 (.slice (some ⟨B59, 0, none⟩) 1 1) 1 (rows encB [false]) := hs59
      refine Wl_callp (r_call2 rfl Try.call41 rfl rfl) (must_no _ hs59.sl (by omega) (by rfl)) ?_
      intro w60 hU60
      have hzw60 := hU60.size
      replace hs := hs.upd0 hU60
      replace HU := HU.trans0 hU60
      replace hb1 := hb1.upd0 hU60
      replace hb2 := hb2.upd0 hU60
      replace hb3 := hb3.upd0 hU60
      replace hb4 := hb4.upd0 hU60
      replace hb5 := hb5.upd0 hU60
      replace hS6 := hS6.upd0 hU60
      replace hb7 := hb7.upd0 hU60
      replace hs59 := hs59.upd0 hU60
      refine pan_ds rfl ?_
      refine lv_call (by simp) Try.call33 rfl (caught_pan (S := fun g => g = B3 ∨ g = B4) (Φ := fun w' => Blk w' B3 [.int .i64 0] ∧ Blk w' B4 [.int .i64 0]) _ hb5 Try.call40 (by show ¬ (B5 = B3 ∨ B5 = B4); first | omega | exact fun h => h) (dec_clr _ hb3 hb4 (by omega))) ?_
      rintro e1 u1 w61 ⟨rfl, v1, rfl, rfl, wq61, ⟨hz61_0, hz61_1⟩, hUa61, hUb61, hbe61⟩
      have hzwq61 := hUa61.size
      replace hs := hs.upd hUa61 (by intro x h1 h2; have h3 : ((R x) ∧ x < w.heap.size) := h1; have h4 : x = B3 ∨ x = B4 := h2; omega)
      replace HU := HU.trans hUa61 (by intro x hx; have hx2 : x = B3 ∨ x = B4 := hx; show (False) ∨ w.heap.size ≤ x; omega)
      replace hb1 := hb1.upd hUa61 (by intro hx; have hx2 : B1 = B3 ∨ B1 = B4 := hx; omega)
      replace hb2 := hb2.upd hUa61 (by intro hx; have hx2 : B2 = B3 ∨ B2 = B4 := hx; omega)
      replace hS6 := hS6.upd hUa61 (by intro x h1 h2; have h3 : ((R x) ∧ x < w.heap.size) := h1; have h4 : x = B3 ∨ x = B4 := h2; omega)
      replace hb7 := hb7.upd hUa61 (by intro hx; have hx2 : B7 = B3 ∨ B7 = B4 := hx; omega)
      replace hs59 := hs59.upd hUa61 (by intro x h1 h2; have h3 : x = B59 := h1; have h4 : x = B3 ∨ x = B4 := h2; omega)
      have hzw61 := hUb61.size
      replace hs := hs.upd1 hUb61 (by intro h1; have h3 : ((R B5) ∧ B5 < w.heap.size) := h1; omega)
      replace HU := HU.trans1 hUb61 (by show (False) ∨ w.heap.size ≤ B5; omega)
      replace hb1 := hb1.upd1 hUb61 (by omega)
      replace hb2 := hb2.upd1 hUb61 (by omega)
      replace hS6 := hS6.upd1 hUb61 (by intro h1; have h3 : ((R B5) ∧ B5 < w.heap.size) := h1; omega)
      replace hb7 := hb7.upd1 hUb61 (by omega)
      replace hs59 := hs59.upd1 hUb61 (by intro h1; have h3 : B5 = B59 := h1; omega)
      replace hz61_0 := hz61_0.upd1 hUb61 (by omega)
      replace hz61_1 := hz61_1.upd1 hUb61 (by omega)
      refine lv_nil (v := .tuple #[.int .i64 0, .int .i64 0, .int .i64 2]) (rc3 Try.results22 rfl rfl rfl (cellIs Try.isAgg3 hz61_0) (cellIs Try.isAgg3 hz61_1) (cellIs Try.isAgg26 hbe61)) ?_
      rw [dec_arg q1 (fun h => by unfold Va at h; omega)]
      exact ⟨_, rfl, (vtup3 (by first | rfl | exact vint (by omega)) (by first | rfl | exact vint (by omega)) (by first | rfl | exact vint (by omega))), HU⟩
  · refine Wl_callp (r_call1 rfl Try.call35 rfl) (of_no _ hs (by omega) q1) ?_
    intro w62 hU62
    have hzw62 := hU62.size
    replace hs := hs.upd0 hU62
    replace HU := HU.trans0 hU62
    replace hb1 := hb1.upd0 hU62
    replace hb2 := hb2.upd0 hU62
    replace hb3 := hb3.upd0 hU62
    replace hb4 := hb4.upd0 hU62
    replace hb5 := hb5.upd0 hU62
    refine pan_ds rfl ?_
    refine lv_call (by simp) Try.call33 rfl (caught_pan (S := fun g => g = B3 ∨ g = B4) (Φ := fun w' => Blk w' B3 [.int .i64 0] ∧ Blk w' B4 [.int .i64 0]) _ hb5 Try.call40 (by show ¬ (B5 = B3 ∨ B5 = B4); first | omega | exact fun h => h) (dec_clr _ hb3 hb4 (by omega))) ?_
    rintro e1 u1 w63 ⟨rfl, v1, rfl, rfl, wq63, ⟨hz63_0, hz63_1⟩, hUa63, hUb63, hbe63⟩
    have hzwq63 := hUa63.size
    replace hs := hs.upd hUa63 (by intro x h1 h2; have h3 : ((R x) ∧ x < w.heap.size) := h1; have h4 : x = B3 ∨ x = B4 := h2; omega)
    replace HU := HU.trans hUa63 (by intro x hx; have hx2 : x = B3 ∨ x = B4 := hx; show (False) ∨ w.heap.size ≤ x; omega)
    replace hb1 := hb1.upd hUa63 (by intro hx; have hx2 : B1 = B3 ∨ B1 = B4 := hx; omega)
    replace hb2 := hb2.upd hUa63 (by intro hx; have hx2 : B2 = B3 ∨ B2 = B4 := hx; omega)
    have hzw63 := hUb63.size
    replace hs := hs.upd1 hUb63 (by intro h1; have h3 : ((R B5) ∧ B5 < w.heap.size) := h1; omega)
    replace HU := HU.trans1 hUb63 (by show (False) ∨ w.heap.size ≤ B5; omega)
    replace hb1 := hb1.upd1 hUb63 (by omega)
    replace hb2 := hb2.upd1 hUb63 (by omega)
    replace hz63_0 := hz63_0.upd1 hUb63 (by omega)
    replace hz63_1 := hz63_1.upd1 hUb63 (by omega)
    refine lv_nil (v := .tuple #[.int .i64 0, .int .i64 0, .int .i64 12]) (rc3 Try.results22 rfl rfl rfl (cellIs Try.isAgg3 hz63_0) (cellIs Try.isAgg3 hz63_1) (cellIs Try.isAgg26 hbe63)) ?_
    rw [dec_no q1]
    exact ⟨_, rfl, (vtup3 (by first | rfl | exact vint (by omega)) (by first | rfl | exact vint (by omega)) (by first | rfl | exact vint (by omega))), HU⟩

end Go.Proofs.Ytakbopikohghmaa
