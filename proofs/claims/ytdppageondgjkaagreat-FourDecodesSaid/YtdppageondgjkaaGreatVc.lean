/-
 Walks, printed by a small program of this project (gen.py).
-/
import Derived.Test.YtdppageondgjkaaGreatVb
set_option linter.unusedVariables false
set_option linter.unusedSimpArgs false
set_option maxRecDepth 100000
namespace Go.Proofs.YtdppageondgjkaaGreat
open Go.Fw _root_.Go.Proofs.Tryz
open Nu
theorem lens_all {pb : Nat} {a2 : Option Addr} {m d : Nat} {b : List Int} (w : World) (hp : Blk w pb [.slice a2 m d, .int .i64 0]) (hsb : Sl w (fun g => g < w.heap.size ∧ g ≠ pb) 1 (.slice a2 m d) m (ints .u8 b)) (hb : Byt b) (hm : m ≤ 100000) :
  Calls Tryz.prog 81 #[.agg #[.pointer (some ⟨pb, 0, none⟩)]] w (Dual (e3 b = 0) (Ret fun v w' => v = .agg #[.int .i64 ((gnum b 0 131072).1), .int .i64 ((gnum b (gnum b 0 131072).2.1 131072).1), .int .i64 ((gnum b (gnum b (gnum b 0 131072).2.1 131072).2.1 131072).1)] ∧ Blk w' pb [.slice a2 m d, .int .i64 (((gnum b (gnum b (gnum b 0 131072).2.1 131072).2.1 131072).2.1 : Nat) : Int)] ∧ Upd (Is pb) w w') (Pan (.iface 23 (.int .i64 (e3 b))) fun w' => Upd (Is pb) w w')) := by
 have HU : Upd (fun b => b = pb) w w := Upd.refl _ _
 have hbl_hp := hp.lt
 have hl_hsb := ilen hsb
 have hc_hsb := hsb.cap.1
 refine calls_of_W func81 rfl ntmps81 (by simp) ?_
 refine W_seq (W_region ?_)
 refine Wl_box (v := .agg #[.pointer (some ⟨pb, 0, none⟩)]) (cs := [.pointer (some ⟨pb, 0, none⟩)]) rfl rfl ?_
 intro B1 w1 hB1 hU1 hzz1 hb1
 have hzw1 := hU1.size
 replace hp := hp.upd0 hU1
 replace hsb := hsb.upd0 hU1
 replace HU := HU.trans0 hU1
 refine Wl_alloc (cs := [.int .i64 0, .int .i64 0, .int .i64 0]) zeroValue84 rfl ?_
 intro B2 w2 hB2 hU2 hzz2 hb2
 have hzw2 := hU2.size
 replace hp := hp.upd0 hU2
 replace hsb := hsb.upd0 hU2
 replace HU := HU.trans0 hU2
 replace hb1 := hb1.upd0 hU2
 refine Wl_nil (W_seq (W_seq (W_region ?_)))
 refine Wmv (.int .i64 0) ?_
 refine Wl_nil (W_block ?_)
 refine W_unroll 4 ?_
 refine unrK_succ ?_
 refine W_seq (W_region ?_)
 refine Wl_v (v := .bool true) (r_lt (a := 0) (b := 3) rfl rfl) ?_
 refine Wl_nil (W_seq ?_)
 refine W_cond_t rfl ?_
 refine W_skip (W_seq (W_block (W_seq (W_region ?_))))
 refine Wmv (.int .i64 0) ?_
 refine Was (.int .i64 0) ?_
 refine Wl_nil (W_seq (W_region ?_))
 refine Wl_v (r_fld underlying82 rfl sizeOf79 rfl rfl) ?_
 refine Wl_load (v := .pointer (some ⟨pb, 0, none⟩)) isAgg79 rfl hb1 rfl ?_
 refine Wl_call (r_call2 rfl call105 rfl rfl) (Nu.cnumber_spec (p := 0) _ hp (hsb.cur (by intro h1; have h3 : (pb < w.heap.size ∧ pb ≠ pb) := h1; first | omega | simp at h3)) hb (by omega) (by omega) (by omega)) ?_
 rintro v w3 ⟨rfl, hp3, hU3⟩
 have hzw3 := hU3.size
 replace hsb := hsb.upd1 hU3 (show ¬ ((pb < w.heap.size ∧ pb ≠ pb)) by omega)
 replace HU := HU.trans1 hU3 (by show (pb = pb) ∨ w.heap.size ≤ pb; omega)
 replace hb1 := hb1.upd1 hU3 (by omega)
 replace hb2 := hb2.upd1 hU3 (by omega)
 have hbl_hp3 := hp3.lt
 have hgp3 := gnum_props (bs := b) (p := 0) (most := 131072) (by omega)
 refine Wmv (.tuple #[.int .i64 ((gnum b 0 131072).1), .int .i64 ((gnum b 0 131072).2.2)]) ?_
 refine Wl_v (r_ext (v := .int .i64 ((gnum b 0 131072).1)) rfl rfl) ?_
 refine Wl_v (r_ext (v := .int .i64 ((gnum b 0 131072).2.2)) rfl rfl) ?_
 refine Was (.int .i64 ((gnum b 0 131072).1)) ?_
 refine Was (.int .i64 ((gnum b 0 131072).2.2)) ?_
 refine Wl_nil (W_seq (W_region ?_))
 refine Wmv (.int .i64 ((gnum b 0 131072).2.2)) ?_
 refine Wl_lit (pv := [(0, .int .i64 ((gnum b 0 131072).2.2))]) (cs := [.int .i64 ((gnum b 0 131072).2.2)]) underlying112 sizeOf23 zeroValue23 (by decide) (by decide) (by simp only [List.map_toArray, List.map_cons, List.map_nil] <;> rfl) (by kernel_rfl) rfl (by decide) ?_
 intro B4 w4 hB4 hU4 hzz4 hs4
 have hzw4 := hU4.size
 replace hsb := hsb.upd0 hU4
 replace HU := HU.trans0 hU4
 replace hb1 := hb1.upd0 hU4
 replace hb2 := hb2.upd0 hU4
 replace hp3 := hp3.upd0 hU4
 replace hs4 : Own w4 (Is B4) 23 1 (.slice (some ⟨B4, 0, none⟩) 1 1) 1 (ints .i64 [(gnum b 0 131072).2.2]) := hs4
 by_cases q1 : ((gnum b 0 131072).2.2) = 0
 ·refine Wl_call (r_call1 rfl call38 rfl) (fmust_ok (er := (gnum b 0 131072).2.2) _ hs4.sl.any q1) ?_
  rintro v w5 ⟨rfl, hU5⟩
  have hzw5 := hU5.size
  replace hsb := hsb.upd0 hU5
  replace HU := HU.trans0 hU5
  replace hb1 := hb1.upd0 hU5
  replace hb2 := hb2.upd0 hU5
  replace hp3 := hp3.upd0 hU5
  refine Wl_nil (W_region ?_)
  refine Wmv (.int .i64 0) ?_
  refine Wmv (.int .i64 ((gnum b 0 131072).1)) ?_
  refine Wl_v (r_idxa (len := 3) (i' := 0) (o' := 0) underlying84 sizeOf3 rfl rfl (by omega) (by omega) (by omega)) ?_
  refine Wl_store (v := .int .i64 ((gnum b 0 131072).1)) (cs' := [.int .i64 ((gnum b 0 131072).1), .int .i64 0, .int .i64 0]) sizeOf3 rfl rfl rfl rfl hb2 rfl rfl ?_
  intro w6 hU6 hzz6 hb2n
  replace hb2 := hb2n; clear hb2n
  have hzw6 := hU6.size
  replace hsb := hsb.upd1 hU6 (show ¬ ((B2 < w.heap.size ∧ B2 ≠ pb)) by omega)
  replace HU := HU.trans1 hU6 (by show (B2 = pb) ∨ w.heap.size ≤ B2; omega)
  replace hb1 := hb1.upd1 hU6 (by omega)
  replace hp3 := hp3.upd1 hU6 (by omega)
  refine Wl_nil (W_region ?_)
  refine Wl_v (r_add rfl rfl (show _ = (1 : Int) from by decide)) ?_
  refine Wmv (.int .i64 1) ?_
  refine Wl_nil ?_
  refine unrK_succ ?_
  refine W_seq (W_region ?_)
  refine Wl_v (v := .bool true) (r_lt (a := 1) (b := 3) rfl rfl) ?_
  refine Wl_nil (W_seq ?_)
  refine W_cond_t rfl ?_
  refine W_skip (W_seq (W_block (W_seq (W_region ?_))))
  refine Wmv (.int .i64 1) ?_
  refine Was (.int .i64 1) ?_
  refine Wl_nil (W_seq (W_region ?_))
  refine Wl_v (r_fld underlying82 rfl sizeOf79 rfl rfl) ?_
  refine Wl_load (v := .pointer (some ⟨pb, 0, none⟩)) isAgg79 rfl hb1 rfl ?_
  refine Wl_call (r_call2 rfl call105 rfl rfl) (Nu.cnumber_spec _ hp3 (hsb.cur (by intro h1; have h3 : (pb < w.heap.size ∧ pb ≠ pb) := h1; first | omega | simp at h3)) hb (by omega) (by omega) (by omega)) ?_
  rintro v w7 ⟨rfl, hp7, hU7⟩
  have hzw7 := hU7.size
  replace hsb := hsb.upd1 hU7 (show ¬ ((pb < w.heap.size ∧ pb ≠ pb)) by omega)
  replace HU := HU.trans1 hU7 (by show (pb = pb) ∨ w.heap.size ≤ pb; omega)
  replace hb1 := hb1.upd1 hU7 (by omega)
  replace hb2 := hb2.upd1 hU7 (by omega)
  have hbl_hp7 := hp7.lt
  have hgp7 := gnum_props (bs := b) (p := (gnum b 0 131072).2.1) (most := 131072) (by omega)
  refine Wmv (.tuple #[.int .i64 ((gnum b ((gnum b 0 131072).2.1) 131072).1), .int .i64 ((gnum b ((gnum b 0 131072).2.1) 131072).2.2)]) ?_
  refine Wl_v (r_ext (v := .int .i64 ((gnum b ((gnum b 0 131072).2.1) 131072).1)) rfl rfl) ?_
  refine Wl_v (r_ext (v := .int .i64 ((gnum b ((gnum b 0 131072).2.1) 131072).2.2)) rfl rfl) ?_
  refine Was (.int .i64 ((gnum b ((gnum b 0 131072).2.1) 131072).1)) ?_
  refine Was (.int .i64 ((gnum b ((gnum b 0 131072).2.1) 131072).2.2)) ?_
  refine Wl_nil (W_seq (W_region ?_))
  refine Wmv (.int .i64 ((gnum b ((gnum b 0 131072).2.1) 131072).2.2)) ?_
  refine Wl_lit (pv := [(0, .int .i64 ((gnum b ((gnum b 0 131072).2.1) 131072).2.2))]) (cs := [.int .i64 ((gnum b ((gnum b 0 131072).2.1) 131072).2.2)]) underlying112 sizeOf23 zeroValue23 (by decide) (by decide) (by simp only [List.map_toArray, List.map_cons, List.map_nil] <;> rfl) (by kernel_rfl) rfl (by decide) ?_
  intro B8 w8 hB8 hU8 hzz8 hs8
  have hzw8 := hU8.size
  replace hsb := hsb.upd0 hU8
  replace HU := HU.trans0 hU8
  replace hb1 := hb1.upd0 hU8
  replace hb2 := hb2.upd0 hU8
  replace hp7 := hp7.upd0 hU8
  replace hs8 : Own w8 (Is B8) 23 1 (.slice (some ⟨B8, 0, none⟩) 1 1) 1 (ints .i64 [(gnum b ((gnum b 0 131072).2.1) 131072).2.2]) := hs8
  by_cases q2 : ((gnum b ((gnum b 0 131072).2.1) 131072).2.2) = 0
  ·refine Wl_call (r_call1 rfl call38 rfl) (fmust_ok (er := (gnum b ((gnum b 0 131072).2.1) 131072).2.2) _ hs8.sl.any q2) ?_
   rintro v w9 ⟨rfl, hU9⟩
   have hzw9 := hU9.size
   replace hsb := hsb.upd0 hU9
   replace HU := HU.trans0 hU9
   replace hb1 := hb1.upd0 hU9
   replace hb2 := hb2.upd0 hU9
   replace hp7 := hp7.upd0 hU9
   refine Wl_nil (W_region ?_)
   refine Wmv (.int .i64 1) ?_
   refine Wmv (.int .i64 ((gnum b ((gnum b 0 131072).2.1) 131072).1)) ?_
   refine Wl_v (r_idxa (len := 3) (i' := 1) (o' := 1) underlying84 sizeOf3 rfl rfl (by omega) (by omega) (by omega)) ?_
   refine Wl_store (v := .int .i64 ((gnum b ((gnum b 0 131072).2.1) 131072).1)) (cs' := [.int .i64 ((gnum b 0 131072).1), .int .i64 ((gnum b ((gnum b 0 131072).2.1) 131072).1), .int .i64 0]) sizeOf3 rfl rfl rfl rfl hb2 rfl rfl ?_
   intro w10 hU10 hzz10 hb2n
   replace hb2 := hb2n; clear hb2n
   have hzw10 := hU10.size
   replace hsb := hsb.upd1 hU10 (show ¬ ((B2 < w.heap.size ∧ B2 ≠ pb)) by omega)
   replace HU := HU.trans1 hU10 (by show (B2 = pb) ∨ w.heap.size ≤ B2; omega)
   replace hb1 := hb1.upd1 hU10 (by omega)
   replace hp7 := hp7.upd1 hU10 (by omega)
   refine Wl_nil (W_region ?_)
   refine Wl_v (r_add rfl rfl (show _ = (2 : Int) from by decide)) ?_
   refine Wmv (.int .i64 2) ?_
   refine Wl_nil ?_
   refine unrK_succ ?_
   refine W_seq (W_region ?_)
   refine Wl_v (v := .bool true) (r_lt (a := 2) (b := 3) rfl rfl) ?_
   refine Wl_nil (W_seq ?_)
   refine W_cond_t rfl ?_
   refine W_skip (W_seq (W_block (W_seq (W_region ?_))))
   refine Wmv (.int .i64 2) ?_
   refine Was (.int .i64 2) ?_
   refine Wl_nil (W_seq (W_region ?_))
   refine Wl_v (r_fld underlying82 rfl sizeOf79 rfl rfl) ?_
   refine Wl_load (v := .pointer (some ⟨pb, 0, none⟩)) isAgg79 rfl hb1 rfl ?_
   refine Wl_call (r_call2 rfl call105 rfl rfl) (Nu.cnumber_spec _ hp7 (hsb.cur (by intro h1; have h3 : (pb < w.heap.size ∧ pb ≠ pb) := h1; first | omega | simp at h3)) hb (by omega) (by omega) (by omega)) ?_
   rintro v w11 ⟨rfl, hp11, hU11⟩
   have hzw11 := hU11.size
   replace HU := HU.trans1 hU11 (by show (pb = pb) ∨ w.heap.size ≤ pb; omega)
   replace hb2 := hb2.upd1 hU11 (by omega)
   have hbl_hp11 := hp11.lt
   have hgp11 := gnum_props (bs := b) (p := (gnum b ((gnum b 0 131072).2.1) 131072).2.1) (most := 131072) (by omega)
   refine Wmv (.tuple #[.int .i64 ((gnum b ((gnum b ((gnum b 0 131072).2.1) 131072).2.1) 131072).1), .int .i64 ((gnum b ((gnum b ((gnum b 0 131072).2.1) 131072).2.1) 131072).2.2)]) ?_
   refine Wl_v (r_ext (v := .int .i64 ((gnum b ((gnum b ((gnum b 0 131072).2.1) 131072).2.1) 131072).1)) rfl rfl) ?_
   refine Wl_v (r_ext (v := .int .i64 ((gnum b ((gnum b ((gnum b 0 131072).2.1) 131072).2.1) 131072).2.2)) rfl rfl) ?_
   refine Was (.int .i64 ((gnum b ((gnum b ((gnum b 0 131072).2.1) 131072).2.1) 131072).1)) ?_
   refine Was (.int .i64 ((gnum b ((gnum b ((gnum b 0 131072).2.1) 131072).2.1) 131072).2.2)) ?_
   refine Wl_nil (W_seq (W_region ?_))
   refine Wmv (.int .i64 ((gnum b ((gnum b ((gnum b 0 131072).2.1) 131072).2.1) 131072).2.2)) ?_
   refine Wl_lit (pv := [(0, .int .i64 ((gnum b ((gnum b ((gnum b 0 131072).2.1) 131072).2.1) 131072).2.2))]) (cs := [.int .i64 ((gnum b ((gnum b ((gnum b 0 131072).2.1) 131072).2.1) 131072).2.2)]) underlying112 sizeOf23 zeroValue23 (by decide) (by decide) (by simp only [List.map_toArray, List.map_cons, List.map_nil] <;> rfl) (by kernel_rfl) rfl (by decide) ?_
   intro B12 w12 hB12 hU12 hzz12 hs12
   have hzw12 := hU12.size
   replace HU := HU.trans0 hU12
   replace hb2 := hb2.upd0 hU12
   replace hp11 := hp11.upd0 hU12
   replace hs12 : Own w12 (Is B12) 23 1 (.slice (some ⟨B12, 0, none⟩) 1 1) 1 (ints .i64 [(gnum b ((gnum b ((gnum b 0 131072).2.1) 131072).2.1) 131072).2.2]) := hs12
   by_cases q3 : ((gnum b ((gnum b ((gnum b 0 131072).2.1) 131072).2.1) 131072).2.2) = 0
   ·refine Wl_call (r_call1 rfl call38 rfl) (fmust_ok (er := (gnum b ((gnum b ((gnum b 0 131072).2.1) 131072).2.1) 131072).2.2) _ hs12.sl.any q3) ?_
    rintro v w13 ⟨rfl, hU13⟩
    have hzw13 := hU13.size
    replace HU := HU.trans0 hU13
    replace hb2 := hb2.upd0 hU13
    replace hp11 := hp11.upd0 hU13
    refine Wl_nil (W_region ?_)
    refine Wmv (.int .i64 2) ?_
    refine Wmv (.int .i64 ((gnum b ((gnum b ((gnum b 0 131072).2.1) 131072).2.1) 131072).1)) ?_
    refine Wl_v (r_idxa (len := 3) (i' := 2) (o' := 2) underlying84 sizeOf3 rfl rfl (by omega) (by omega) (by omega)) ?_
    refine Wl_store (v := .int .i64 ((gnum b ((gnum b ((gnum b 0 131072).2.1) 131072).2.1) 131072).1)) (cs' := [.int .i64 ((gnum b 0 131072).1), .int .i64 ((gnum b ((gnum b 0 131072).2.1) 131072).1), .int .i64 ((gnum b ((gnum b ((gnum b 0 131072).2.1) 131072).2.1) 131072).1)]) sizeOf3 rfl rfl rfl rfl hb2 rfl rfl ?_
    intro w14 hU14 hzz14 hb2n
    replace hb2 := hb2n; clear hb2n
    have hzw14 := hU14.size
    replace HU := HU.trans1 hU14 (by show (B2 = pb) ∨ w.heap.size ≤ B2; omega)
    replace hp11 := hp11.upd1 hU14 (by omega)
    refine Wl_nil (W_region ?_)
    refine Wl_v (r_add rfl rfl (show _ = (3 : Int) from by decide)) ?_
    refine Wmv (.int .i64 3) ?_
    refine Wl_nil ?_
    refine unrK_succ ?_
    refine W_seq (W_region ?_)
    refine Wl_v (v := .bool false) (r_lt (a := 3) (b := 3) rfl rfl) ?_
    refine Wl_nil (W_seq ?_)
    refine W_cond_f rfl ?_
    refine W_exit ?_
    refine W_seq (W_region ?_)
    refine Wl_v (r_loada (b := B2) (off := 0) (cs := [.int .i64 ((gnum b 0 131072).1), .int .i64 ((gnum b ((gnum b 0 131072).2.1) 131072).1), .int .i64 ((gnum b ((gnum b ((gnum b 0 131072).2.1) 131072).2.1) 131072).1)]) isAgg84 sizeOf84 rfl rfl (fun j hj => by rw [hb2.cell]; match j, hj with | 0, _ => rfl | 1, _ => rfl | 2, _ => rfl)) ?_
    refine Wl_storea (off := 0) (vs := [.int .i64 ((gnum b 0 131072).1), .int .i64 ((gnum b ((gnum b 0 131072).2.1) 131072).1), .int .i64 ((gnum b ((gnum b ((gnum b 0 131072).2.1) 131072).2.1) 131072).1)]) (cs' := [.int .i64 ((gnum b 0 131072).1), .int .i64 ((gnum b ((gnum b 0 131072).2.1) 131072).1), .int .i64 ((gnum b ((gnum b ((gnum b 0 131072).2.1) 131072).2.1) 131072).1)]) sizeOf84 rfl rfl rfl (by simp only [List.mem_cons, List.not_mem_nil, or_false, forall_eq_or_imp, forall_eq]; exact ⟨rfl, rfl, rfl⟩) hb2 (by simp) rfl ?_
    intro w15 hU15 hzz15 hb2n
    replace hb2 := hb2n; clear hb2n
    have hzw15 := hU15.size
    replace HU := HU.trans1 hU15 (by show (B2 = pb) ∨ w.heap.size ≤ B2; omega)
    replace hp11 := hp11.upd1 hU15 (by omega)
    refine Wl_nil ?_
    refine W_ret ?_
    refine ret_end (v := .agg #[.int .i64 ((gnum b 0 131072).1), .int .i64 ((gnum b ((gnum b 0 131072).2.1) 131072).1), .int .i64 ((gnum b ((gnum b ((gnum b 0 131072).2.1) 131072).2.1) 131072).1)]) rfl (rc1 results81 rfl (cellAgg isAgg84 sizeOf84 rfl hb2)) ?_
    refine Or.inl ⟨(e3_3 q1 q2).trans q3, ?_⟩
    exact ⟨_, rfl, rfl, hp11, HU⟩
   refine Wl_callp (r_call1 rfl call38 rfl) (fmust_no (er := (gnum b ((gnum b ((gnum b 0 131072).2.1) 131072).2.1) 131072).2.2) _ hs12.sl.any q3) ?_
   intro w16 hU16
   have hzw16 := hU16.size
   replace HU := HU.trans0 hU16
   refine pan_ds rfl ?_
   refine lv_panic ?_
   exact Or.inr ⟨by rw [e3_3 q1 q2]; exact q3, by rw [e3_3 q1 q2], HU⟩
  refine Wl_callp (r_call1 rfl call38 rfl) (fmust_no (er := (gnum b ((gnum b 0 131072).2.1) 131072).2.2) _ hs8.sl.any q2) ?_
  intro w17 hU17
  have hzw17 := hU17.size
  replace HU := HU.trans0 hU17
  refine pan_ds rfl ?_
  refine lv_panic ?_
  exact Or.inr ⟨by rw [e3_2 q1 q2]; exact q2, by rw [e3_2 q1 q2], HU⟩
 refine Wl_callp (r_call1 rfl call38 rfl) (fmust_no (er := (gnum b 0 131072).2.2) _ hs4.sl.any q1) ?_
 intro w18 hU18
 have hzw18 := hU18.size
 replace HU := HU.trans0 hU18
 refine pan_ds rfl ?_
 refine lv_panic ?_
 exact Or.inr ⟨by rw [e3_1 q1]; exact q1, by rw [e3_1 q1], HU⟩
theorem lens_ok4 {pb : Nat} {a2 : Option Addr} {m d : Nat} {b : List Int} (w : World) (hp : Blk w pb [.slice a2 m d, .int .i64 0]) (hsb : Sl w (fun g => g < w.heap.size ∧ g ≠ pb) 1 (.slice a2 m d) m (ints .u8 b)) (hb : Byt b) (hm : m ≤ 100000) (he : e3 b = 0) :
  Calls Tryz.prog 81 #[.agg #[.pointer (some ⟨pb, 0, none⟩)]] w (Ret fun v w' => v = .agg #[.int .i64 ((gnum b 0 131072).1), .int .i64 ((gnum b (gnum b 0 131072).2.1 131072).1), .int .i64 ((gnum b (gnum b (gnum b 0 131072).2.1 131072).2.1 131072).1)] ∧ Blk w' pb [.slice a2 m d, .int .i64 (((gnum b (gnum b (gnum b 0 131072).2.1 131072).2.1 131072).2.1 : Nat) : Int)] ∧ Upd (Is pb) w w') :=
 (lens_all w hp hsb hb hm).mono fun e w1 h => Or.elim h (fun h => h.2) (fun h => absurd he h.1)
theorem lens_no4 {pb : Nat} {a2 : Option Addr} {m d : Nat} {b : List Int} (w : World) (hp : Blk w pb [.slice a2 m d, .int .i64 0]) (hsb : Sl w (fun g => g < w.heap.size ∧ g ≠ pb) 1 (.slice a2 m d) m (ints .u8 b)) (hb : Byt b) (hm : m ≤ 100000) (he : ¬ e3 b = 0) :
  Calls Tryz.prog 81 #[.agg #[.pointer (some ⟨pb, 0, none⟩)]] w (Pan (.iface 23 (.int .i64 (e3 b))) fun w' => Upd (Is pb) w w') :=
 (lens_all w hp hsb hb hm).mono fun e w1 h => Or.elim h (fun h => absurd h.1 he) (fun h => h.2)
set_option maxHeartbeats 4000000 in
theorem strm_all {pb : Nat} {a2 : Option Addr} {m d : Nat} {b : List Int} (w : World) (hp : Blk w pb [.slice a2 m d, .int .i64 0]) (hsb : Sl w (fun g => g < w.heap.size ∧ g ≠ pb) 1 (.slice a2 m d) m (ints .u8 b)) (hb : Byt b) (hm : m ≤ 100000) :
  Calls Tryz.prog 53 #[.agg #[.pointer (some ⟨pb, 0, none⟩)]] w (Dual (e4 b = 0) (Ret fun v w' => ∃ (a' : Option Addr) (c' : Nat) (ja : Option Addr) (ka : Nat) (qa : Nat) (jb : Option Addr) (kb : Nat) (qb : Nat) (jc : Option Addr) (kc : Nat) (qc : Nat) (jd : Option Addr) (kd : Nat) (qd : Nat), v = .slice a' 4 c' ∧ Own w' (fun g => w.heap.size ≤ g) 32 1 (.slice a' 4 c') 4 ([.slice ja ka qa, .slice jb kb qb, .slice jc kc qc, .slice jd kd qd]) ∧ Own w' (fun g => w.heap.size ≤ g) 5 1 (.slice ja ka qa) ka (ints .u8 ((gbytes b (gnum b (gnum b (gnum b 0 131072).2.1 131072).2.1 131072).2.1 (gnum b 0 131072).1).1)) ∧ Own w' (fun g => w.heap.size ≤ g) 5 1 (.slice jb kb qb) kb (ints .u8 ((gbytes b (gbytes b (gnum b (gnum b (gnum b 0 131072).2.1 131072).2.1 131072).2.1 (gnum b 0 131072).1).2.1 (gnum b (gnum b 0 131072).2.1 131072).1).1)) ∧ Own w' (fun g => w.heap.size ≤ g) 5 1 (.slice jc kc qc) kc (ints .u8 ((gbytes b (gbytes b (gbytes b (gnum b (gnum b (gnum b 0 131072).2.1 131072).2.1 131072).2.1 (gnum b 0 131072).1).2.1 (gnum b (gnum b 0 131072).2.1 131072).1).2.1 (gnum b (gnum b (gnum b 0 131072).2.1 131072).2.1 131072).1).1)) ∧ Own w' (fun g => w.heap.size ≤ g) 5 1 (.slice jd kd qd) kd (ints .u8 (b.drop (gbytes b (gbytes b (gbytes b (gnum b (gnum b (gnum b 0 131072).2.1 131072).2.1 131072).2.1 (gnum b 0 131072).1).2.1 (gnum b (gnum b 0 131072).2.1 131072).1).2.1 (gnum b (gnum b (gnum b 0 131072).2.1 131072).2.1 131072).1).2.1)) ∧ Upd (Is pb) w w') (Pan (.iface 23 (.int .i64 (e4 b))) fun w' => Upd (Is pb) w w')) := by
 have HU : Upd (fun b => b = pb) w w := Upd.refl _ _
 have hbl_hp := hp.lt
 have hl_hsb := ilen hsb
 have hc_hsb := hsb.cap.1
 refine calls_of_W func53 rfl ntmps53 (by simp) ?_
 refine W_seq (W_region ?_)
 refine Wl_box (v := .agg #[.pointer (some ⟨pb, 0, none⟩)]) (cs := [.pointer (some ⟨pb, 0, none⟩)]) rfl rfl ?_
 intro B1 w1 hB1 hU1 hzz1 hb1
 have hzw1 := hU1.size
 replace hp := hp.upd0 hU1
 replace hsb := hsb.upd0 hU1
 replace HU := HU.trans0 hU1
 refine Was (.slice none 0 0) ?_
 refine Wl_nil (W_seq (W_seq (W_region ?_)))
 refine Wl_v (r_loada (b := B1) (off := 0) (cs := [.pointer (some ⟨pb, 0, none⟩)]) isAgg82 sizeOf82 rfl rfl (fun j hj => by rw [hb1.cell]; match j, hj with | 0, _ => rfl)) ?_
 by_cases q1 : e3 b = 0
 ·refine Wl_call (r_call1 rfl call81 rfl) (lens_ok4 _ hp (hsb.cur (by intro h1; have h3 : (pb < w.heap.size ∧ pb ≠ pb) := h1; first | omega | simp at h3)) hb (by omega) q1) ?_
  rintro v w2 ⟨rfl, hp22, hU2⟩
  have hzw2 := hU2.size
  replace hsb := hsb.upd1 hU2 (show ¬ ((pb < w.heap.size ∧ pb ≠ pb)) by omega)
  replace HU := HU.trans1 hU2 (by show (pb = pb) ∨ w.heap.size ≤ pb; omega)
  replace hb1 := hb1.upd1 hU2 (by omega)
  have hbl_hp22 := hp22.lt
  have hei := e3_inv q1
  have hga := gnum_props (bs := b) (p := 0) (most := 131072) (by omega)
  have hgb := gnum_props (bs := b) (p := (gnum b 0 131072).2.1) (most := 131072) (by omega)
  have hgc := gnum_props (bs := b) (p := (gnum b (gnum b 0 131072).2.1 131072).2.1) (most := 131072) (by omega)
  refine Wmv (.int .i64 0) ?_
  refine Wl_nil (W_block ?_)
  refine W_unroll 4 ?_
  refine unrK_succ ?_
  refine W_seq (W_region ?_)
  refine Wl_v (v := .bool true) (r_lt (a := 0) (b := 3) rfl rfl) ?_
  refine Wl_nil (W_seq ?_)
  refine W_cond_t rfl ?_
  refine W_skip (W_seq (W_block (W_seq (W_region ?_))))
  refine Wl_v (r_indexa (len := 3) (i' := 0) underlying84 sizeOf3 isAgg3 rfl rfl rfl (by decide) rfl) ?_
  refine Was (.int .i64 ((gnum b 0 131072).1)) ?_
  refine Wl_nil (W_seq (W_region ?_))
  refine Wl_v (r_fld underlying82 rfl sizeOf79 rfl rfl) ?_
  refine Wl_load (v := .pointer (some ⟨pb, 0, none⟩)) isAgg79 rfl hb1 rfl ?_
  refine Wmv (.int .i64 ((gnum b 0 131072).1)) ?_
  refine Wl_call (r_call2 rfl call82 rfl rfl) (Nu.bytes_spec _ hp22 (hsb.cur (by intro h1; have h3 : (pb < w.heap.size ∧ pb ≠ pb) := h1; first | omega | simp at h3)) hb (by omega) (by omega)) ?_
  rintro v w3 ⟨a3, m3, c3, rfl, hp3, hO3, hm_3, hU3⟩
  have hzw3 := hU3.size
  replace hsb := hsb.upd1 hU3 (show ¬ ((pb < w.heap.size ∧ pb ≠ pb)) by omega)
  replace HU := HU.trans1 hU3 (by show (pb = pb) ∨ w.heap.size ≤ pb; omega)
  replace hb1 := hb1.upd1 hU3 (by omega)
  have hbl_hp3 := hp3.lt
  replace hO3 := hO3.tight
  have hl_hO3 := ilen hO3.sl
  have hc_hO3 := hO3.sl.cap.1
  have hgy3 := gbytes_props (bs := b) (p := (gnum b (gnum b (gnum b 0 131072).2.1 131072).2.1 131072).2.1) (k := (gnum b 0 131072).1) (by omega)
  refine Wmv (.tuple #[.slice a3 m3 c3, .int .i64 ((gbytes b ((gnum b (gnum b (gnum b 0 131072).2.1 131072).2.1 131072).2.1) ((gnum b 0 131072).1)).2.2)]) ?_
  refine Wl_v (r_ext (v := .slice a3 m3 c3) rfl rfl) ?_
  refine Wl_v (r_ext (v := .int .i64 ((gbytes b ((gnum b (gnum b (gnum b 0 131072).2.1 131072).2.1 131072).2.1) ((gnum b 0 131072).1)).2.2)) rfl rfl) ?_
  refine Was (.slice a3 m3 c3) ?_
  refine Was (.int .i64 ((gbytes b ((gnum b (gnum b (gnum b 0 131072).2.1 131072).2.1 131072).2.1) ((gnum b 0 131072).1)).2.2)) ?_
  refine Wl_nil (W_seq (W_region ?_))
  refine Wmv (.int .i64 ((gbytes b ((gnum b (gnum b (gnum b 0 131072).2.1 131072).2.1 131072).2.1) ((gnum b 0 131072).1)).2.2)) ?_
  refine Wl_lit (pv := [(0, .int .i64 ((gbytes b ((gnum b (gnum b (gnum b 0 131072).2.1 131072).2.1 131072).2.1) ((gnum b 0 131072).1)).2.2))]) (cs := [.int .i64 ((gbytes b ((gnum b (gnum b (gnum b 0 131072).2.1 131072).2.1 131072).2.1) ((gnum b 0 131072).1)).2.2)]) underlying112 sizeOf23 zeroValue23 (by decide) (by decide) (by simp only [List.map_toArray, List.map_cons, List.map_nil] <;> rfl) (by kernel_rfl) rfl (by decide) ?_
  intro B4 w4 hB4 hU4 hzz4 hs4
  have hzw4 := hU4.size
  replace hsb := hsb.upd0 hU4
  replace HU := HU.trans0 hU4
  replace hb1 := hb1.upd0 hU4
  replace hp3 := hp3.upd0 hU4
  replace hO3 := hO3.upd0 hU4
  replace hs4 : Own w4 (Is B4) 23 1 (.slice (some ⟨B4, 0, none⟩) 1 1) 1 (ints .i64 [(gbytes b ((gnum b (gnum b (gnum b 0 131072).2.1 131072).2.1 131072).2.1) ((gnum b 0 131072).1)).2.2]) := hs4
  by_cases q2 : ((gbytes b ((gnum b (gnum b (gnum b 0 131072).2.1 131072).2.1 131072).2.1) ((gnum b 0 131072).1)).2.2) = 0
  ·refine Wl_call (r_call1 rfl call38 rfl) (fmust_ok (er := (gbytes b ((gnum b (gnum b (gnum b 0 131072).2.1 131072).2.1 131072).2.1) ((gnum b 0 131072).1)).2.2) _ hs4.sl.any q2) ?_
   rintro v w5 ⟨rfl, hU5⟩
   have hzw5 := hU5.size
   replace hsb := hsb.upd0 hU5
   replace HU := HU.trans0 hU5
   replace hb1 := hb1.upd0 hU5
   replace hp3 := hp3.upd0 hU5
   replace hO3 := hO3.upd0 hU5
   refine Wl_nil (W_region ?_)
   refine Wmv (.slice none 0 0) ?_
   refine Wmv (.slice a3 m3 c3) ?_
   refine Wl_lit (pv := [(0, .slice a3 m3 c3)]) (cs := [.slice a3 m3 c3]) underlying41 sizeOf32 zeroValue32 (by decide) (by decide) (by simp only [List.map_toArray, List.map_cons, List.map_nil] <;> rfl) (by kernel_rfl) rfl (by decide) ?_
   intro B6 w6 hB6 hU6 hzz6 hs6
   have hzw6 := hU6.size
   replace hsb := hsb.upd0 hU6
   replace HU := HU.trans0 hU6
   replace hb1 := hb1.upd0 hU6
   replace hp3 := hp3.upd0 hU6
   replace hO3 := hO3.upd0 hU6
   refine Wl_appendc (cs3 := [.slice a3 m3 c3]) (tot := 1) (by first | rfl | exact (rows_app _ _).symm | simp) underlying41 (ti := Tryz.t32) (z := .slice none 0 0) (sz := 1) (by' := 24) rfl rfl rfl rfl rfl (by decide) rfl (Own.nil _ No _ _) rfl hs6.sl (by intro u hu; simp at hu; subst hu; rfl) (by omega) (by simp only [maxLen]; omega) (by omega) ?_
   intro a7 c7 w7 hU7 hzz7 hO7
   have hzw7 := hU7.size
   replace hsb := hsb.upd0 hU7
   replace HU := HU.trans0 hU7
   replace hb1 := hb1.upd0 hU7
   replace hp3 := hp3.upd0 hU7
   replace hO3 := hO3.upd0 hU7
   replace hO7 := hO7.weak (R' := fun g => g = w6.heap.size) (fun g h => h.elim (fun x => x.elim) id)
   replace hO7 := hO7.tight
   have hl_hO7 := hO7.sl.len
   have hc_hO7 := hO7.sl.cap.1
   refine Was (.slice a7 1 c7) ?_
   refine Wl_nil (W_region ?_)
   refine Wl_v (r_add rfl rfl (show _ = (1 : Int) from by decide)) ?_
   refine Wmv (.int .i64 1) ?_
   refine Wl_nil ?_
   refine unrK_succ ?_
   refine W_seq (W_region ?_)
   refine Wl_v (v := .bool true) (r_lt (a := 1) (b := 3) rfl rfl) ?_
   refine Wl_nil (W_seq ?_)
   refine W_cond_t rfl ?_
   refine W_skip (W_seq (W_block (W_seq (W_region ?_))))
   refine Wl_v (r_indexa (len := 3) (i' := 1) underlying84 sizeOf3 isAgg3 rfl rfl rfl (by decide) rfl) ?_
   refine Was (.int .i64 ((gnum b (gnum b 0 131072).2.1 131072).1)) ?_
   refine Wl_nil (W_seq (W_region ?_))
   refine Wl_v (r_fld underlying82 rfl sizeOf79 rfl rfl) ?_
   refine Wl_load (v := .pointer (some ⟨pb, 0, none⟩)) isAgg79 rfl hb1 rfl ?_
   refine Wmv (.int .i64 ((gnum b (gnum b 0 131072).2.1 131072).1)) ?_
   refine Wl_call (r_call2 rfl call82 rfl rfl) (Nu.bytes_spec _ hp3 (hsb.cur (by intro h1; have h3 : (pb < w.heap.size ∧ pb ≠ pb) := h1; first | omega | simp at h3)) hb (by omega) (by omega)) ?_
   rintro v w8 ⟨a8, m8, c8, rfl, hp8, hO8, hm_8, hU8⟩
   have hzw8 := hU8.size
   replace hsb := hsb.upd1 hU8 (show ¬ ((pb < w.heap.size ∧ pb ≠ pb)) by omega)
   replace HU := HU.trans1 hU8 (by show (pb = pb) ∨ w.heap.size ≤ pb; omega)
   replace hb1 := hb1.upd1 hU8 (by omega)
   replace hO3 := hO3.upd1 hU8 (show ¬ (((w2.heap.size ≤ pb) ∧ pb < w3.heap.size)) by omega)
   replace hO7 := hO7.upd1 hU8 (by intro h1; have h3 : ((pb = w6.heap.size) ∧ pb < w7.heap.size) := h1; omega)
   have hbl_hp8 := hp8.lt
   replace hO8 := hO8.tight
   have hl_hO8 := ilen hO8.sl
   have hc_hO8 := hO8.sl.cap.1
   have hgy8 := gbytes_props (bs := b) (p := (gbytes b ((gnum b (gnum b (gnum b 0 131072).2.1 131072).2.1 131072).2.1) ((gnum b 0 131072).1)).2.1) (k := (gnum b (gnum b 0 131072).2.1 131072).1) (by omega)
   refine Wmv (.tuple #[.slice a8 m8 c8, .int .i64 ((gbytes b ((gbytes b ((gnum b (gnum b (gnum b 0 131072).2.1 131072).2.1 131072).2.1) ((gnum b 0 131072).1)).2.1) ((gnum b (gnum b 0 131072).2.1 131072).1)).2.2)]) ?_
   refine Wl_v (r_ext (v := .slice a8 m8 c8) rfl rfl) ?_
   refine Wl_v (r_ext (v := .int .i64 ((gbytes b ((gbytes b ((gnum b (gnum b (gnum b 0 131072).2.1 131072).2.1 131072).2.1) ((gnum b 0 131072).1)).2.1) ((gnum b (gnum b 0 131072).2.1 131072).1)).2.2)) rfl rfl) ?_
   refine Was (.slice a8 m8 c8) ?_
   refine Was (.int .i64 ((gbytes b ((gbytes b ((gnum b (gnum b (gnum b 0 131072).2.1 131072).2.1 131072).2.1) ((gnum b 0 131072).1)).2.1) ((gnum b (gnum b 0 131072).2.1 131072).1)).2.2)) ?_
   refine Wl_nil (W_seq (W_region ?_))
   refine Wmv (.int .i64 ((gbytes b ((gbytes b ((gnum b (gnum b (gnum b 0 131072).2.1 131072).2.1 131072).2.1) ((gnum b 0 131072).1)).2.1) ((gnum b (gnum b 0 131072).2.1 131072).1)).2.2)) ?_
   refine Wl_lit (pv := [(0, .int .i64 ((gbytes b ((gbytes b ((gnum b (gnum b (gnum b 0 131072).2.1 131072).2.1 131072).2.1) ((gnum b 0 131072).1)).2.1) ((gnum b (gnum b 0 131072).2.1 131072).1)).2.2))]) (cs := [.int .i64 ((gbytes b ((gbytes b ((gnum b (gnum b (gnum b 0 131072).2.1 131072).2.1 131072).2.1) ((gnum b 0 131072).1)).2.1) ((gnum b (gnum b 0 131072).2.1 131072).1)).2.2)]) underlying112 sizeOf23 zeroValue23 (by decide) (by decide) (by simp only [List.map_toArray, List.map_cons, List.map_nil] <;> rfl) (by kernel_rfl) rfl (by decide) ?_
   intro B9 w9 hB9 hU9 hzz9 hs9
   have hzw9 := hU9.size
   replace hsb := hsb.upd0 hU9
   replace HU := HU.trans0 hU9
   replace hb1 := hb1.upd0 hU9
   replace hO3 := hO3.upd0 hU9
   replace hO7 := hO7.upd0 hU9
   replace hp8 := hp8.upd0 hU9
   replace hO8 := hO8.upd0 hU9
   replace hs9 : Own w9 (Is B9) 23 1 (.slice (some ⟨B9, 0, none⟩) 1 1) 1 (ints .i64 [(gbytes b ((gbytes b ((gnum b (gnum b (gnum b 0 131072).2.1 131072).2.1 131072).2.1) ((gnum b 0 131072).1)).2.1) ((gnum b (gnum b 0 131072).2.1 131072).1)).2.2]) := hs9
   by_cases q3 : ((gbytes b ((gbytes b ((gnum b (gnum b (gnum b 0 131072).2.1 131072).2.1 131072).2.1) ((gnum b 0 131072).1)).2.1) ((gnum b (gnum b 0 131072).2.1 131072).1)).2.2) = 0
   ·refine Wl_call (r_call1 rfl call38 rfl) (fmust_ok (er := (gbytes b ((gbytes b ((gnum b (gnum b (gnum b 0 131072).2.1 131072).2.1 131072).2.1) ((gnum b 0 131072).1)).2.1) ((gnum b (gnum b 0 131072).2.1 131072).1)).2.2) _ hs9.sl.any q3) ?_
    rintro v w10 ⟨rfl, hU10⟩
    have hzw10 := hU10.size
    replace hsb := hsb.upd0 hU10
    replace HU := HU.trans0 hU10
    replace hb1 := hb1.upd0 hU10
    replace hO3 := hO3.upd0 hU10
    replace hO7 := hO7.upd0 hU10
    replace hp8 := hp8.upd0 hU10
    replace hO8 := hO8.upd0 hU10
    refine Wl_nil (W_region ?_)
    refine Wmv (.slice a7 1 c7) ?_
    refine Wmv (.slice a8 m8 c8) ?_
    refine Wl_lit (pv := [(0, .slice a8 m8 c8)]) (cs := [.slice a8 m8 c8]) underlying41 sizeOf32 zeroValue32 (by decide) (by decide) (by simp only [List.map_toArray, List.map_cons, List.map_nil] <;> rfl) (by kernel_rfl) rfl (by decide) ?_
    intro B11 w11 hB11 hU11 hzz11 hs11
    have hzw11 := hU11.size
    replace hsb := hsb.upd0 hU11
    replace HU := HU.trans0 hU11
    replace hb1 := hb1.upd0 hU11
    replace hO3 := hO3.upd0 hU11
    replace hO7 := hO7.upd0 hU11
    replace hp8 := hp8.upd0 hU11
    replace hO8 := hO8.upd0 hU11
    refine Wl_appendc (cs3 := [.slice a3 m3 c3, .slice a8 m8 c8]) (tot := 2) (by first | rfl | exact (rows_app _ _).symm | simp) underlying41 (ti := Tryz.t32) (z := .slice none 0 0) (sz := 1) (by' := 24) rfl rfl rfl rfl rfl (by decide) rfl hO7 rfl hs11.sl (by intro u hu; simp at hu; subst hu; rfl) (by omega) (by simp only [maxLen]; omega) (by omega) ?_
    intro a12 c12 w12 hU12 hzz12 hO12
    clear hO7
    have hzw12 := hU12.size
    replace hsb := hsb.upd hU12 (by intro x h1 h2; have h3 : (x < w.heap.size ∧ x ≠ pb) := h1; have h4 : ((x = w6.heap.size) ∧ x < w7.heap.size) := h2; omega)
    replace HU := HU.trans hU12 (by intro x hx; have hx2 : ((x = w6.heap.size) ∧ x < w7.heap.size) := hx; show (x = pb) ∨ w.heap.size ≤ x; omega)
    replace hb1 := hb1.upd hU12 (by intro hx; have hx2 : ((B1 = w6.heap.size) ∧ B1 < w7.heap.size) := hx; omega)
    replace hO3 := hO3.upd hU12 (by intro x h1 h2; have h3 : ((w2.heap.size ≤ x) ∧ x < w3.heap.size) := h1; have h4 : ((x = w6.heap.size) ∧ x < w7.heap.size) := h2; omega)
    replace hp8 := hp8.upd hU12 (by intro hx; have hx2 : ((pb = w6.heap.size) ∧ pb < w7.heap.size) := hx; omega)
    replace hO8 := hO8.upd hU12 (by intro x h1 h2; have h3 : ((w7.heap.size ≤ x) ∧ x < w8.heap.size) := h1; have h4 : ((x = w6.heap.size) ∧ x < w7.heap.size) := h2; omega)
    replace hO12 := hO12.tight
    have hl_hO12 := hO12.sl.len
    have hc_hO12 := hO12.sl.cap.1
    refine Was (.slice a12 2 c12) ?_
    refine Wl_nil (W_region ?_)
    refine Wl_v (r_add rfl rfl (show _ = (2 : Int) from by decide)) ?_
    refine Wmv (.int .i64 2) ?_
    refine Wl_nil ?_
    refine unrK_succ ?_
    refine W_seq (W_region ?_)
    refine Wl_v (v := .bool true) (r_lt (a := 2) (b := 3) rfl rfl) ?_
    refine Wl_nil (W_seq ?_)
    refine W_cond_t rfl ?_
    refine W_skip (W_seq (W_block (W_seq (W_region ?_))))
    refine Wl_v (r_indexa (len := 3) (i' := 2) underlying84 sizeOf3 isAgg3 rfl rfl rfl (by decide) rfl) ?_
    refine Was (.int .i64 ((gnum b (gnum b (gnum b 0 131072).2.1 131072).2.1 131072).1)) ?_
    refine Wl_nil (W_seq (W_region ?_))
    refine Wl_v (r_fld underlying82 rfl sizeOf79 rfl rfl) ?_
    refine Wl_load (v := .pointer (some ⟨pb, 0, none⟩)) isAgg79 rfl hb1 rfl ?_
    refine Wmv (.int .i64 ((gnum b (gnum b (gnum b 0 131072).2.1 131072).2.1 131072).1)) ?_
    refine Wl_call (r_call2 rfl call82 rfl rfl) (Nu.bytes_spec _ hp8 (hsb.cur (by intro h1; have h3 : (pb < w.heap.size ∧ pb ≠ pb) := h1; first | omega | simp at h3)) hb (by omega) (by omega)) ?_
    rintro v w13 ⟨a13, m13, c13, rfl, hp13, hO13, hm_13, hU13⟩
    have hzw13 := hU13.size
    replace hsb := hsb.upd1 hU13 (show ¬ ((pb < w.heap.size ∧ pb ≠ pb)) by omega)
    replace HU := HU.trans1 hU13 (by show (pb = pb) ∨ w.heap.size ≤ pb; omega)
    replace hb1 := hb1.upd1 hU13 (by omega)
    replace hO3 := hO3.upd1 hU13 (show ¬ (((w2.heap.size ≤ pb) ∧ pb < w3.heap.size)) by omega)
    replace hO8 := hO8.upd1 hU13 (show ¬ (((w7.heap.size ≤ pb) ∧ pb < w8.heap.size)) by omega)
    replace hO12 := hO12.upd1 hU13 (by intro h1; have h3 : ((((((pb = w6.heap.size) ∧ pb < w7.heap.size)) ∨ pb = w11.heap.size)) ∧ pb < w12.heap.size) := h1; omega)
    have hbl_hp13 := hp13.lt
    replace hO13 := hO13.tight
    have hl_hO13 := ilen hO13.sl
    have hc_hO13 := hO13.sl.cap.1
    have hgy13 := gbytes_props (bs := b) (p := (gbytes b ((gbytes b ((gnum b (gnum b (gnum b 0 131072).2.1 131072).2.1 131072).2.1) ((gnum b 0 131072).1)).2.1) ((gnum b (gnum b 0 131072).2.1 131072).1)).2.1) (k := (gnum b (gnum b (gnum b 0 131072).2.1 131072).2.1 131072).1) (by omega)
    refine Wmv (.tuple #[.slice a13 m13 c13, .int .i64 ((gbytes b ((gbytes b ((gbytes b ((gnum b (gnum b (gnum b 0 131072).2.1 131072).2.1 131072).2.1) ((gnum b 0 131072).1)).2.1) ((gnum b (gnum b 0 131072).2.1 131072).1)).2.1) ((gnum b (gnum b (gnum b 0 131072).2.1 131072).2.1 131072).1)).2.2)]) ?_
    refine Wl_v (r_ext (v := .slice a13 m13 c13) rfl rfl) ?_
    refine Wl_v (r_ext (v := .int .i64 ((gbytes b ((gbytes b ((gbytes b ((gnum b (gnum b (gnum b 0 131072).2.1 131072).2.1 131072).2.1) ((gnum b 0 131072).1)).2.1) ((gnum b (gnum b 0 131072).2.1 131072).1)).2.1) ((gnum b (gnum b (gnum b 0 131072).2.1 131072).2.1 131072).1)).2.2)) rfl rfl) ?_
    refine Was (.slice a13 m13 c13) ?_
    refine Was (.int .i64 ((gbytes b ((gbytes b ((gbytes b ((gnum b (gnum b (gnum b 0 131072).2.1 131072).2.1 131072).2.1) ((gnum b 0 131072).1)).2.1) ((gnum b (gnum b 0 131072).2.1 131072).1)).2.1) ((gnum b (gnum b (gnum b 0 131072).2.1 131072).2.1 131072).1)).2.2)) ?_
    refine Wl_nil (W_seq (W_region ?_))
    refine Wmv (.int .i64 ((gbytes b ((gbytes b ((gbytes b ((gnum b (gnum b (gnum b 0 131072).2.1 131072).2.1 131072).2.1) ((gnum b 0 131072).1)).2.1) ((gnum b (gnum b 0 131072).2.1 131072).1)).2.1) ((gnum b (gnum b (gnum b 0 131072).2.1 131072).2.1 131072).1)).2.2)) ?_
    refine Wl_lit (pv := [(0, .int .i64 ((gbytes b ((gbytes b ((gbytes b ((gnum b (gnum b (gnum b 0 131072).2.1 131072).2.1 131072).2.1) ((gnum b 0 131072).1)).2.1) ((gnum b (gnum b 0 131072).2.1 131072).1)).2.1) ((gnum b (gnum b (gnum b 0 131072).2.1 131072).2.1 131072).1)).2.2))]) (cs := [.int .i64 ((gbytes b ((gbytes b ((gbytes b ((gnum b (gnum b (gnum b 0 131072).2.1 131072).2.1 131072).2.1) ((gnum b 0 131072).1)).2.1) ((gnum b (gnum b 0 131072).2.1 131072).1)).2.1) ((gnum b (gnum b (gnum b 0 131072).2.1 131072).2.1 131072).1)).2.2)]) underlying112 sizeOf23 zeroValue23 (by decide) (by decide) (by simp only [List.map_toArray, List.map_cons, List.map_nil] <;> rfl) (by kernel_rfl) rfl (by decide) ?_
    intro B14 w14 hB14 hU14 hzz14 hs14
    have hzw14 := hU14.size
    replace hsb := hsb.upd0 hU14
    replace HU := HU.trans0 hU14
    replace hb1 := hb1.upd0 hU14
    replace hO3 := hO3.upd0 hU14
    replace hO8 := hO8.upd0 hU14
    replace hO12 := hO12.upd0 hU14
    replace hp13 := hp13.upd0 hU14
    replace hO13 := hO13.upd0 hU14
    replace hs14 : Own w14 (Is B14) 23 1 (.slice (some ⟨B14, 0, none⟩) 1 1) 1 (ints .i64 [(gbytes b ((gbytes b ((gbytes b ((gnum b (gnum b (gnum b 0 131072).2.1 131072).2.1 131072).2.1) ((gnum b 0 131072).1)).2.1) ((gnum b (gnum b 0 131072).2.1 131072).1)).2.1) ((gnum b (gnum b (gnum b 0 131072).2.1 131072).2.1 131072).1)).2.2]) := hs14
    by_cases q4 : ((gbytes b ((gbytes b ((gbytes b ((gnum b (gnum b (gnum b 0 131072).2.1 131072).2.1 131072).2.1) ((gnum b 0 131072).1)).2.1) ((gnum b (gnum b 0 131072).2.1 131072).1)).2.1) ((gnum b (gnum b (gnum b 0 131072).2.1 131072).2.1 131072).1)).2.2) = 0
    ·refine Wl_call (r_call1 rfl call38 rfl) (fmust_ok (er := (gbytes b ((gbytes b ((gbytes b ((gnum b (gnum b (gnum b 0 131072).2.1 131072).2.1 131072).2.1) ((gnum b 0 131072).1)).2.1) ((gnum b (gnum b 0 131072).2.1 131072).1)).2.1) ((gnum b (gnum b (gnum b 0 131072).2.1 131072).2.1 131072).1)).2.2) _ hs14.sl.any q4) ?_
     rintro v w15 ⟨rfl, hU15⟩
     have hzw15 := hU15.size
     replace hsb := hsb.upd0 hU15
     replace HU := HU.trans0 hU15
     replace hb1 := hb1.upd0 hU15
     replace hO3 := hO3.upd0 hU15
     replace hO8 := hO8.upd0 hU15
     replace hO12 := hO12.upd0 hU15
     replace hp13 := hp13.upd0 hU15
     replace hO13 := hO13.upd0 hU15
     refine Wl_nil (W_region ?_)
     refine Wmv (.slice a12 2 c12) ?_
     refine Wmv (.slice a13 m13 c13) ?_
     refine Wl_lit (pv := [(0, .slice a13 m13 c13)]) (cs := [.slice a13 m13 c13]) underlying41 sizeOf32 zeroValue32 (by decide) (by decide) (by simp only [List.map_toArray, List.map_cons, List.map_nil] <;> rfl) (by kernel_rfl) rfl (by decide) ?_
     intro B16 w16 hB16 hU16 hzz16 hs16
     have hzw16 := hU16.size
     replace hsb := hsb.upd0 hU16
     replace HU := HU.trans0 hU16
     replace hb1 := hb1.upd0 hU16
     replace hO3 := hO3.upd0 hU16
     replace hO8 := hO8.upd0 hU16
     replace hO12 := hO12.upd0 hU16
     replace hp13 := hp13.upd0 hU16
     replace hO13 := hO13.upd0 hU16
     refine Wl_appendc (cs3 := [.slice a3 m3 c3, .slice a8 m8 c8, .slice a13 m13 c13]) (tot := 3) (by first | rfl | exact (rows_app _ _).symm | simp) underlying41 (ti := Tryz.t32) (z := .slice none 0 0) (sz := 1) (by' := 24) rfl rfl rfl rfl rfl (by decide) rfl hO12 rfl hs16.sl (by intro u hu; simp at hu; subst hu; rfl) (by omega) (by simp only [maxLen]; omega) (by omega) ?_
     intro a17 c17 w17 hU17 hzz17 hO17
     clear hO12
     have hzw17 := hU17.size
     replace hsb := hsb.upd hU17 (by intro x h1 h2; have h3 : (x < w.heap.size ∧ x ≠ pb) := h1; have h4 : ((((((x = w6.heap.size) ∧ x < w7.heap.size)) ∨ x = w11.heap.size)) ∧ x < w12.heap.size) := h2; omega)
     replace HU := HU.trans hU17 (by intro x hx; have hx2 : ((((((x = w6.heap.size) ∧ x < w7.heap.size)) ∨ x = w11.heap.size)) ∧ x < w12.heap.size) := hx; show (x = pb) ∨ w.heap.size ≤ x; omega)
     replace hb1 := hb1.upd hU17 (by intro hx; have hx2 : ((((((B1 = w6.heap.size) ∧ B1 < w7.heap.size)) ∨ B1 = w11.heap.size)) ∧ B1 < w12.heap.size) := hx; omega)
     replace hO3 := hO3.upd hU17 (by intro x h1 h2; have h3 : ((w2.heap.size ≤ x) ∧ x < w3.heap.size) := h1; have h4 : ((((((x = w6.heap.size) ∧ x < w7.heap.size)) ∨ x = w11.heap.size)) ∧ x < w12.heap.size) := h2; omega)
     replace hO8 := hO8.upd hU17 (by intro x h1 h2; have h3 : ((w7.heap.size ≤ x) ∧ x < w8.heap.size) := h1; have h4 : ((((((x = w6.heap.size) ∧ x < w7.heap.size)) ∨ x = w11.heap.size)) ∧ x < w12.heap.size) := h2; omega)
     replace hp13 := hp13.upd hU17 (by intro hx; have hx2 : ((((((pb = w6.heap.size) ∧ pb < w7.heap.size)) ∨ pb = w11.heap.size)) ∧ pb < w12.heap.size) := hx; omega)
     replace hO13 := hO13.upd hU17 (by intro x h1 h2; have h3 : ((w12.heap.size ≤ x) ∧ x < w13.heap.size) := h1; have h4 : ((((((x = w6.heap.size) ∧ x < w7.heap.size)) ∨ x = w11.heap.size)) ∧ x < w12.heap.size) := h2; omega)
     replace hO17 := hO17.tight
     have hl_hO17 := hO17.sl.len
     have hc_hO17 := hO17.sl.cap.1
     refine Was (.slice a17 3 c17) ?_
     refine Wl_nil (W_region ?_)
     refine Wl_v (r_add rfl rfl (show _ = (3 : Int) from by decide)) ?_
     refine Wmv (.int .i64 3) ?_
     refine Wl_nil ?_
     refine unrK_succ ?_
     refine W_seq (W_region ?_)
     refine Wl_v (v := .bool false) (r_lt (a := 3) (b := 3) rfl rfl) ?_
     refine Wl_nil (W_seq ?_)
     refine W_cond_f rfl ?_
     refine W_exit ?_
     refine W_seq (W_region ?_)
     refine Wmv (.slice a17 3 c17) ?_
     refine Wl_v (r_fld underlying82 rfl sizeOf79 rfl rfl) ?_
     refine Wl_load (v := .pointer (some ⟨pb, 0, none⟩)) isAgg79 rfl hb1 rfl ?_
     refine Wl_call (r_call1 rfl call83 rfl) (Nu.rest_spec _ hp13 (hsb.cur (by intro h1; have h3 : (pb < w.heap.size ∧ pb ≠ pb) := h1; first | omega | simp at h3)) hb (by omega) (by omega)) ?_
     rintro v w18 ⟨a18, c18, rfl, hO18, hU18⟩
     have hzw18 := hU18.size
     replace HU := HU.trans0 hU18
     replace hO3 := hO3.upd0 hU18
     replace hO8 := hO8.upd0 hU18
     replace hO13 := hO13.upd0 hU18
     replace hO17 := hO17.upd0 hU18
     replace hO18 := hO18.tight
     have hl_hO18 := ilen hO18.sl
     have hc_hO18 := hO18.sl.cap.1
     refine Wl_lit (pv := [(0, .slice a18 (m - ((gbytes b ((gbytes b ((gbytes b ((gnum b (gnum b (gnum b 0 131072).2.1 131072).2.1 131072).2.1) ((gnum b 0 131072).1)).2.1) ((gnum b (gnum b 0 131072).2.1 131072).1)).2.1) ((gnum b (gnum b (gnum b 0 131072).2.1 131072).2.1 131072).1)).2.1)) c18)]) (cs := [.slice a18 (m - ((gbytes b ((gbytes b ((gbytes b ((gnum b (gnum b (gnum b 0 131072).2.1 131072).2.1 131072).2.1) ((gnum b 0 131072).1)).2.1) ((gnum b (gnum b 0 131072).2.1 131072).1)).2.1) ((gnum b (gnum b (gnum b 0 131072).2.1 131072).2.1 131072).1)).2.1)) c18]) underlying41 sizeOf32 zeroValue32 (by decide) (by decide) (by simp only [List.map_toArray, List.map_cons, List.map_nil] <;> rfl) (by kernel_rfl) rfl (by decide) ?_
     intro B19 w19 hB19 hU19 hzz19 hs19
     have hzw19 := hU19.size
     replace HU := HU.trans0 hU19
     replace hO3 := hO3.upd0 hU19
     replace hO8 := hO8.upd0 hU19
     replace hO13 := hO13.upd0 hU19
     replace hO17 := hO17.upd0 hU19
     replace hO18 := hO18.upd0 hU19
     refine Wl_appendc (cs3 := [.slice a3 m3 c3, .slice a8 m8 c8, .slice a13 m13 c13, .slice a18 (m - ((gbytes b ((gbytes b ((gbytes b ((gnum b (gnum b (gnum b 0 131072).2.1 131072).2.1 131072).2.1) ((gnum b 0 131072).1)).2.1) ((gnum b (gnum b 0 131072).2.1 131072).1)).2.1) ((gnum b (gnum b (gnum b 0 131072).2.1 131072).2.1 131072).1)).2.1)) c18]) (tot := 4) (by first | rfl | exact (rows_app _ _).symm | simp) underlying41 (ti := Tryz.t32) (z := .slice none 0 0) (sz := 1) (by' := 24) rfl rfl rfl rfl rfl (by decide) rfl hO17 rfl hs19.sl (by intro u hu; simp at hu; subst hu; rfl) (by omega) (by simp only [maxLen]; omega) (by omega) ?_
     intro a20 c20 w20 hU20 hzz20 hO20
     clear hO17
     have hzw20 := hU20.size
     replace HU := HU.trans hU20 (by intro x hx; have hx2 : ((((((((((x = w6.heap.size) ∧ x < w7.heap.size)) ∨ x = w11.heap.size)) ∧ x < w12.heap.size)) ∨ x = w16.heap.size)) ∧ x < w17.heap.size) := hx; show (x = pb) ∨ w.heap.size ≤ x; omega)
     replace hO3 := hO3.upd hU20 (by intro x h1 h2; have h3 : ((w2.heap.size ≤ x) ∧ x < w3.heap.size) := h1; have h4 : ((((((((((x = w6.heap.size) ∧ x < w7.heap.size)) ∨ x = w11.heap.size)) ∧ x < w12.heap.size)) ∨ x = w16.heap.size)) ∧ x < w17.heap.size) := h2; omega)
     replace hO8 := hO8.upd hU20 (by intro x h1 h2; have h3 : ((w7.heap.size ≤ x) ∧ x < w8.heap.size) := h1; have h4 : ((((((((((x = w6.heap.size) ∧ x < w7.heap.size)) ∨ x = w11.heap.size)) ∧ x < w12.heap.size)) ∨ x = w16.heap.size)) ∧ x < w17.heap.size) := h2; omega)
     replace hO13 := hO13.upd hU20 (by intro x h1 h2; have h3 : ((w12.heap.size ≤ x) ∧ x < w13.heap.size) := h1; have h4 : ((((((((((x = w6.heap.size) ∧ x < w7.heap.size)) ∨ x = w11.heap.size)) ∧ x < w12.heap.size)) ∨ x = w16.heap.size)) ∧ x < w17.heap.size) := h2; omega)
     replace hO18 := hO18.upd hU20 (by intro x h1 h2; have h3 : ((w17.heap.size ≤ x) ∧ x < w18.heap.size) := h1; have h4 : ((((((((((x = w6.heap.size) ∧ x < w7.heap.size)) ∨ x = w11.heap.size)) ∧ x < w12.heap.size)) ∨ x = w16.heap.size)) ∧ x < w17.heap.size) := h2; omega)
     replace hO20 := hO20.tight
     have hl_hO20 := hO20.sl.len
     have hc_hO20 := hO20.sl.cap.1
     refine Was (.slice a20 4 c20) ?_
     refine Wl_nil ?_
     refine W_ret ?_
     refine ret_end (v := .slice a20 4 c20) rfl (res1 results53 rfl) ?_
     refine Or.inl ⟨(e4_y3 q1 q2 q3).trans q4, ?_⟩
     exact ⟨_, rfl, a20, c20, a3, m3, c3, a8, m8, c8, a13, m13, c13, a18, m - ((gbytes b ((gbytes b ((gbytes b ((gnum b (gnum b (gnum b 0 131072).2.1 131072).2.1 131072).2.1) ((gnum b 0 131072).1)).2.1) ((gnum b (gnum b 0 131072).2.1 131072).1)).2.1) ((gnum b (gnum b (gnum b 0 131072).2.1 131072).2.1 131072).1)).2.1), c18, rfl, (hO20.weak (by intro g hg; have h3 : ((((((((((((((g = w6.heap.size) ∧ g < w7.heap.size)) ∨ g = w11.heap.size)) ∧ g < w12.heap.size)) ∨ g = w16.heap.size)) ∧ g < w17.heap.size)) ∨ g = w19.heap.size)) ∧ g < w20.heap.size) := hg; show w.heap.size ≤ g; omega)), (hO3.weak (by intro g hg; have h3 : ((w2.heap.size ≤ g) ∧ g < w3.heap.size) := hg; show w.heap.size ≤ g; omega)), (hO8.weak (by intro g hg; have h3 : ((w7.heap.size ≤ g) ∧ g < w8.heap.size) := hg; show w.heap.size ≤ g; omega)), (hO13.weak (by intro g hg; have h3 : ((w12.heap.size ≤ g) ∧ g < w13.heap.size) := hg; show w.heap.size ≤ g; omega)), (hO18.weak (by intro g hg; have h3 : ((w17.heap.size ≤ g) ∧ g < w18.heap.size) := hg; show w.heap.size ≤ g; omega)), HU⟩
    refine Wl_callp (r_call1 rfl call38 rfl) (fmust_no (er := (gbytes b ((gbytes b ((gbytes b ((gnum b (gnum b (gnum b 0 131072).2.1 131072).2.1 131072).2.1) ((gnum b 0 131072).1)).2.1) ((gnum b (gnum b 0 131072).2.1 131072).1)).2.1) ((gnum b (gnum b (gnum b 0 131072).2.1 131072).2.1 131072).1)).2.2) _ hs14.sl.any q4) ?_
    intro w21 hU21
    have hzw21 := hU21.size
    replace HU := HU.trans0 hU21
    refine pan_ds rfl ?_
    refine lv_panic ?_
    exact Or.inr ⟨by rw [e4_y3 q1 q2 q3]; exact q4, by rw [e4_y3 q1 q2 q3], HU⟩
   refine Wl_callp (r_call1 rfl call38 rfl) (fmust_no (er := (gbytes b ((gbytes b ((gnum b (gnum b (gnum b 0 131072).2.1 131072).2.1 131072).2.1) ((gnum b 0 131072).1)).2.1) ((gnum b (gnum b 0 131072).2.1 131072).1)).2.2) _ hs9.sl.any q3) ?_
   intro w22 hU22
   have hzw22 := hU22.size
   replace HU := HU.trans0 hU22
   refine pan_ds rfl ?_
   refine lv_panic ?_
   exact Or.inr ⟨by rw [e4_y2 q1 q2 q3]; exact q3, by rw [e4_y2 q1 q2 q3], HU⟩
  refine Wl_callp (r_call1 rfl call38 rfl) (fmust_no (er := (gbytes b ((gnum b (gnum b (gnum b 0 131072).2.1 131072).2.1 131072).2.1) ((gnum b 0 131072).1)).2.2) _ hs4.sl.any q2) ?_
  intro w23 hU23
  have hzw23 := hU23.size
  replace HU := HU.trans0 hU23
  refine pan_ds rfl ?_
  refine lv_panic ?_
  exact Or.inr ⟨by rw [e4_y1 q1 q2]; exact q2, by rw [e4_y1 q1 q2], HU⟩
 refine Wl_callp (r_call1 rfl call81 rfl) (lens_no4 _ hp (hsb.cur (by intro h1; have h3 : (pb < w.heap.size ∧ pb ≠ pb) := h1; first | omega | simp at h3)) hb (by omega) q1) ?_
 intro w24 hU24
 have hzw24 := hU24.size
 replace HU := HU.trans1 hU24 (by show (pb = pb) ∨ w.heap.size ≤ pb; omega)
 refine pan_ds rfl ?_
 refine lv_panic ?_
 exact Or.inr ⟨by rw [e4_3 q1]; exact q1, by rw [e4_3 q1], HU⟩
theorem strm_ok {pb : Nat} {a2 : Option Addr} {m d : Nat} {b : List Int} (w : World) (hp : Blk w pb [.slice a2 m d, .int .i64 0]) (hsb : Sl w (fun g => g < w.heap.size ∧ g ≠ pb) 1 (.slice a2 m d) m (ints .u8 b)) (hb : Byt b) (hm : m ≤ 100000) (he : e4 b = 0) :
  Calls Tryz.prog 53 #[.agg #[.pointer (some ⟨pb, 0, none⟩)]] w (Ret fun v w' => ∃ (a' : Option Addr) (c' : Nat) (ja : Option Addr) (ka : Nat) (qa : Nat) (jb : Option Addr) (kb : Nat) (qb : Nat) (jc : Option Addr) (kc : Nat) (qc : Nat) (jd : Option Addr) (kd : Nat) (qd : Nat), v = .slice a' 4 c' ∧ Own w' (fun g => w.heap.size ≤ g) 32 1 (.slice a' 4 c') 4 ([.slice ja ka qa, .slice jb kb qb, .slice jc kc qc, .slice jd kd qd]) ∧ Own w' (fun g => w.heap.size ≤ g) 5 1 (.slice ja ka qa) ka (ints .u8 ((gbytes b (gnum b (gnum b (gnum b 0 131072).2.1 131072).2.1 131072).2.1 (gnum b 0 131072).1).1)) ∧ Own w' (fun g => w.heap.size ≤ g) 5 1 (.slice jb kb qb) kb (ints .u8 ((gbytes b (gbytes b (gnum b (gnum b (gnum b 0 131072).2.1 131072).2.1 131072).2.1 (gnum b 0 131072).1).2.1 (gnum b (gnum b 0 131072).2.1 131072).1).1)) ∧ Own w' (fun g => w.heap.size ≤ g) 5 1 (.slice jc kc qc) kc (ints .u8 ((gbytes b (gbytes b (gbytes b (gnum b (gnum b (gnum b 0 131072).2.1 131072).2.1 131072).2.1 (gnum b 0 131072).1).2.1 (gnum b (gnum b 0 131072).2.1 131072).1).2.1 (gnum b (gnum b (gnum b 0 131072).2.1 131072).2.1 131072).1).1)) ∧ Own w' (fun g => w.heap.size ≤ g) 5 1 (.slice jd kd qd) kd (ints .u8 (b.drop (gbytes b (gbytes b (gbytes b (gnum b (gnum b (gnum b 0 131072).2.1 131072).2.1 131072).2.1 (gnum b 0 131072).1).2.1 (gnum b (gnum b 0 131072).2.1 131072).1).2.1 (gnum b (gnum b (gnum b 0 131072).2.1 131072).2.1 131072).1).2.1)) ∧ Upd (Is pb) w w') :=
 (strm_all w hp hsb hb hm).mono fun e w1 h => Or.elim h (fun h => h.2) (fun h => absurd he h.1)
theorem strm_no {pb : Nat} {a2 : Option Addr} {m d : Nat} {b : List Int} (w : World) (hp : Blk w pb [.slice a2 m d, .int .i64 0]) (hsb : Sl w (fun g => g < w.heap.size ∧ g ≠ pb) 1 (.slice a2 m d) m (ints .u8 b)) (hb : Byt b) (hm : m ≤ 100000) (he : ¬ e4 b = 0) :
  Calls Tryz.prog 53 #[.agg #[.pointer (some ⟨pb, 0, none⟩)]] w (Pan (.iface 23 (.int .i64 (e4 b))) fun w' => Upd (Is pb) w w') :=
 (strm_all w hp hsb hb hm).mono fun e w1 h => Or.elim h (fun h => absurd h.1 he) (fun h => h.2)
theorem jlong {a : Option Addr} {n c : Nat} (w : World)  :
  Calls Tryz.prog 47 #[.slice a n c] w (Ret fun v w' => v = .bool (decide ((131072 : Int) < ((n : Nat) : Int))) ∧ Upd No w w') := by
 have HU := Upd.rno w
 refine calls_of_W func47 rfl ntmps47 (by simp) ?_
 refine W_seq (W_region ?_)
 refine Was (.bool false) ?_
 refine Wl_nil (W_seq (W_region ?_))
 refine Wmv (.slice a n c) ?_
 refine Wl_v (r_len underlying32 rfl) ?_
 refine Wl_v (r_gt rfl rfl) ?_
 refine Was (.bool (decide (131072 < ((n : Nat) : Int)))) ?_
 refine Wl_nil ?_
 refine W_ret ?_
 refine ret_end (v := .bool (decide (131072 < ((n : Nat) : Int)))) rfl (res1 results47 rfl) ?_
 exact ⟨_, rfl, (vbool (by omega)), HU⟩
theorem ixf_in {a : Option Addr} {c : Nat} {ja jb jc : Option Addr} {ka kb kc qa qb qc : Nat} {R : Nat → Prop} (w : World) (hS : Sl w R 1 (.slice a 3 c) 3 ([.slice ja ka qa, .slice jb kb qb, .slice jc kc qc])) (hb : ka ≤ 131072 ∧ kb ≤ 131072 ∧ kc ≤ 131072) :
  Calls Tryz.prog 78 #[.slice a 3 c, .func (.func 47) #[] #[]] w (Ret fun v w' => v = .int .i64 (-1) ∧ Upd No w w') := by
 have HU := Upd.rno w
 have hl_hS := hS.len
 have hc_hS := hS.cap.1
 replace hS := hS.tight
 refine calls_of_W func78 rfl ntmps78 (by simp) ?_
 refine W_seq (W_region ?_)
 refine Was (.int .i64 0) ?_
 refine Wl_nil (W_seq (W_seq (W_region ?_)))
 refine Wmv (.slice a 3 c) ?_
 refine Wl_v (r_len underlying41 rfl) ?_
 refine Wmv (.int .i64 0) ?_
 refine Wl_nil (W_block ?_)
 refine W_unroll 4 ?_
 refine unrK_succ ?_
 refine W_seq (W_region ?_)
 refine Wl_v (v := .bool true) (r_lt (a := 0) (b := 3) rfl rfl) ?_
 refine Wl_nil (W_seq ?_)
 refine W_cond_t rfl ?_
 refine W_skip (W_seq (W_block (W_seq (W_region ?_))))
 refine Wmv (.int .i64 0) ?_
 refine Was (.int .i64 0) ?_
 refine Wl_nil (W_seq (W_region ?_))
 refine Wmv (.func (.func 47) #[] #[]) ?_
 refine Wmv (.slice a 3 c) ?_
 refine Wmv (.int .i64 0) ?_
 refine Wl_idxc (i' := 0) (v := .slice ja ka qa) underlying41 sizeOf32 rfl rfl (by first | rfl | omega) hS (by decide) rfl ?_
 intro ib1 io1 hc1
 refine Wl_loadc isAgg32 rfl hc1 ?_
 refine Wl_call (r_clos1 call47 rfl rfl (by first | (simp; done) | (simp; rfl))) (jlong _ ) ?_
 rintro v w2 ⟨rfl, hU2⟩
 have hzw2 := hU2.size
 replace hS := hS.upd0 hU2
 replace HU := HU.trans0 hU2
 refine Wl_nil ?_
 have q1 : ¬ ((131072 : Int) < ((ka : Nat) : Int)) := (by omega)
 rw [decide_eq_false q1]
 refine W_cond_f rfl ?_
 refine W_skip (W_region ?_)
 refine Wl_v (r_add rfl rfl (show _ = (1 : Int) from by decide)) ?_
 refine Wmv (.int .i64 1) ?_
 refine Wl_nil ?_
 refine unrK_succ ?_
 refine W_seq (W_region ?_)
 refine Wl_v (v := .bool true) (r_lt (a := 1) (b := 3) rfl rfl) ?_
 refine Wl_nil (W_seq ?_)
 refine W_cond_t rfl ?_
 refine W_skip (W_seq (W_block (W_seq (W_region ?_))))
 refine Wmv (.int .i64 1) ?_
 refine Was (.int .i64 1) ?_
 refine Wl_nil (W_seq (W_region ?_))
 refine Wmv (.func (.func 47) #[] #[]) ?_
 refine Wmv (.slice a 3 c) ?_
 refine Wmv (.int .i64 1) ?_
 refine Wl_idxc (i' := 1) (v := .slice jb kb qb) underlying41 sizeOf32 rfl rfl (by first | rfl | omega) hS (by decide) rfl ?_
 intro ib3 io3 hc3
 refine Wl_loadc isAgg32 rfl hc3 ?_
 refine Wl_call (r_clos1 call47 rfl rfl (by first | (simp; done) | (simp; rfl))) (jlong _ ) ?_
 rintro v w4 ⟨rfl, hU4⟩
 have hzw4 := hU4.size
 replace hS := hS.upd0 hU4
 replace HU := HU.trans0 hU4
 refine Wl_nil ?_
 have q2 : ¬ ((131072 : Int) < ((kb : Nat) : Int)) := (by omega)
 rw [decide_eq_false q2]
 refine W_cond_f rfl ?_
 refine W_skip (W_region ?_)
 refine Wl_v (r_add rfl rfl (show _ = (2 : Int) from by decide)) ?_
 refine Wmv (.int .i64 2) ?_
 refine Wl_nil ?_
 refine unrK_succ ?_
 refine W_seq (W_region ?_)
 refine Wl_v (v := .bool true) (r_lt (a := 2) (b := 3) rfl rfl) ?_
 refine Wl_nil (W_seq ?_)
 refine W_cond_t rfl ?_
 refine W_skip (W_seq (W_block (W_seq (W_region ?_))))
 refine Wmv (.int .i64 2) ?_
 refine Was (.int .i64 2) ?_
 refine Wl_nil (W_seq (W_region ?_))
 refine Wmv (.func (.func 47) #[] #[]) ?_
 refine Wmv (.slice a 3 c) ?_
 refine Wmv (.int .i64 2) ?_
 refine Wl_idxc (i' := 2) (v := .slice jc kc qc) underlying41 sizeOf32 rfl rfl (by first | rfl | omega) hS (by decide) rfl ?_
 intro ib5 io5 hc5
 refine Wl_loadc isAgg32 rfl hc5 ?_
 refine Wl_call (r_clos1 call47 rfl rfl (by first | (simp; done) | (simp; rfl))) (jlong _ ) ?_
 rintro v w6 ⟨rfl, hU6⟩
 have hzw6 := hU6.size
 replace HU := HU.trans0 hU6
 refine Wl_nil ?_
 have q3 : ¬ ((131072 : Int) < ((kc : Nat) : Int)) := (by omega)
 rw [decide_eq_false q3]
 refine W_cond_f rfl ?_
 refine W_skip (W_region ?_)
 refine Wl_v (r_add rfl rfl (show _ = (3 : Int) from by decide)) ?_
 refine Wmv (.int .i64 3) ?_
 refine Wl_nil ?_
 refine unrK_succ ?_
 refine W_seq (W_region ?_)
 refine Wl_v (v := .bool false) (r_lt (a := 3) (b := 3) rfl rfl) ?_
 refine Wl_nil (W_seq ?_)
 refine W_cond_f rfl ?_
 refine W_exit ?_
 refine W_seq (W_region ?_)
 refine Was (.int .i64 (-1)) ?_
 refine Wl_nil ?_
 refine W_ret ?_
 refine ret_end (v := .int .i64 (-1)) rfl (res1 results78 rfl) ?_
 exact ⟨_, rfl, rfl, HU⟩
theorem ctf_in {a : Option Addr} {c : Nat} {ja jb jc : Option Addr} {ka kb kc qa qb qc : Nat} {R : Nat → Prop} (w : World) (hS : Sl w R 1 (.slice a 3 c) 3 ([.slice ja ka qa, .slice jb kb qb, .slice jc kc qc])) (hb : ka ≤ 131072 ∧ kb ≤ 131072 ∧ kc ≤ 131072) :
  Calls Tryz.prog 46 #[.slice a 3 c, .func (.func 47) #[] #[]] w (Ret fun v w' => v = .bool false ∧ Upd No w w') := by
 have HU := Upd.rno w
 have hl_hS := hS.len
 have hc_hS := hS.cap.1
 replace hS := hS.tight
 refine calls_of_W func46 rfl ntmps46 (by simp) ?_
 refine W_seq (W_region ?_)
 refine Was (.bool false) ?_
 refine Wl_nil (W_seq (W_region ?_))
 refine Wmv (.slice a 3 c) ?_
 refine Wmv (.func (.func 47) #[] #[]) ?_
 refine Wl_call (r_call2 rfl call78 rfl rfl) (ixf_in _ hS (by omega)) ?_
 rintro v w1 ⟨rfl, hU1⟩
 have hzw1 := hU1.size
 replace HU := HU.trans0 hU1
 refine Wl_v (v := .bool false) (r_ge (a := -1) (b := 0) rfl rfl) ?_
 refine Was (.bool false) ?_
 refine Wl_nil ?_
 refine W_ret ?_
 refine ret_end (v := .bool false) rfl (res1 results46 rfl) ?_
 exact ⟨_, rfl, rfl, HU⟩
theorem fjoin_ok {a : Option Addr} {c : Nat} {ja jb jc jd : Option Addr} {ka kb kc kd qa qb qc qd : Nat} {xa xb xc xd : List Int} {R : Nat → Prop} (w : World) (hS : Sl w R 1 (.slice a 4 c) 4 ([.slice ja ka qa, .slice jb kb qb, .slice jc kc qc, .slice jd kd qd])) (ha : Sl w (fun g => g < w.heap.size) 1 (.slice ja ka qa) ka (ints .u8 xa)) (hb : Sl w (fun g => g < w.heap.size) 1 (.slice jb kb qb) kb (ints .u8 xb)) (hc : Sl w (fun g => g < w.heap.size) 1 (.slice jc kc qc) kc (ints .u8 xc)) (hd : Sl w (fun g => g < w.heap.size) 1 (.slice jd kd qd) kd (ints .u8 xd)) (hkb : ka ≤ 131072 ∧ kb ≤ 131072 ∧ kc ≤ 131072) (hn : kd ≤ 140737487000000) :
  Calls Tryz.prog 21 #[.slice a 4 c] w (Ret fun v w' => ∃ (a' : Option Addr) (m' : Nat) (c' : Nat), v = .tuple #[.slice a' m' c', .int .i64 0] ∧ Own w' (fun g => w.heap.size ≤ g) 5 1 (.slice a' m' c') m' (ints .u8 (jn xa xb xc xd)) ∧ Upd No w w') := by
 have HU := Upd.rno w
 have hl_hS := hS.len
 have hc_hS := hS.cap.1
 replace hS := hS.tight
 have hl_ha := ilen ha
 have hc_ha := ha.cap.1
 have hl_hb := ilen hb
 have hc_hb := hb.cap.1
 have hl_hc := ilen hc
 have hc_hc := hc.cap.1
 have hl_hd := ilen hd
 have hc_hd := hd.cap.1
 refine calls_of_W func21 rfl ntmps21 (by simp) ?_
 refine W_seq (W_region ?_)
 refine Wl_alloc (cs := [.slice none 0 0]) zeroValue32 rfl ?_
 intro B1 w1 hB1 hU1 hzz1 hb1
 have hzw1 := hU1.size
 replace hS := hS.upd0 hU1
 replace ha := ha.upd0 hU1
 replace hb := hb.upd0 hU1
 replace hc := hc.upd0 hU1
 replace hd := hd.upd0 hU1
 replace HU := HU.trans0 hU1
 refine Wl_alloc (cs := [.int .i64 0]) zeroValue23 rfl ?_
 intro B2 w2 hB2 hU2 hzz2 hb2
 have hzw2 := hU2.size
 replace hS := hS.upd0 hU2
 replace ha := ha.upd0 hU2
 replace hb := hb.upd0 hU2
 replace hc := hc.upd0 hU2
 replace hd := hd.upd0 hU2
 replace HU := HU.trans0 hU2
 replace hb1 := hb1.upd0 hU2
 refine Wl_nil (W_seq (W_region ?_))
 refine Wl_v (r_mkf1 (v0 := .pointer (some ⟨B1, 0, none⟩)) rfl) ?_
 refine Wl_defer2 rfl rfl ?_
 refine Wl_nil (W_seq (W_region ?_))
 refine Wmv (.slice a 4 c) ?_
 refine Wl_v (r_len underlying41 rfl) ?_
 refine Wl_v (v := .bool true) (r_eq (a := 4) (b := 4) rfl rfl) ?_
 refine Wl_call (r_call2 rfl call45 rfl rfl) (fis_ok _ ) ?_
 rintro v w3 ⟨rfl, hU3⟩
 have hzw3 := hU3.size
 replace hS := hS.upd0 hU3
 replace ha := ha.upd0 hU3
 replace hb := hb.upd0 hU3
 replace hc := hc.upd0 hU3
 replace hd := hd.upd0 hU3
 replace HU := HU.trans0 hU3
 replace hb1 := hb1.upd0 hU3
 replace hb2 := hb2.upd0 hU3
 refine Wl_nil (W_seq (W_region ?_))
 refine Wmv (.slice a 4 c) ?_
 refine Wl_v (r_slicehn (h' := 3) underlying41 sizeOf32 rfl rfl (by omega) (by omega)) ?_
 have hT4 : Sl w3 (fun g => ((R g) ∧ g < w.heap.size)) 1 (.slice a 3 c) 3 [.slice ja ka qa, .slice jb kb qb, .slice jc kc qc] := Sl.cutc (k := 3) hS (by decide)
 refine Wl_call (r_call2 rfl call46 rfl rfl) (ctf_in _ hT4 (by omega)) ?_
 rintro v w5 ⟨rfl, hU5⟩
 have hzw5 := hU5.size
 replace hS := hS.upd0 hU5
 replace ha := ha.upd0 hU5
 replace hb := hb.upd0 hU5
 replace hc := hc.upd0 hU5
 replace hd := hd.upd0 hU5
 replace HU := HU.trans0 hU5
 replace hb1 := hb1.upd0 hU5
 replace hb2 := hb2.upd0 hU5
 refine Wl_v (r_not (b := false) rfl) ?_
 refine Wl_call (r_call2 rfl call45 rfl rfl) (fis_ok _ ) ?_
 rintro v w6 ⟨rfl, hU6⟩
 have hzw6 := hU6.size
 replace hS := hS.upd0 hU6
 replace ha := ha.upd0 hU6
 replace hb := hb.upd0 hU6
 replace hc := hc.upd0 hU6
 replace hd := hd.upd0 hU6
 replace HU := HU.trans0 hU6
 replace hb1 := hb1.upd0 hU6
 replace hb2 := hb2.upd0 hU6
 refine Wl_nil (W_seq (W_region ?_))
 refine Wmv (.slice a 4 c) ?_
 refine Wl_call (r_call1 rfl call39 rfl) (join4 _ hS ha.any hb.any hc.any hd.any (by omega)) ?_
 rintro v w7 ⟨a7, m7, c7, rfl, hO7, hU7⟩
 have hzw7 := hU7.size
 replace HU := HU.trans0 hU7
 replace hb1 := hb1.upd0 hU7
 replace hb2 := hb2.upd0 hU7
 replace hO7 := hO7.tight
 have hl_hO7 := ilen hO7.sl
 have hc_hO7 := hO7.sl.cap.1
 refine Wl_store (v := .slice a7 m7 c7) (cs' := [.slice a7 m7 c7]) sizeOf32 rfl rfl rfl rfl hb1 rfl rfl ?_
 intro w8 hU8 hzz8 hb1n
 replace hb1 := hb1n; clear hb1n
 have hzw8 := hU8.size
 replace HU := HU.t1 hU8 (by omega)
 replace hb2 := hb2.upd1 hU8 (by omega)
 replace hO7 := hO7.upd1 hU8 (show ¬ (((w6.heap.size ≤ B1) ∧ B1 < w7.heap.size)) by omega)
 refine Wl_store (v := .int .i64 0) (cs' := [.int .i64 0]) sizeOf23 rfl rfl rfl rfl hb2 rfl rfl ?_
 intro w9 hU9 hzz9 hb2n
 replace hb2 := hb2n; clear hb2n
 have hzw9 := hU9.size
 replace HU := HU.t1 hU9 (by omega)
 replace hb1 := hb1.upd1 hU9 (by omega)
 replace hO7 := hO7.upd1 hU9 (show ¬ (((w6.heap.size ≤ B2) ∧ B2 < w7.heap.size)) by omega)
 refine Wl_nil ?_
 refine W_ret ?_
 refine ret_ds rfl ?_
 refine lv_call (by simp) call33 rfl (fcaught_ret _) ?_
 rintro e1 u1 w10 ⟨rfl, v1, rfl, rfl, hU10⟩
 have hzw10 := hU10.size
 replace HU := HU.trans0 hU10
 replace hb1 := hb1.upd0 hU10
 replace hb2 := hb2.upd0 hU10
 replace hO7 := hO7.upd0 hU10
 refine lv_nil (v := .tuple #[.slice a7 m7 c7, .int .i64 0]) (rc2 results21 rfl rfl (cellIs isAgg32 hb1) (cellIs isAgg23 hb2)) ?_
 exact ⟨_, rfl, a7, m7, c7, rfl, (hO7.weak (by intro g hg; have h3 : ((w6.heap.size ≤ g) ∧ g < w7.heap.size) := hg; show w.heap.size ≤ g; omega)), HU⟩
end Go.Proofs.YtdppageondgjkaaGreat
