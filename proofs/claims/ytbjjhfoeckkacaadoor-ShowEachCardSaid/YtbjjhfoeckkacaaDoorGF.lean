/-
  Several texts of this project, put together.
-/
import Derived.Test.YtbjjhfoeckkacaaDoorGD
set_option linter.unusedVariables false
set_option linter.unusedSimpArgs false
set_option maxRecDepth 100000
namespace Go.Proofs.YtbjjhfoeckkacaaDoor
open Go.Fw _root_.Go.Proofs.Tryd
theorem rkind_short {a : Option Addr} {n c p : Nat} {bs : List Int} (w : World) (hs : Sl w (fun g => g < w.heap.size) 1 (.slice a n c) n (ints .u8 bs)) (hb : Byt bs) (hpn : p ≤ n) (hn : n ≤ 140737488355328) (h3 : n < p + 3) :
  Calls Tryd.prog 42 #[.slice a n c, .int .i64 ((p : Nat) : Int)] w (Ret fun v w' => v = .tuple #[.int .i64 0, .int .i64 0, .bool false, .bool false] ∧ Upd No w w') := by
 have HU := Upd.rno w
 have hl_hs := ilen hs
 have hc_hs := hs.cap.1
 refine calls_of_W func42 rfl ntmps42 (by simp) ?_
 refine W_seq (W_region ?_)
 refine Was (.int .i64 0) ?_
 refine Was (.int .i64 0) ?_
 refine Was (.bool false) ?_
 refine Was (.bool false) ?_
 refine Wl_nil (W_seq (W_seq (W_region ?_)))
 refine Wmv (.slice a n c) ?_
 refine Wl_v (r_len underlying22 rfl) ?_
 refine Wmv (.int .i64 ((p : Nat) : Int)) ?_
 refine Wl_v (r_sub rfl rfl (wi64 (by omega) (by omega))) ?_
 refine Wl_v (r_lt rfl rfl) ?_
 refine Wl_nil ?_
 have q1 : (((n : Nat) : Int) - ((p : Nat) : Int)) < 3 := (by omega)
 rw [decide_eq_true q1]
 refine W_cond_t rfl ?_
 refine W_seq (W_region ?_)
 refine Was (.int .i64 0) ?_
 refine Was (.int .i64 0) ?_
 refine Was (.bool false) ?_
 refine Was (.bool false) ?_
 refine Wl_nil ?_
 refine W_ret ?_
 refine ret_end (v := .tuple #[.int .i64 0, .int .i64 0, .bool false, .bool false]) rfl (res4 results42 rfl rfl rfl rfl) ?_
 exact ⟨_, rfl, rfl, HU⟩
theorem rkind_ok {a : Option Addr} {n c p : Nat} {bs : List Int} (w : World) (hs : Sl w (fun g => g < w.heap.size) 1 (.slice a n c) n (ints .u8 bs)) (hb : Byt bs) (hpn : p ≤ n) (hn : n ≤ 140737488355328) (h3 : ¬ n < p + 3) :
  Calls Tryd.prog 42 #[.slice a n c, .int .i64 ((p : Nat) : Int)] w (Ret fun v w' => v = .tuple #[.int .i64 (bkd bs p), .int .i64 (bsz bs p), .bool (decide (bla bs p = true)), .bool true] ∧ Upd No w w') := by
 have HU := Upd.rno w
 have hl_hs := ilen hs
 have hc_hs := hs.cap.1
 have hq0 := byt_gd hb p
 have hq1 := byt_gd hb (((p : Nat) : Int) + 1).toNat
 have hq2 := byt_gd hb (((p : Nat) : Int) + 2).toNat
 have hbn := bnum_bd hb p
 refine calls_of_W func42 rfl ntmps42 (by simp) ?_
 refine W_seq (W_region ?_)
 refine Was (.int .i64 0) ?_
 refine Was (.int .i64 0) ?_
 refine Was (.bool false) ?_
 refine Was (.bool false) ?_
 refine Wl_nil (W_seq (W_seq (W_region ?_)))
 refine Wmv (.slice a n c) ?_
 refine Wl_v (r_len underlying22 rfl) ?_
 refine Wmv (.int .i64 ((p : Nat) : Int)) ?_
 refine Wl_v (r_sub rfl rfl (wi64 (by omega) (by omega))) ?_
 refine Wl_v (r_lt rfl rfl) ?_
 refine Wl_nil ?_
 have q1 : ¬ ((((n : Nat) : Int) - ((p : Nat) : Int)) < 3) := (by omega)
 rw [decide_eq_false q1]
 refine W_cond_f rfl ?_
 refine W_skip (W_seq ?_)
 refine W_drawt rfl (l0 := tf 0 22) (by kernel_rfl) ?_
 refine Tk 0 (tf 1 22) rfl (YI_v (v := .slice a n c) rfl (fun w' hw' => r_mv (v := .slice a n c) rfl)) ?_
 refine Tk 1 (tf 2 22) rfl (YI_v (v := .int .i64 ((p : Nat) : Int)) rfl (fun w' hw' => r_mv (v := .int .i64 ((p : Nat) : Int)) rfl)) ?_
 obtain ⟨ib1, io1, ha1, hib1, hc1⟩ := (hs).iat (i := p) (by omega)
 replace hib1 : ib1 < w.heap.size := hib1
 refine Tk 2 (tf 3 22) rfl (YI_v (v := .pointer (some ⟨ib1, io1 + p, none⟩)) rfl (fun w' hw' => r_idx (b := ib1) (off := io1) (m := n) (c := c) (o' := io1 + p) underlying22 sizeOf5 (by rw [← ha1]; rfl) rfl (by omega) (by omega) (by omega))) ?_
 refine Tk 3 (tf 4 22) rfl (YI_v (v := .int .u8 (bs.getD p 0)) rfl (fun w' hw' => r_load isAgg5 rfl (hw'.cellk hc1))) ?_
 refine Tk 4 (tf 5 22) rfl (YI_v (v := .int .i64 (bs.getD p 0)) rfl (fun w' hw' => r_cvt underlying5 underlying3 rfl (wi64 (by omega) (by omega)))) ?_
 refine Tk 5 (tf 6 22) rfl (YI_v (v := .slice a n c) rfl (fun w' hw' => r_mv (v := .slice a n c) rfl)) ?_
 refine Tk 6 (tf 7 22) rfl (YI_v (v := .int .i64 ((p : Nat) : Int)) rfl (fun w' hw' => r_mv (v := .int .i64 ((p : Nat) : Int)) rfl)) ?_
 refine Tk 7 (tf 8 22) rfl (YI_v (v := .int .i64 (((p : Nat) : Int) + 1)) rfl (fun w' hw' => r_add rfl rfl (wi64 (by omega) (by omega)))) ?_
 obtain ⟨ib2, io2, ha2, hib2, hc2⟩ := (hs).iat (i := (((p : Nat) : Int) + 1).toNat) (by omega)
 replace hib2 : ib2 < w.heap.size := hib2
 refine Tk 8 (tf 9 22) rfl (YI_v (v := .pointer (some ⟨ib2, io2 + (((p : Nat) : Int) + 1).toNat, none⟩)) rfl (fun w' hw' => r_idx (b := ib2) (off := io2) (m := n) (c := c) (o' := io2 + (((p : Nat) : Int) + 1).toNat) underlying22 sizeOf5 (by rw [← ha2]; rfl) rfl (by omega) (by omega) (by omega))) ?_
 refine Tk 9 (tf 10 22) rfl (YI_v (v := .int .u8 (bs.getD (((p : Nat) : Int) + 1).toNat 0)) rfl (fun w' hw' => r_load isAgg5 rfl (hw'.cellk hc2))) ?_
 refine Tk 10 (tf 11 22) rfl (YI_v (v := .int .i64 (bs.getD (((p : Nat) : Int) + 1).toNat 0)) rfl (fun w' hw' => r_cvt underlying5 underlying3 rfl (wi64 (by omega) (by omega)))) ?_
 refine Tk 11 (tf 12 22) rfl (YI_v (v := .int .i64 (256 * (bs.getD (((p : Nat) : Int) + 1).toNat 0))) rfl (fun w' hw' => r_mul rfl rfl (wi64 (by omega) (by omega)))) ?_
 refine Tk 12 (tf 13 22) rfl (YI_v (v := .int .i64 ((bs.getD p 0) + (256 * (bs.getD (((p : Nat) : Int) + 1).toNat 0)))) rfl (fun w' hw' => r_add rfl rfl (wi64 (by omega) (by omega)))) ?_
 refine Tk 13 (tf 14 22) rfl (YI_v (v := .slice a n c) rfl (fun w' hw' => r_mv (v := .slice a n c) rfl)) ?_
 refine Tk 14 (tf 15 22) rfl (YI_v (v := .int .i64 ((p : Nat) : Int)) rfl (fun w' hw' => r_mv (v := .int .i64 ((p : Nat) : Int)) rfl)) ?_
 refine Tk 15 (tf 16 22) rfl (YI_v (v := .int .i64 (((p : Nat) : Int) + 2)) rfl (fun w' hw' => r_add rfl rfl (wi64 (by omega) (by omega)))) ?_
 obtain ⟨ib3, io3, ha3, hib3, hc3⟩ := (hs).iat (i := (((p : Nat) : Int) + 2).toNat) (by omega)
 replace hib3 : ib3 < w.heap.size := hib3
 refine Tk 16 (tf 17 22) rfl (YI_v (v := .pointer (some ⟨ib3, io3 + (((p : Nat) : Int) + 2).toNat, none⟩)) rfl (fun w' hw' => r_idx (b := ib3) (off := io3) (m := n) (c := c) (o' := io3 + (((p : Nat) : Int) + 2).toNat) underlying22 sizeOf5 (by rw [← ha3]; rfl) rfl (by omega) (by omega) (by omega))) ?_
 refine Tk 17 (tf 18 22) rfl (YI_v (v := .int .u8 (bs.getD (((p : Nat) : Int) + 2).toNat 0)) rfl (fun w' hw' => r_load isAgg5 rfl (hw'.cellk hc3))) ?_
 refine Tk 18 (tf 19 22) rfl (YI_v (v := .int .i64 (bs.getD (((p : Nat) : Int) + 2).toNat 0)) rfl (fun w' hw' => r_cvt underlying5 underlying3 rfl (wi64 (by omega) (by omega)))) ?_
 refine Tk 19 (tf 20 22) rfl (YI_v (v := .int .i64 (65536 * (bs.getD (((p : Nat) : Int) + 2).toNat 0))) rfl (fun w' hw' => r_mul rfl rfl (wi64 (by omega) (by omega)))) ?_
 refine Tk 20 (tf 21 22) rfl (YI_v (v := .int .i64 (((bs.getD p 0) + (256 * (bs.getD (((p : Nat) : Int) + 1).toNat 0))) + (65536 * (bs.getD (((p : Nat) : Int) + 2).toNat 0)))) rfl (fun w' hw' => r_add rfl rfl (wi64 (by omega) (by omega)))) ?_
 refine Tk 21 (tf 22 22) rfl (YI_v (v := .int .i64 (((bs.getD p 0) + (256 * (bs.getD (((p : Nat) : Int) + 1).toNat 0))) + (65536 * (bs.getD (((p : Nat) : Int) + 2).toNat 0)))) rfl (fun w' hw' => r_as (v := .int .i64 (((bs.getD p 0) + (256 * (bs.getD (((p : Nat) : Int) + 1).toNat 0))) + (65536 * (bs.getD (((p : Nat) : Int) + 2).toNat 0)))) rfl)) ?_
 rw [show (((bs.getD p 0) + (256 * (bs.getD (((p : Nat) : Int) + 1).toNat 0))) + (65536 * (bs.getD (((p : Nat) : Int) + 2).toNat 0)) : Int) = bnum bs p from by unfold bnum; rw [show (((p : Nat) : Int) + 1).toNat = p + 1 from by omega, show (((p : Nat) : Int) + 2).toNat = p + 2 from by omega]]
 intro w4 hU4
 have hzw4 := hU4.size
 replace HU := HU.trans0 hU4
 replace hc1 := cell_upd0 hU4 hc1
 replace hc2 := cell_upd0 hU4 hc2
 replace hc3 := cell_upd0 hU4 hc3
 refine Wa_done (by kernel_rfl) ?_
 refine W_seq (W_region ?_)
 refine Wmv (.int .i64 (bnum bs p)) ?_
 refine Wl_v (r_quo rfl rfl (by omega) (tq (by omega) (wi64 (by omega) (by omega)))) ?_
 refine Wl_v (r_rem rfl rfl (by omega) (tr (by omega))) ?_
 refine Wmv (.int .i64 (bnum bs p)) ?_
 refine Wl_v (r_quo rfl rfl (by omega) (tq (by omega) (wi64 (by omega) (by omega)))) ?_
 refine Wmv (.int .i64 (bnum bs p)) ?_
 refine Wl_v (r_rem rfl rfl (by omega) (tr (by omega))) ?_
 refine Wl_v (r_eq rfl rfl) ?_
 refine Was (.int .i64 (((bnum bs p) / 2) % 4)) ?_
 refine Was (.int .i64 ((bnum bs p) / 8)) ?_
 refine Was (.bool (decide (((bnum bs p) % 2) = 1))) ?_
 refine Was (.bool true) ?_
 refine Wl_nil ?_
 refine W_ret ?_
 refine ret_end (v := .tuple #[.int .i64 (((bnum bs p) / 2) % 4), .int .i64 ((bnum bs p) / 8), .bool (decide (((bnum bs p) % 2) = 1)), .bool true]) rfl (res4 results42 rfl rfl rfl rfl) ?_
 exact ⟨_, rfl, (vtup4 rfl rfl (vbool bla_iff) rfl), HU⟩
set_option maxHeartbeats 4000000 in
theorem rframe {a : Option Addr} {n c p : Nat} {bs : List Int} (w : World) (hs : Sl w (fun g => g < w.heap.size) 1 (.slice a n c) n (ints .u8 bs)) (hb : Byt bs) (hpn : p ≤ n) (hn : n ≤ 140737488355328) (hm1 : Hm bs p) (hm : n ≤ 100000) :
  Calls Tryd.prog 27 #[.slice a n c, .int .i64 ((p : Nat) : Int)] w (Ret fun v w' => ∃ (a' : Option Addr) (m' : Nat) (c' : Nat), v = .tuple #[.agg #[.int .i64 ((gpart bs p).1.at_), .int .i64 ((gpart bs p).1.sz), .bool (decide ((gpart bs p).1.sk = true)), .int .i64 ((gpart bs p).1.pl), .int .i64 ((gpart bs p).1.hd.1), .int .i64 ((gpart bs p).1.hd.2.1), .int .u32 ((gpart bs p).1.hd.2.2.1), .bool (decide ((gpart bs p).1.hd.2.2.2 = true)), .slice a' m' c', .int .u32 ((gpart bs p).1.ck)], .int .i64 (((gpart bs p).2.1 : Nat) : Int), .int .i64 ((gpart bs p).2.2)] ∧ Own w' (fun g => w.heap.size ≤ g) 53 5 (.slice a' m' c') m' (rows encK ((gpart bs p).1.bl)) ∧ Upd No w w') := by
 have HU := Upd.rno w
 have hl_hs := ilen hs
 have hc_hs := hs.cap.1
 refine calls_of_W func27 rfl ntmps27 (by simp) ?_
 refine W_seq (W_region ?_)
 refine Wl_alloc (cs := [.int .i64 0, .int .i64 0, .bool false, .int .i64 0, .int .i64 0, .int .i64 0, .int .u32 0, .bool false, .slice none 0 0, .int .u32 0]) zeroValue48 rfl ?_
 intro B1 w1 hB1 hU1 hzz1 hb1
 have hzw1 := hU1.size
 replace hs := hs.upd0 hU1
 replace HU := HU.trans0 hU1
 refine Was (.int .i64 0) ?_
 refine Was (.int .i64 0) ?_
 refine Wl_nil (W_seq (W_region ?_))
 refine Wmv (.slice a n c) ?_
 refine Wmv (.int .i64 ((p : Nat) : Int)) ?_
 refine Wl_call (r_call2 rfl call41 rfl rfl) (rget38 _ hs.any hb (by omega) (by omega)) ?_
 rintro v w2 ⟨rfl, hU2⟩
 have hzw2 := hU2.size
 replace hs := hs.upd0 hU2
 replace HU := HU.trans0 hU2
 replace hb1 := hb1.upd0 hU2
 refine Wmv (.tuple #[.agg #[.int .i64 ((ghead bs p).1.1), .int .i64 ((ghead bs p).1.2.1), .int .u32 ((ghead bs p).1.2.2.1), .bool (decide ((ghead bs p).1.2.2.2 = true))], .int .i64 (((ghead bs p).2.1 : Nat) : Int), .int .i64 ((ghead bs p).2.2)]) ?_
 refine Wl_v (r_ext (v := .agg #[.int .i64 ((ghead bs p).1.1), .int .i64 ((ghead bs p).1.2.1), .int .u32 ((ghead bs p).1.2.2.1), .bool (decide ((ghead bs p).1.2.2.2 = true))]) rfl rfl) ?_
 refine Wl_v (r_ext (v := .int .i64 (((ghead bs p).2.1 : Nat) : Int)) rfl rfl) ?_
 refine Wl_v (r_ext (v := .int .i64 ((ghead bs p).2.2)) rfl rfl) ?_
 refine Wl_alloc (cs := [.int .i64 0, .int .i64 0, .int .u32 0, .bool false]) zeroValue41 rfl ?_
 intro B3 w3 hB3 hU3 hzz3 hb3
 have hzw3 := hU3.size
 replace hs := hs.upd0 hU3
 replace HU := HU.trans0 hU3
 replace hb1 := hb1.upd0 hU3
 refine Wl_storea (off := 0) (vs := [.int .i64 ((ghead bs p).1.1), .int .i64 ((ghead bs p).1.2.1), .int .u32 ((ghead bs p).1.2.2.1), .bool (decide ((ghead bs p).1.2.2.2 = true))]) (cs' := [.int .i64 ((ghead bs p).1.1), .int .i64 ((ghead bs p).1.2.1), .int .u32 ((ghead bs p).1.2.2.1), .bool (decide ((ghead bs p).1.2.2.2 = true))]) sizeOf41 rfl rfl rfl (by simp only [List.mem_cons, List.not_mem_nil, or_false, forall_eq_or_imp, forall_eq]; exact ⟨rfl, rfl, rfl, rfl⟩) hb3 (by simp) rfl ?_
 intro w4 hU4 hzz4 hb3n
 replace hb3 := hb3n; clear hb3n
 have hzw4 := hU4.size
 replace hs := hs.upd1 hU4 (show ¬ (B3 < w.heap.size) by omega)
 replace HU := HU.t1 hU4 (by omega)
 replace hb1 := hb1.upd1 hU4 (by omega)
 refine Was (.int .i64 (((ghead bs p).2.1 : Nat) : Int)) ?_
 refine Was (.int .i64 ((ghead bs p).2.2)) ?_
 refine Wl_nil (W_seq (W_seq (W_region ?_)))
 refine Wmv (.int .i64 ((ghead bs p).2.2)) ?_
 refine Wl_v (r_ne rfl rfl) ?_
 refine Wl_nil ?_
 by_cases q1 : ((ghead bs p).2.2) ≠ 0
 ·rw [decide_eq_true q1]
  refine W_cond_t rfl ?_
  refine W_seq (W_region ?_)
  refine Wl_v (r_build (pl := #[(0, 1), (1, 1), (2, 1), (3, 1), (4, 4), (8, 1), (9, 1)]) (pv := []) (cs := #[.int .i64 0, .int .i64 0, .bool false, .int .i64 0, .int .i64 0, .int .i64 0, .int .u32 0, .bool false, .slice none 0 0, .int .u32 0]) zeroValue48 underlying48 (fun w => by kernel_rfl) (by simp only [List.map_toArray, List.map_cons, List.map_nil] <;> rfl) (by kernel_rfl)) ?_
  refine Wmv (.int .i64 ((p : Nat) : Int)) ?_
  refine Wmv (.int .i64 ((ghead bs p).2.2)) ?_
  refine Wl_storea (off := 0) (vs := [.int .i64 0, .int .i64 0, .bool false, .int .i64 0, .int .i64 0, .int .i64 0, .int .u32 0, .bool false, .slice none 0 0, .int .u32 0]) (cs' := [.int .i64 0, .int .i64 0, .bool false, .int .i64 0, .int .i64 0, .int .i64 0, .int .u32 0, .bool false, .slice none 0 0, .int .u32 0]) sizeOf48 rfl rfl rfl (by simp only [List.mem_cons, List.not_mem_nil, or_false, forall_eq_or_imp, forall_eq]; exact ⟨rfl, rfl, rfl, rfl, rfl, rfl, rfl, rfl, rfl, rfl⟩) hb1 (by simp) rfl ?_
  intro w5 hU5 hzz5 hb1n
  replace hb1 := hb1n; clear hb1n
  have hzw5 := hU5.size
  replace HU := HU.t1 hU5 (by omega)
  refine Was (.int .i64 ((p : Nat) : Int)) ?_
  refine Was (.int .i64 ((ghead bs p).2.2)) ?_
  refine Wl_nil ?_
  refine W_ret ?_
  refine ret_end (v := .tuple #[.agg #[.int .i64 0, .int .i64 0, .bool false, .int .i64 0, .int .i64 0, .int .i64 0, .int .u32 0, .bool false, .slice none 0 0, .int .u32 0], .int .i64 ((p : Nat) : Int), .int .i64 ((ghead bs p).2.2)]) rfl (rm_ctt results27 rfl rfl rfl (cellAgg isAgg48 sizeOf48 rfl hb1)) ?_
  have HG := gp_head hm1.1 hm1.2 q1
  exact ⟨_, rfl, none, 0, 0, by rw [HG]; rfl, (by rw [HG]; exact Own.nil _ _ _ _), HU⟩
 have hge0 : (ghead bs p).2.2 = 0 := Classical.not_not.1 q1
 have hgg := ghead_ge hge0
 rw [decide_eq_false q1]
 refine W_cond_f rfl ?_
 refine W_skip (W_seq (W_region ?_))
 refine Wmv (.int .i64 ((p : Nat) : Int)) ?_
 refine Wl_v (r_loada (b := B3) (off := 0) (cs := [.int .i64 ((ghead bs p).1.1), .int .i64 ((ghead bs p).1.2.1), .int .u32 ((ghead bs p).1.2.2.1), .bool (decide ((ghead bs p).1.2.2.2 = true))]) isAgg41 sizeOf41 rfl rfl (fun j hj => by rw [hb3.cell]; match j, hj with | 0, _ => rfl | 1, _ => rfl | 2, _ => rfl | 3, _ => rfl)) ?_
 refine Wl_v (r_build (pl := #[(0, 1), (1, 1), (2, 1), (3, 1), (4, 4), (8, 1), (9, 1)]) (pv := [(0, .int .i64 ((p : Nat) : Int)), (4, .agg #[.int .i64 ((ghead bs p).1.1), .int .i64 ((ghead bs p).1.2.1), .int .u32 ((ghead bs p).1.2.2.1), .bool (decide ((ghead bs p).1.2.2.2 = true))])]) (cs := #[.int .i64 ((p : Nat) : Int), .int .i64 0, .bool false, .int .i64 0, .int .i64 ((ghead bs p).1.1), .int .i64 ((ghead bs p).1.2.1), .int .u32 ((ghead bs p).1.2.2.1), .bool (decide ((ghead bs p).1.2.2.2 = true)), .slice none 0 0, .int .u32 0]) zeroValue48 underlying48 (fun w => by kernel_rfl) (by simp only [List.map_toArray, List.map_cons, List.map_nil] <;> rfl) (by kernel_rfl)) ?_
 refine Wl_alloc (cs := [.int .i64 0, .int .i64 0, .bool false, .int .i64 0, .int .i64 0, .int .i64 0, .int .u32 0, .bool false, .slice none 0 0, .int .u32 0]) zeroValue48 rfl ?_
 intro B6 w6 hB6 hU6 hzz6 hb6
 have hzw6 := hU6.size
 replace hs := hs.upd0 hU6
 replace HU := HU.trans0 hU6
 replace hb1 := hb1.upd0 hU6
 replace hb3 := hb3.upd0 hU6
 refine Wl_storea (off := 0) (vs := [.int .i64 ((p : Nat) : Int), .int .i64 0, .bool false, .int .i64 0, .int .i64 ((ghead bs p).1.1), .int .i64 ((ghead bs p).1.2.1), .int .u32 ((ghead bs p).1.2.2.1), .bool (decide ((ghead bs p).1.2.2.2 = true)), .slice none 0 0, .int .u32 0]) (cs' := [.int .i64 ((p : Nat) : Int), .int .i64 0, .bool false, .int .i64 0, .int .i64 ((ghead bs p).1.1), .int .i64 ((ghead bs p).1.2.1), .int .u32 ((ghead bs p).1.2.2.1), .bool (decide ((ghead bs p).1.2.2.2 = true)), .slice none 0 0, .int .u32 0]) sizeOf48 rfl rfl rfl (by simp only [List.mem_cons, List.not_mem_nil, or_false, forall_eq_or_imp, forall_eq]; exact ⟨rfl, rfl, rfl, rfl, rfl, rfl, rfl, rfl, rfl, rfl⟩) hb6 (by simp) rfl ?_
 intro w7 hU7 hzz7 hb6n
 replace hb6 := hb6n; clear hb6n
 have hzw7 := hU7.size
 replace hs := hs.upd1 hU7 (show ¬ (B6 < w.heap.size) by omega)
 replace HU := HU.t1 hU7 (by omega)
 replace hb1 := hb1.upd1 hU7 (by omega)
 replace hb3 := hb3.upd1 hU7 (by omega)
 refine Wl_nil (W_seq (W_region ?_))
 refine Was (.bool false) ?_
 refine Wl_nil (W_seq (W_block ?_))
 refine W_loop (fun mu ρ ds w' => ∃ (q : Nat) (acc : List BK) (a1 : Option Addr) (m1 : Nat) (c1 : Nat) (lb : Bool), n - q = mu ∧ ds = [] ∧ Liv ρ [(0, .slice a n c), (1, .int .i64 ((p : Nat) : Int)), (4, .pointer (some ⟨B1, 0, none⟩)), (7, .pointer (some ⟨B3, 0, none⟩)), (8, .int .i64 ((q : Nat) : Int)), (10, .pointer (some ⟨B6, 0, none⟩)), (11, .bool (decide (lb = true)))] ∧ q ≤ n ∧ acc.length * 3 ≤ q ∧ (lb = true → gb bs (ghead bs p).2.1 = (acc, q, 0)) ∧ (¬ lb = true → gb bs (ghead bs p).2.1 = (acc ++ (gb bs q).1, (gb bs q).2)) ∧ Blk w' B6 [.int .i64 ((p : Nat) : Int), .int .i64 0, .bool false, .int .i64 0, .int .i64 ((ghead bs p).1.1), .int .i64 ((ghead bs p).1.2.1), .int .u32 ((ghead bs p).1.2.2.1), .bool (decide ((ghead bs p).1.2.2.2 = true)), .slice a1 m1 c1, .int .u32 0] ∧ Own w' (fun g => w7.heap.size ≤ g) 53 5 (.slice a1 m1 c1) m1 (rows encK acc) ∧ Upd (fun g => g = B6 ∨ w7.heap.size ≤ g) w7 w') _ ⟨(ghead bs p).2.1, [], none, 0, 0, false, rfl, rfl, ⟨rfl, rfl, rfl, rfl, (by first | rfl | exact vint (by omega) | exact vint (by simp)), rfl, (by first | rfl | exact vint (by omega) | exact vint (by simp)), trivial⟩, (by omega), (by simp), (fun h => by cases h), (fun _ => by simp), hb6, (by exact Own.nil _ _ _ _), Upd.refl _ _⟩ ?_
 rintro m8 ρ8 ds8 w8 ⟨q, acc, a1, m1, c1, lb, rfl, rfl, hl8, hqn, hac, hga, hgb, hb6, hO, hU8⟩
 obtain ⟨ρ8x, rfl⟩ : ∃ ρx, ρ8 = upds ρx [(0, .slice a n c), (1, .int .i64 ((p : Nat) : Int)), (4, .pointer (some ⟨B1, 0, none⟩)), (7, .pointer (some ⟨B3, 0, none⟩)), (8, .int .i64 ((q : Nat) : Int)), (10, .pointer (some ⟨B6, 0, none⟩)), (11, .bool (decide (lb = true)))] := ⟨_, upds_self hl8⟩
 clear hl8
 have hzw8 := hU8.size
 replace hs := hs.upd hU8 (by intro x h1 h2; have h3 : x < w.heap.size := h1; have h4 : x = B6 ∨ w7.heap.size ≤ x := h2; omega)
 replace HU := HU.trans hU8 (by intro x hx; have hx2 : x = B6 ∨ w7.heap.size ≤ x := hx; show (False) ∨ w.heap.size ≤ x; omega)
 replace hb1 := hb1.upd hU8 (by intro hx; have hx2 : B1 = B6 ∨ w7.heap.size ≤ B1 := hx; omega)
 replace hb3 := hb3.upd hU8 (by intro hx; have hx2 : B3 = B6 ∨ w7.heap.size ≤ B3 := hx; omega)
 replace hO := hO.tight
 have hl_hO := rlen encK_len (by decide) hO.sl
 have hc_hO := hO.sl.cap.1
 have HL8 := hU8
 refine W_seq (W_seq (W_region ?_))
 refine Wmv (.bool (decide (lb = true))) ?_
 refine Wl_v (r_not rfl) ?_
 refine Wl_nil ?_
 by_cases q2 : lb = true
 ·have hgl := hga q2
  rw [decide_eq_true q2]
  simp only [Bool.not_true, Bool.not_false]
  refine W_cond_f rfl ?_
  refine W_exit ?_
  refine W_seq (W_seq (W_region ?_))
  refine Wl_v (r_fld underlying41 rfl sizeOf4 rfl rfl) ?_
  refine Wl_load (v := .bool (decide ((ghead bs p).1.2.2.2 = true))) isAgg4 rfl hb3 rfl ?_
  refine Wl_nil ?_
  by_cases q3 : (ghead bs p).1.2.2.2 = true
  ·rw [decide_eq_true q3]
   refine W_cond_t rfl ?_
   refine W_seq (W_region ?_)
   refine Wmv (.slice a n c) ?_
   refine Wmv (.int .i64 ((q : Nat) : Int)) ?_
   refine Wl_call (r_call2 rfl call39 rfl rfl) (rgetword_spec _ hs.any hb (by omega) (by omega)) ?_
   rintro v w9 ⟨rfl, hU9⟩
   have hzw9 := hU9.size
   replace HU := HU.trans0 hU9
   replace hb1 := hb1.upd0 hU9
   replace hb6 := hb6.upd0 hU9
   replace hO := hO.upd0 hU9
   refine Wmv (.tuple #[.int .u32 ((gword bs q).1), .int .i64 (((gword bs q).2.1 : Nat) : Int), .int .i64 ((gword bs q).2.2)]) ?_
   refine Wl_v (r_ext (v := .int .u32 ((gword bs q).1)) rfl rfl) ?_
   refine Wl_v (r_ext (v := .int .i64 (((gword bs q).2.1 : Nat) : Int)) rfl rfl) ?_
   refine Wl_v (r_ext (v := .int .i64 ((gword bs q).2.2)) rfl rfl) ?_
   refine Was (.int .u32 ((gword bs q).1)) ?_
   refine Was (.int .i64 (((gword bs q).2.1 : Nat) : Int)) ?_
   refine Was (.int .i64 ((gword bs q).2.2)) ?_
   refine Wl_nil (W_seq (W_seq (W_region ?_)))
   refine Wmv (.int .i64 ((gword bs q).2.2)) ?_
   refine Wl_v (r_ne rfl rfl) ?_
   refine Wl_nil ?_
   by_cases q4 : ((gword bs q).2.2) ≠ 0
   ·rw [decide_eq_true q4]
    refine W_cond_t rfl ?_
    refine W_seq (W_region ?_)
    refine Wl_v (r_build (pl := #[(0, 1), (1, 1), (2, 1), (3, 1), (4, 4), (8, 1), (9, 1)]) (pv := []) (cs := #[.int .i64 0, .int .i64 0, .bool false, .int .i64 0, .int .i64 0, .int .i64 0, .int .u32 0, .bool false, .slice none 0 0, .int .u32 0]) zeroValue48 underlying48 (fun w => by kernel_rfl) (by simp only [List.map_toArray, List.map_cons, List.map_nil] <;> rfl) (by kernel_rfl)) ?_
    refine Wmv (.int .i64 ((p : Nat) : Int)) ?_
    refine Wmv (.int .i64 ((gword bs q).2.2)) ?_
    refine Wl_storea (off := 0) (vs := [.int .i64 0, .int .i64 0, .bool false, .int .i64 0, .int .i64 0, .int .i64 0, .int .u32 0, .bool false, .slice none 0 0, .int .u32 0]) (cs' := [.int .i64 0, .int .i64 0, .bool false, .int .i64 0, .int .i64 0, .int .i64 0, .int .u32 0, .bool false, .slice none 0 0, .int .u32 0]) sizeOf48 rfl rfl rfl (by simp only [List.mem_cons, List.not_mem_nil, or_false, forall_eq_or_imp, forall_eq]; exact ⟨rfl, rfl, rfl, rfl, rfl, rfl, rfl, rfl, rfl, rfl⟩) hb1 (by simp) rfl ?_
    intro w10 hU10 hzz10 hb1n
    replace hb1 := hb1n; clear hb1n
    have hzw10 := hU10.size
    replace HU := HU.t1 hU10 (by omega)
    refine Was (.int .i64 ((p : Nat) : Int)) ?_
    refine Was (.int .i64 ((gword bs q).2.2)) ?_
    refine Wl_nil ?_
    refine W_ret ?_
    refine ret_end (v := .tuple #[.agg #[.int .i64 0, .int .i64 0, .bool false, .int .i64 0, .int .i64 0, .int .i64 0, .int .u32 0, .bool false, .slice none 0 0, .int .u32 0], .int .i64 ((p : Nat) : Int), .int .i64 ((gword bs q).2.2)]) rfl (rm_ctt results27 rfl rfl rfl (cellAgg isAgg48 sizeOf48 rfl hb1)) ?_
    have HG := gp_word hm1.1 hm1.2 hge0 (by rw [hgl]) q3 (by rw [hgl]; exact q4)
    rw [hgl] at HG
    exact ⟨_, rfl, none, 0, 0, by rw [HG]; rfl, (by rw [HG]; exact Own.nil _ _ _ _), HU⟩
   have hgw0 : (gword bs q).2.2 = 0 := Classical.not_not.1 q4
   have hgi := gword_in (bs := bs) hgw0
   rw [decide_eq_false q4]
   refine W_cond_f rfl ?_
   refine W_skip (W_region ?_)
   refine Wmv (.int .u32 ((gword bs q).1)) ?_
   refine Wmv (.int .i64 (((gword bs q).2.1 : Nat) : Int)) ?_
   refine Wl_v (r_fld underlying48 rfl sizeOf39 rfl rfl) ?_
   refine Wl_store (v := .int .u32 ((gword bs q).1)) (cs' := [.int .i64 ((p : Nat) : Int), .int .i64 0, .bool false, .int .i64 0, .int .i64 ((ghead bs p).1.1), .int .i64 ((ghead bs p).1.2.1), .int .u32 ((ghead bs p).1.2.2.1), .bool (decide ((ghead bs p).1.2.2.2 = true)), .slice a1 m1 c1, .int .u32 ((gword bs q).1)]) sizeOf39 rfl rfl rfl rfl hb6 rfl rfl ?_
   intro w11 hU11 hzz11 hb6n
   replace hb6 := hb6n; clear hb6n
   have hzw11 := hU11.size
   replace HU := HU.t1 hU11 (by omega)
   replace hb1 := hb1.upd1 hU11 (by omega)
   replace hO := hO.upd1 hU11 (show ¬ (((w7.heap.size ≤ B6) ∧ B6 < w8.heap.size)) by omega)
   refine Was (.int .i64 (((gword bs q).2.1 : Nat) : Int)) ?_
   refine Wl_nil (W_seq (W_region ?_))
   refine Wmv (.int .i64 (((gword bs q).2.1 : Nat) : Int)) ?_
   refine Wmv (.int .i64 ((p : Nat) : Int)) ?_
   refine Wl_v (r_sub rfl rfl (wi64 (by omega) (by omega))) ?_
   refine Wl_v (r_fld underlying48 rfl sizeOf3 rfl rfl) ?_
   refine Wl_store (v := .int .i64 ((((gword bs q).2.1 : Nat) : Int) - ((p : Nat) : Int))) (cs' := [.int .i64 ((p : Nat) : Int), .int .i64 ((((gword bs q).2.1 : Nat) : Int) - ((p : Nat) : Int)), .bool false, .int .i64 0, .int .i64 ((ghead bs p).1.1), .int .i64 ((ghead bs p).1.2.1), .int .u32 ((ghead bs p).1.2.2.1), .bool (decide ((ghead bs p).1.2.2.2 = true)), .slice a1 m1 c1, .int .u32 ((gword bs q).1)]) sizeOf3 rfl rfl rfl rfl hb6 rfl rfl ?_
   intro w12 hU12 hzz12 hb6n
   replace hb6 := hb6n; clear hb6n
   have hzw12 := hU12.size
   replace HU := HU.t1 hU12 (by omega)
   replace hb1 := hb1.upd1 hU12 (by omega)
   replace hO := hO.upd1 hU12 (show ¬ (((w7.heap.size ≤ B6) ∧ B6 < w8.heap.size)) by omega)
   refine Wl_nil (W_seq (W_region ?_))
   refine Wl_v (r_loada (b := B6) (off := 0) (cs := [.int .i64 ((p : Nat) : Int), .int .i64 ((((gword bs q).2.1 : Nat) : Int) - ((p : Nat) : Int)), .bool false, .int .i64 0, .int .i64 ((ghead bs p).1.1), .int .i64 ((ghead bs p).1.2.1), .int .u32 ((ghead bs p).1.2.2.1), .bool (decide ((ghead bs p).1.2.2.2 = true)), .slice a1 m1 c1, .int .u32 ((gword bs q).1)]) isAgg48 sizeOf48 rfl rfl (fun j hj => by rw [hb6.cell]; match j, hj with | 0, _ => rfl | 1, _ => rfl | 2, _ => rfl | 3, _ => rfl | 4, _ => rfl | 5, _ => rfl | 6, _ => rfl | 7, _ => rfl | 8, _ => rfl | 9, _ => rfl)) ?_
   refine Wmv (.int .i64 (((gword bs q).2.1 : Nat) : Int)) ?_
   refine Wl_storea (off := 0) (vs := [.int .i64 ((p : Nat) : Int), .int .i64 ((((gword bs q).2.1 : Nat) : Int) - ((p : Nat) : Int)), .bool false, .int .i64 0, .int .i64 ((ghead bs p).1.1), .int .i64 ((ghead bs p).1.2.1), .int .u32 ((ghead bs p).1.2.2.1), .bool (decide ((ghead bs p).1.2.2.2 = true)), .slice a1 m1 c1, .int .u32 ((gword bs q).1)]) (cs' := [.int .i64 ((p : Nat) : Int), .int .i64 ((((gword bs q).2.1 : Nat) : Int) - ((p : Nat) : Int)), .bool false, .int .i64 0, .int .i64 ((ghead bs p).1.1), .int .i64 ((ghead bs p).1.2.1), .int .u32 ((ghead bs p).1.2.2.1), .bool (decide ((ghead bs p).1.2.2.2 = true)), .slice a1 m1 c1, .int .u32 ((gword bs q).1)]) sizeOf48 rfl rfl rfl (by simp only [List.mem_cons, List.not_mem_nil, or_false, forall_eq_or_imp, forall_eq]; exact ⟨rfl, rfl, rfl, rfl, rfl, rfl, rfl, rfl, rfl, rfl⟩) hb1 (by simp) rfl ?_
   intro w13 hU13 hzz13 hb1n
   replace hb1 := hb1n; clear hb1n
   have hzw13 := hU13.size
   replace HU := HU.t1 hU13 (by omega)
   replace hO := hO.upd1 hU13 (show ¬ (((w7.heap.size ≤ B1) ∧ B1 < w8.heap.size)) by omega)
   refine Was (.int .i64 (((gword bs q).2.1 : Nat) : Int)) ?_
   refine Was (.int .i64 0) ?_
   refine Wl_nil ?_
   refine W_ret ?_
   refine ret_end (v := .tuple #[.agg #[.int .i64 ((p : Nat) : Int), .int .i64 ((((gword bs q).2.1 : Nat) : Int) - ((p : Nat) : Int)), .bool false, .int .i64 0, .int .i64 ((ghead bs p).1.1), .int .i64 ((ghead bs p).1.2.1), .int .u32 ((ghead bs p).1.2.2.1), .bool (decide ((ghead bs p).1.2.2.2 = true)), .slice a1 m1 c1, .int .u32 ((gword bs q).1)], .int .i64 (((gword bs q).2.1 : Nat) : Int), .int .i64 0]) rfl (rm_ctt results27 rfl rfl rfl (cellAgg isAgg48 sizeOf48 rfl hb1)) ?_
   have HG := gp_sum hm1.1 hm1.2 hge0 (by rw [hgl]) q3 (by rw [hgl]; exact hgw0)
   rw [hgl] at HG
   exact ⟨_, rfl, _, _, _, by rw [HG]; first | rfl | exact vtup3 rfl (vint (by dsimp only; omega)) rfl, (by rw [HG]; exact hO.weak (by intro g hg; have h3 : ((w7.heap.size ≤ g) ∧ g < w8.heap.size) := hg; show w.heap.size ≤ g; omega)), HU⟩
  rw [decide_eq_false q3]
  refine W_cond_f rfl ?_
  refine W_skip (W_seq (W_region ?_))
  refine Wmv (.int .i64 ((q : Nat) : Int)) ?_
  refine Wmv (.int .i64 ((p : Nat) : Int)) ?_
  refine Wl_v (r_sub rfl rfl (wi64 (by omega) (by omega))) ?_
  refine Wl_v (r_fld underlying48 rfl sizeOf3 rfl rfl) ?_
  refine Wl_store (v := .int .i64 (((q : Nat) : Int) - ((p : Nat) : Int))) (cs' := [.int .i64 ((p : Nat) : Int), .int .i64 (((q : Nat) : Int) - ((p : Nat) : Int)), .bool false, .int .i64 0, .int .i64 ((ghead bs p).1.1), .int .i64 ((ghead bs p).1.2.1), .int .u32 ((ghead bs p).1.2.2.1), .bool (decide ((ghead bs p).1.2.2.2 = true)), .slice a1 m1 c1, .int .u32 0]) sizeOf3 rfl rfl rfl rfl hb6 rfl rfl ?_
  intro w14 hU14 hzz14 hb6n
  replace hb6 := hb6n; clear hb6n
  have hzw14 := hU14.size
  replace HU := HU.t1 hU14 (by omega)
  replace hb1 := hb1.upd1 hU14 (by omega)
  replace hO := hO.upd1 hU14 (show ¬ (((w7.heap.size ≤ B6) ∧ B6 < w8.heap.size)) by omega)
  refine Wl_nil (W_seq (W_region ?_))
  refine Wl_v (r_loada (b := B6) (off := 0) (cs := [.int .i64 ((p : Nat) : Int), .int .i64 (((q : Nat) : Int) - ((p : Nat) : Int)), .bool false, .int .i64 0, .int .i64 ((ghead bs p).1.1), .int .i64 ((ghead bs p).1.2.1), .int .u32 ((ghead bs p).1.2.2.1), .bool (decide ((ghead bs p).1.2.2.2 = true)), .slice a1 m1 c1, .int .u32 0]) isAgg48 sizeOf48 rfl rfl (fun j hj => by rw [hb6.cell]; match j, hj with | 0, _ => rfl | 1, _ => rfl | 2, _ => rfl | 3, _ => rfl | 4, _ => rfl | 5, _ => rfl | 6, _ => rfl | 7, _ => rfl | 8, _ => rfl | 9, _ => rfl)) ?_
  refine Wmv (.int .i64 ((q : Nat) : Int)) ?_
  refine Wl_storea (off := 0) (vs := [.int .i64 ((p : Nat) : Int), .int .i64 (((q : Nat) : Int) - ((p : Nat) : Int)), .bool false, .int .i64 0, .int .i64 ((ghead bs p).1.1), .int .i64 ((ghead bs p).1.2.1), .int .u32 ((ghead bs p).1.2.2.1), .bool (decide ((ghead bs p).1.2.2.2 = true)), .slice a1 m1 c1, .int .u32 0]) (cs' := [.int .i64 ((p : Nat) : Int), .int .i64 (((q : Nat) : Int) - ((p : Nat) : Int)), .bool false, .int .i64 0, .int .i64 ((ghead bs p).1.1), .int .i64 ((ghead bs p).1.2.1), .int .u32 ((ghead bs p).1.2.2.1), .bool (decide ((ghead bs p).1.2.2.2 = true)), .slice a1 m1 c1, .int .u32 0]) sizeOf48 rfl rfl rfl (by simp only [List.mem_cons, List.not_mem_nil, or_false, forall_eq_or_imp, forall_eq]; exact ⟨rfl, rfl, rfl, rfl, rfl, rfl, rfl, rfl, rfl, rfl⟩) hb1 (by simp) rfl ?_
  intro w15 hU15 hzz15 hb1n
  replace hb1 := hb1n; clear hb1n
  have hzw15 := hU15.size
  replace HU := HU.t1 hU15 (by omega)
  replace hO := hO.upd1 hU15 (show ¬ (((w7.heap.size ≤ B1) ∧ B1 < w8.heap.size)) by omega)
  refine Was (.int .i64 ((q : Nat) : Int)) ?_
  refine Was (.int .i64 0) ?_
  refine Wl_nil ?_
  refine W_ret ?_
  refine ret_end (v := .tuple #[.agg #[.int .i64 ((p : Nat) : Int), .int .i64 (((q : Nat) : Int) - ((p : Nat) : Int)), .bool false, .int .i64 0, .int .i64 ((ghead bs p).1.1), .int .i64 ((ghead bs p).1.2.1), .int .u32 ((ghead bs p).1.2.2.1), .bool (decide ((ghead bs p).1.2.2.2 = true)), .slice a1 m1 c1, .int .u32 0], .int .i64 ((q : Nat) : Int), .int .i64 0]) rfl (rm_ctt results27 rfl rfl rfl (cellAgg isAgg48 sizeOf48 rfl hb1)) ?_
  have HG := gp_frame hm1.1 hm1.2 hge0 (by rw [hgl]) q3
  rw [hgl] at HG
  exact ⟨_, rfl, _, _, _, by rw [HG]; first | rfl | exact vtup3 rfl (vint (by dsimp only; omega)) rfl, (by rw [HG]; exact hO.weak (by intro g hg; have h3 : ((w7.heap.size ≤ g) ∧ g < w8.heap.size) := hg; show w.heap.size ≤ g; omega)), HU⟩
 have hlb := q2
 rw [decide_eq_false q2]
 simp only [Bool.not_true, Bool.not_false]
 refine W_cond_t rfl ?_
 refine W_skip (W_block (W_seq (W_region ?_)))
 refine Wmv (.slice a n c) ?_
 refine Wmv (.int .i64 ((q : Nat) : Int)) ?_
 by_cases q5 : n < q + 3
 ·refine Wl_call (r_call2 rfl call42 rfl rfl) (rkind_short (p := q) _ hs.any hb (by omega) (by omega) (by omega)) ?_
  rintro v w16 ⟨rfl, hU16⟩
  have hzw16 := hU16.size
  replace HU := HU.trans0 hU16
  replace hb1 := hb1.upd0 hU16
  refine Wmv (.tuple #[.int .i64 0, .int .i64 0, .bool false, .bool false]) ?_
  refine Wl_v (r_ext (v := .int .i64 0) rfl rfl) ?_
  refine Wl_v (r_ext (v := .int .i64 0) rfl rfl) ?_
  refine Wl_v (r_ext (v := .bool false) rfl rfl) ?_
  refine Wl_v (r_ext (v := .bool false) rfl rfl) ?_
  refine Was (.int .i64 0) ?_
  refine Was (.int .i64 0) ?_
  refine Was (.bool false) ?_
  refine Was (.bool false) ?_
  refine Wl_nil (W_seq (W_seq (W_region ?_)))
  refine Wmv (.bool false) ?_
  refine Wl_v (r_not (b := false) rfl) ?_
  refine Wl_nil ?_
  refine W_cond_t rfl ?_
  refine W_seq (W_region ?_)
  refine Wl_v (r_build (pl := #[(0, 1), (1, 1), (2, 1), (3, 1), (4, 4), (8, 1), (9, 1)]) (pv := []) (cs := #[.int .i64 0, .int .i64 0, .bool false, .int .i64 0, .int .i64 0, .int .i64 0, .int .u32 0, .bool false, .slice none 0 0, .int .u32 0]) zeroValue48 underlying48 (fun w => by kernel_rfl) (by simp only [List.map_toArray, List.map_cons, List.map_nil] <;> rfl) (by kernel_rfl)) ?_
  refine Wmv (.int .i64 ((p : Nat) : Int)) ?_
  refine Wl_storea (off := 0) (vs := [.int .i64 0, .int .i64 0, .bool false, .int .i64 0, .int .i64 0, .int .i64 0, .int .u32 0, .bool false, .slice none 0 0, .int .u32 0]) (cs' := [.int .i64 0, .int .i64 0, .bool false, .int .i64 0, .int .i64 0, .int .i64 0, .int .u32 0, .bool false, .slice none 0 0, .int .u32 0]) sizeOf48 rfl rfl rfl (by simp only [List.mem_cons, List.not_mem_nil, or_false, forall_eq_or_imp, forall_eq]; exact ⟨rfl, rfl, rfl, rfl, rfl, rfl, rfl, rfl, rfl, rfl⟩) hb1 (by simp) rfl ?_
  intro w17 hU17 hzz17 hb1n
  replace hb1 := hb1n; clear hb1n
  have hzw17 := hU17.size
  replace HU := HU.t1 hU17 (by omega)
  refine Was (.int .i64 ((p : Nat) : Int)) ?_
  refine Was (.int .i64 3) ?_
  refine Wl_nil ?_
  refine W_ret ?_
  refine ret_end (v := .tuple #[.agg #[.int .i64 0, .int .i64 0, .bool false, .int .i64 0, .int .i64 0, .int .i64 0, .int .u32 0, .bool false, .slice none 0 0, .int .u32 0], .int .i64 ((p : Nat) : Int), .int .i64 3]) rfl (rm_ctt results27 rfl rfl rfl (cellAgg isAgg48 sizeOf48 rfl hb1)) ?_
  have hbe : berr bs q = 3 := berr_short (by omega)
  have hgv : (gb bs (ghead bs p).2.1).2.2 = 3 := by rw [hgb hlb, gb_err (by rw [hbe]; decide)]; exact hbe
  have HG := gp_blk hm1.1 hm1.2 hge0 (by rw [hgv]; decide)
  rw [hgv] at HG
  exact ⟨_, rfl, none, 0, 0, by rw [HG]; rfl, (by rw [HG]; exact Own.nil _ _ _ _), HU⟩
 refine Wl_call (r_call2 rfl call42 rfl rfl) (rkind_ok (p := q) _ hs.any hb (by omega) (by omega) (by omega)) ?_
 rintro v w18 ⟨rfl, hU18⟩
 have hzw18 := hU18.size
 replace HU := HU.trans0 hU18
 replace hb1 := hb1.upd0 hU18
 replace hb6 := hb6.upd0 hU18
 replace hO := hO.upd0 hU18
 replace HL8 := HL8.trans0 hU18
 have hkb := bk_bd hb q
 have hsb := bst_bd hb q
 refine Wmv (.tuple #[.int .i64 (bkd bs q), .int .i64 (bsz bs q), .bool (decide (bla bs q = true)), .bool true]) ?_
 refine Wl_v (r_ext (v := .int .i64 (bkd bs q)) rfl rfl) ?_
 refine Wl_v (r_ext (v := .int .i64 (bsz bs q)) rfl rfl) ?_
 refine Wl_v (r_ext (v := .bool (decide (bla bs q = true))) rfl rfl) ?_
 refine Wl_v (r_ext (v := .bool true) rfl rfl) ?_
 refine Was (.int .i64 (bkd bs q)) ?_
 refine Was (.int .i64 (bsz bs q)) ?_
 refine Was (.bool (decide (bla bs q = true))) ?_
 refine Was (.bool true) ?_
 refine Wl_nil (W_seq (W_seq (W_region ?_)))
 refine Wmv (.bool true) ?_
 refine Wl_v (r_not (b := true) rfl) ?_
 refine Wl_nil ?_
 refine W_cond_f rfl ?_
 refine W_skip (W_seq (W_seq (W_region ?_)))
 refine Wmv (.int .i64 (bkd bs q)) ?_
 refine Wl_v (r_eq rfl rfl) ?_
 refine Wl_nil ?_
 by_cases q6 : (bkd bs q) = 3
 ·rw [decide_eq_true q6]
  refine W_cond_t rfl ?_
  refine W_seq (W_region ?_)
  refine Wl_v (r_build (pl := #[(0, 1), (1, 1), (2, 1), (3, 1), (4, 4), (8, 1), (9, 1)]) (pv := []) (cs := #[.int .i64 0, .int .i64 0, .bool false, .int .i64 0, .int .i64 0, .int .i64 0, .int .u32 0, .bool false, .slice none 0 0, .int .u32 0]) zeroValue48 underlying48 (fun w => by kernel_rfl) (by simp only [List.map_toArray, List.map_cons, List.map_nil] <;> rfl) (by kernel_rfl)) ?_
  refine Wmv (.int .i64 ((p : Nat) : Int)) ?_
  refine Wl_storea (off := 0) (vs := [.int .i64 0, .int .i64 0, .bool false, .int .i64 0, .int .i64 0, .int .i64 0, .int .u32 0, .bool false, .slice none 0 0, .int .u32 0]) (cs' := [.int .i64 0, .int .i64 0, .bool false, .int .i64 0, .int .i64 0, .int .i64 0, .int .u32 0, .bool false, .slice none 0 0, .int .u32 0]) sizeOf48 rfl rfl rfl (by simp only [List.mem_cons, List.not_mem_nil, or_false, forall_eq_or_imp, forall_eq]; exact ⟨rfl, rfl, rfl, rfl, rfl, rfl, rfl, rfl, rfl, rfl⟩) hb1 (by simp) rfl ?_
  intro w19 hU19 hzz19 hb1n
  replace hb1 := hb1n; clear hb1n
  have hzw19 := hU19.size
  replace HU := HU.t1 hU19 (by omega)
  refine Was (.int .i64 ((p : Nat) : Int)) ?_
  refine Was (.int .i64 10) ?_
  refine Wl_nil ?_
  refine W_ret ?_
  refine ret_end (v := .tuple #[.agg #[.int .i64 0, .int .i64 0, .bool false, .int .i64 0, .int .i64 0, .int .i64 0, .int .u32 0, .bool false, .slice none 0 0, .int .u32 0], .int .i64 ((p : Nat) : Int), .int .i64 10]) rfl (rm_ctt results27 rfl rfl rfl (cellAgg isAgg48 sizeOf48 rfl hb1)) ?_
  have hbe : berr bs q = 10 := berr_none (by omega) q6
  have hgv : (gb bs (ghead bs p).2.1).2.2 = 10 := by rw [hgb hlb, gb_err (by rw [hbe]; decide)]; exact hbe
  have HG := gp_blk hm1.1 hm1.2 hge0 (by rw [hgv]; decide)
  rw [hgv] at HG
  exact ⟨_, rfl, none, 0, 0, by rw [HG]; rfl, (by rw [HG]; exact Own.nil _ _ _ _), HU⟩
 rw [decide_eq_false q6]
 refine W_cond_f rfl ?_
 refine W_skip (W_seq (W_region ?_))
 refine Wmv (.int .i64 (bsz bs q)) ?_
 refine Was (.int .i64 (bsz bs q)) ?_
 refine Wl_nil (W_seq (W_seq (W_region ?_)))
 refine Wmv (.int .i64 (bkd bs q)) ?_
 refine Wl_v (r_eq rfl rfl) ?_
 refine Wl_nil ?_
 by_cases q7 : (bkd bs q) = 1
 ·have hst : bst bs q = 1 := if_pos q7
  rw [decide_eq_true q7]
  refine W_cond_t rfl ?_
  refine W_region ?_
  refine Was (.int .i64 1) ?_
  refine Wl_nil (W_seq (W_seq (W_region ?_)))
  refine Wmv (.int .i64 1) ?_
  refine Wmv (.slice a n c) ?_
  refine Wl_v (r_len underlying22 rfl) ?_
  refine Wmv (.int .i64 ((q : Nat) : Int)) ?_
  refine Wl_v (r_sub rfl rfl (wi64 (by omega) (by omega))) ?_
  refine Wl_v (r_sub rfl rfl (wi64 (by omega) (by omega))) ?_
  refine Wl_v (r_gt rfl rfl) ?_
  refine Wl_nil ?_
  by_cases q8 : ((((n : Nat) : Int) - ((q : Nat) : Int)) - 3) < 1
  ·rw [decide_eq_true q8]
   refine W_cond_t rfl ?_
   refine W_seq (W_region ?_)
   refine Wl_v (r_build (pl := #[(0, 1), (1, 1), (2, 1), (3, 1), (4, 4), (8, 1), (9, 1)]) (pv := []) (cs := #[.int .i64 0, .int .i64 0, .bool false, .int .i64 0, .int .i64 0, .int .i64 0, .int .u32 0, .bool false, .slice none 0 0, .int .u32 0]) zeroValue48 underlying48 (fun w => by kernel_rfl) (by simp only [List.map_toArray, List.map_cons, List.map_nil] <;> rfl) (by kernel_rfl)) ?_
   refine Wmv (.int .i64 ((p : Nat) : Int)) ?_
   refine Wl_storea (off := 0) (vs := [.int .i64 0, .int .i64 0, .bool false, .int .i64 0, .int .i64 0, .int .i64 0, .int .u32 0, .bool false, .slice none 0 0, .int .u32 0]) (cs' := [.int .i64 0, .int .i64 0, .bool false, .int .i64 0, .int .i64 0, .int .i64 0, .int .u32 0, .bool false, .slice none 0 0, .int .u32 0]) sizeOf48 rfl rfl rfl (by simp only [List.mem_cons, List.not_mem_nil, or_false, forall_eq_or_imp, forall_eq]; exact ⟨rfl, rfl, rfl, rfl, rfl, rfl, rfl, rfl, rfl, rfl⟩) hb1 (by simp) rfl ?_
   intro w20 hU20 hzz20 hb1n
   replace hb1 := hb1n; clear hb1n
   have hzw20 := hU20.size
   replace HU := HU.t1 hU20 (by omega)
   refine Was (.int .i64 ((p : Nat) : Int)) ?_
   refine Was (.int .i64 3) ?_
   refine Wl_nil ?_
   refine W_ret ?_
   refine ret_end (v := .tuple #[.agg #[.int .i64 0, .int .i64 0, .bool false, .int .i64 0, .int .i64 0, .int .i64 0, .int .u32 0, .bool false, .slice none 0 0, .int .u32 0], .int .i64 ((p : Nat) : Int), .int .i64 3]) rfl (rm_ctt results27 rfl rfl rfl (cellAgg isAgg48 sizeOf48 rfl hb1)) ?_
   have hbe : berr bs q = 3 := berr_long (by omega) q6 (by unfold bst; first | (rw [if_pos (by assumption)]; omega) | (rw [if_neg (by assumption)]; omega))
   have hgv : (gb bs (ghead bs p).2.1).2.2 = 3 := by rw [hgb hlb, gb_err (by rw [hbe]; decide)]; exact hbe
   have HG := gp_blk hm1.1 hm1.2 hge0 (by rw [hgv]; decide)
   rw [hgv] at HG
   exact ⟨_, rfl, none, 0, 0, by rw [HG]; rfl, (by rw [HG]; exact Own.nil _ _ _ _), HU⟩
  rw [decide_eq_false q8]
  refine W_cond_f rfl ?_
  refine W_skip (W_seq (W_region ?_))
  refine Wl_v (r_fld underlying48 rfl sizeOf46 rfl rfl) ?_
  refine Wl_load (v := .slice a1 m1 c1) isAgg46 rfl hb6 rfl ?_
  refine Wmv (.int .i64 ((q : Nat) : Int)) ?_
  refine Wmv (.int .i64 (bkd bs q)) ?_
  refine Wmv (.int .i64 (bsz bs q)) ?_
  refine Wmv (.int .i64 1) ?_
  refine Wmv (.bool (decide (bla bs q = true))) ?_
  refine Wl_v (r_build (pl := #[(0, 1), (1, 1), (2, 1), (3, 1), (4, 1)]) (pv := [(0, .int .i64 ((q : Nat) : Int)), (1, .int .i64 (bkd bs q)), (2, .int .i64 (bsz bs q)), (3, .int .i64 1), (4, .bool (decide (bla bs q = true)))]) (cs := #[.int .i64 ((q : Nat) : Int), .int .i64 (bkd bs q), .int .i64 (bsz bs q), .int .i64 1, .bool (decide (bla bs q = true))]) zeroValue53 underlying53 (fun w => by kernel_rfl) (by simp only [List.map_toArray, List.map_cons, List.map_nil] <;> rfl) (by kernel_rfl)) ?_
  refine Wl_lit (pv := [(0, .agg #[.int .i64 ((q : Nat) : Int), .int .i64 (bkd bs q), .int .i64 (bsz bs q), .int .i64 1, .bool (decide (bla bs q = true))])]) (cs := [.int .i64 ((q : Nat) : Int), .int .i64 (bkd bs q), .int .i64 (bsz bs q), .int .i64 1, .bool (decide (bla bs q = true))]) underlying46 sizeOf53 zeroValue53 (by decide) (by decide) (by simp only [List.map_toArray, List.map_cons, List.map_nil] <;> rfl) (by kernel_rfl) rfl (by decide) ?_
  intro B21 w21 hB21 hU21 hzz21 hs21
  have hzw21 := hU21.size
  replace hb6 := hb6.upd0 hU21
  replace hO := hO.upd0 hU21
  replace HL8 := HL8.trans0 hU21
  replace hs21 : Own w21 (Is B21) 53 5 (.slice (some ⟨B21, 0, none⟩) 1 1) 1 (rows encK [(((q : Nat) : Int), bkd bs q, bsz bs q, 1, bla bs q)]) := hs21
  refine Wl_appendc (cs3 := rows encK (acc ++ [(((q : Nat) : Int), bkd bs q, bsz bs q, 1, bla bs q)])) (tot := m1 + 1) (by first | rfl | exact (rows_app _ _).symm | simp) underlying46 (ti := Tryd.t53) (z := .agg #[.int .i64 0, .int .i64 0, .int .i64 0, .int .i64 0, .bool false]) (sz := 5) (by' := 40) rfl rfl rfl rfl rfl (by decide) rfl hO rfl hs21.sl (rows_one encK_one _) (by omega) (by simp only [maxLen]; omega) (by omega) ?_
  intro a22 c22 w22 hU22 hzz22 hO22
  clear hO
  have hzw22 := hU22.size
  replace hb6 := hb6.upd hU22 (by intro hx; have hx2 : ((w7.heap.size ≤ B6) ∧ B6 < w8.heap.size) := hx; omega)
  replace HL8 := HL8.trans hU22 (by intro x hx; have hx2 : ((w7.heap.size ≤ x) ∧ x < w8.heap.size) := hx; show (x = B6 ∨ w7.heap.size ≤ x) ∨ w7.heap.size ≤ x; omega)
  replace hO22 := hO22.tight
  have hl_hO22 := rlen encK_len (by decide) hO22.sl
  have hc_hO22 := hO22.sl.cap.1
  refine Wl_v (r_fld underlying48 rfl sizeOf46 rfl rfl) ?_
  refine Wl_store (v := .slice a22 (m1 + 1) c22) (cs' := [.int .i64 ((p : Nat) : Int), .int .i64 0, .bool false, .int .i64 0, .int .i64 ((ghead bs p).1.1), .int .i64 ((ghead bs p).1.2.1), .int .u32 ((ghead bs p).1.2.2.1), .bool (decide ((ghead bs p).1.2.2.2 = true)), .slice a22 (m1 + 1) c22, .int .u32 0]) sizeOf46 rfl rfl rfl rfl hb6 rfl rfl ?_
  intro w23 hU23 hzz23 hb6n
  replace hb6 := hb6n; clear hb6n
  have hzw23 := hU23.size
  replace HL8 := HL8.trans1 hU23 (by show (B6 = B6 ∨ w7.heap.size ≤ B6) ∨ w7.heap.size ≤ B6; omega)
  replace hO22 := hO22.upd1 hU23 (by intro h1; have h3 : ((((((w7.heap.size ≤ B6) ∧ B6 < w8.heap.size)) ∨ B6 = w21.heap.size)) ∧ B6 < w22.heap.size) := h1; omega)
  refine Wl_nil (W_seq (W_region ?_))
  refine Wmv (.int .i64 ((q : Nat) : Int)) ?_
  refine Wl_v (r_add rfl rfl (wi64 (by omega) (by omega))) ?_
  refine Wmv (.int .i64 1) ?_
  refine Wl_v (r_add rfl rfl (wi64 (by omega) (by omega))) ?_
  refine Was (.int .i64 ((((q : Nat) : Int) + 3) + 1)) ?_
  refine Wl_nil (W_region ?_)
  refine Wmv (.bool (decide (bla bs q = true))) ?_
  refine Was (.bool (decide (bla bs q = true))) ?_
  refine Wl_nil ?_
  have hbo : berr bs q = 0 := berr_ok (by omega) q6 (by omega)
  have hbx := bnx_le hbo
  have hnx : q + 3 + (bst bs q).toNat = bnx bs q := rfl
  have hgm := gb_more hbo
  have hgt := gb_last hbo
  have hbk : bk bs q = (((q : Nat) : Int), bkd bs q, bsz bs q, 1, bla bs q) := by unfold bk; rw [hst]
  refine ⟨_, ?_, (bnx bs q), (acc ++ [(((q : Nat) : Int), bkd bs q, bsz bs q, 1, bla bs q)]), a22, (m1 + 1), c22, (bla bs q), rfl, rfl, ⟨rfl, rfl, rfl, rfl, (Eq.trans (b := .int .i64 ((((q : Nat) : Int) + 3) + 1)) rfl (vint (by rw [← hnx]; omega))), rfl, (by first | rfl | exact vint (by omega) | exact vint (by simp)), trivial⟩, (by omega), (by simp; omega), (fun hl => by rw [hgb hlb, hgt hl, hbk]), (fun hl => by rw [hgb hlb, hgm hl, hbk]; simp), hb6, (hO22.weak (by intro g hg; have h3 : ((((((w7.heap.size ≤ g) ∧ g < w8.heap.size)) ∨ g = w21.heap.size)) ∧ g < w22.heap.size) := hg; show w7.heap.size ≤ g; omega)), HL8⟩
  omega
 have hst : bst bs q = bsz bs q := if_neg q7
 rw [decide_eq_false q7]
 refine W_cond_f rfl ?_
 refine W_skip (W_seq (W_seq (W_region ?_)))
 refine Wmv (.int .i64 (bsz bs q)) ?_
 refine Wmv (.slice a n c) ?_
 refine Wl_v (r_len underlying22 rfl) ?_
 refine Wmv (.int .i64 ((q : Nat) : Int)) ?_
 refine Wl_v (r_sub rfl rfl (wi64 (by omega) (by omega))) ?_
 refine Wl_v (r_sub rfl rfl (wi64 (by omega) (by omega))) ?_
 refine Wl_v (r_gt rfl rfl) ?_
 refine Wl_nil ?_
 by_cases q9 : ((((n : Nat) : Int) - ((q : Nat) : Int)) - 3) < (bsz bs q)
 ·rw [decide_eq_true q9]
  refine W_cond_t rfl ?_
  refine W_seq (W_region ?_)
  refine Wl_v (r_build (pl := #[(0, 1), (1, 1), (2, 1), (3, 1), (4, 4), (8, 1), (9, 1)]) (pv := []) (cs := #[.int .i64 0, .int .i64 0, .bool false, .int .i64 0, .int .i64 0, .int .i64 0, .int .u32 0, .bool false, .slice none 0 0, .int .u32 0]) zeroValue48 underlying48 (fun w => by kernel_rfl) (by simp only [List.map_toArray, List.map_cons, List.map_nil] <;> rfl) (by kernel_rfl)) ?_
  refine Wmv (.int .i64 ((p : Nat) : Int)) ?_
  refine Wl_storea (off := 0) (vs := [.int .i64 0, .int .i64 0, .bool false, .int .i64 0, .int .i64 0, .int .i64 0, .int .u32 0, .bool false, .slice none 0 0, .int .u32 0]) (cs' := [.int .i64 0, .int .i64 0, .bool false, .int .i64 0, .int .i64 0, .int .i64 0, .int .u32 0, .bool false, .slice none 0 0, .int .u32 0]) sizeOf48 rfl rfl rfl (by simp only [List.mem_cons, List.not_mem_nil, or_false, forall_eq_or_imp, forall_eq]; exact ⟨rfl, rfl, rfl, rfl, rfl, rfl, rfl, rfl, rfl, rfl⟩) hb1 (by simp) rfl ?_
  intro w24 hU24 hzz24 hb1n
  replace hb1 := hb1n; clear hb1n
  have hzw24 := hU24.size
  replace HU := HU.t1 hU24 (by omega)
  refine Was (.int .i64 ((p : Nat) : Int)) ?_
  refine Was (.int .i64 3) ?_
  refine Wl_nil ?_
  refine W_ret ?_
  refine ret_end (v := .tuple #[.agg #[.int .i64 0, .int .i64 0, .bool false, .int .i64 0, .int .i64 0, .int .i64 0, .int .u32 0, .bool false, .slice none 0 0, .int .u32 0], .int .i64 ((p : Nat) : Int), .int .i64 3]) rfl (rm_ctt results27 rfl rfl rfl (cellAgg isAgg48 sizeOf48 rfl hb1)) ?_
  have hbe : berr bs q = 3 := berr_long (by omega) q6 (by unfold bst; first | (rw [if_pos (by assumption)]; omega) | (rw [if_neg (by assumption)]; omega))
  have hgv : (gb bs (ghead bs p).2.1).2.2 = 3 := by rw [hgb hlb, gb_err (by rw [hbe]; decide)]; exact hbe
  have HG := gp_blk hm1.1 hm1.2 hge0 (by rw [hgv]; decide)
  rw [hgv] at HG
  exact ⟨_, rfl, none, 0, 0, by rw [HG]; rfl, (by rw [HG]; exact Own.nil _ _ _ _), HU⟩
 rw [decide_eq_false q9]
 refine W_cond_f rfl ?_
 refine W_skip (W_seq (W_region ?_))
 refine Wl_v (r_fld underlying48 rfl sizeOf46 rfl rfl) ?_
 refine Wl_load (v := .slice a1 m1 c1) isAgg46 rfl hb6 rfl ?_
 refine Wmv (.int .i64 ((q : Nat) : Int)) ?_
 refine Wmv (.int .i64 (bkd bs q)) ?_
 refine Wmv (.int .i64 (bsz bs q)) ?_
 refine Wmv (.int .i64 (bsz bs q)) ?_
 refine Wmv (.bool (decide (bla bs q = true))) ?_
 refine Wl_v (r_build (pl := #[(0, 1), (1, 1), (2, 1), (3, 1), (4, 1)]) (pv := [(0, .int .i64 ((q : Nat) : Int)), (1, .int .i64 (bkd bs q)), (2, .int .i64 (bsz bs q)), (3, .int .i64 (bsz bs q)), (4, .bool (decide (bla bs q = true)))]) (cs := #[.int .i64 ((q : Nat) : Int), .int .i64 (bkd bs q), .int .i64 (bsz bs q), .int .i64 (bsz bs q), .bool (decide (bla bs q = true))]) zeroValue53 underlying53 (fun w => by kernel_rfl) (by simp only [List.map_toArray, List.map_cons, List.map_nil] <;> rfl) (by kernel_rfl)) ?_
 refine Wl_lit (pv := [(0, .agg #[.int .i64 ((q : Nat) : Int), .int .i64 (bkd bs q), .int .i64 (bsz bs q), .int .i64 (bsz bs q), .bool (decide (bla bs q = true))])]) (cs := [.int .i64 ((q : Nat) : Int), .int .i64 (bkd bs q), .int .i64 (bsz bs q), .int .i64 (bsz bs q), .bool (decide (bla bs q = true))]) underlying46 sizeOf53 zeroValue53 (by decide) (by decide) (by simp only [List.map_toArray, List.map_cons, List.map_nil] <;> rfl) (by kernel_rfl) rfl (by decide) ?_
 intro B25 w25 hB25 hU25 hzz25 hs25
 have hzw25 := hU25.size
 replace hb6 := hb6.upd0 hU25
 replace hO := hO.upd0 hU25
 replace HL8 := HL8.trans0 hU25
 replace hs25 : Own w25 (Is B25) 53 5 (.slice (some ⟨B25, 0, none⟩) 1 1) 1 (rows encK [(((q : Nat) : Int), bkd bs q, bsz bs q, bsz bs q, bla bs q)]) := hs25
 refine Wl_appendc (cs3 := rows encK (acc ++ [(((q : Nat) : Int), bkd bs q, bsz bs q, bsz bs q, bla bs q)])) (tot := m1 + 1) (by first | rfl | exact (rows_app _ _).symm | simp) underlying46 (ti := Tryd.t53) (z := .agg #[.int .i64 0, .int .i64 0, .int .i64 0, .int .i64 0, .bool false]) (sz := 5) (by' := 40) rfl rfl rfl rfl rfl (by decide) rfl hO rfl hs25.sl (rows_one encK_one _) (by omega) (by simp only [maxLen]; omega) (by omega) ?_
 intro a26 c26 w26 hU26 hzz26 hO26
 clear hO
 have hzw26 := hU26.size
 replace hb6 := hb6.upd hU26 (by intro hx; have hx2 : ((w7.heap.size ≤ B6) ∧ B6 < w8.heap.size) := hx; omega)
 replace HL8 := HL8.trans hU26 (by intro x hx; have hx2 : ((w7.heap.size ≤ x) ∧ x < w8.heap.size) := hx; show (x = B6 ∨ w7.heap.size ≤ x) ∨ w7.heap.size ≤ x; omega)
 replace hO26 := hO26.tight
 have hl_hO26 := rlen encK_len (by decide) hO26.sl
 have hc_hO26 := hO26.sl.cap.1
 refine Wl_v (r_fld underlying48 rfl sizeOf46 rfl rfl) ?_
 refine Wl_store (v := .slice a26 (m1 + 1) c26) (cs' := [.int .i64 ((p : Nat) : Int), .int .i64 0, .bool false, .int .i64 0, .int .i64 ((ghead bs p).1.1), .int .i64 ((ghead bs p).1.2.1), .int .u32 ((ghead bs p).1.2.2.1), .bool (decide ((ghead bs p).1.2.2.2 = true)), .slice a26 (m1 + 1) c26, .int .u32 0]) sizeOf46 rfl rfl rfl rfl hb6 rfl rfl ?_
 intro w27 hU27 hzz27 hb6n
 replace hb6 := hb6n; clear hb6n
 have hzw27 := hU27.size
 replace HL8 := HL8.trans1 hU27 (by show (B6 = B6 ∨ w7.heap.size ≤ B6) ∨ w7.heap.size ≤ B6; omega)
 replace hO26 := hO26.upd1 hU27 (by intro h1; have h3 : ((((((w7.heap.size ≤ B6) ∧ B6 < w8.heap.size)) ∨ B6 = w25.heap.size)) ∧ B6 < w26.heap.size) := h1; omega)
 refine Wl_nil (W_seq (W_region ?_))
 refine Wmv (.int .i64 ((q : Nat) : Int)) ?_
 refine Wl_v (r_add rfl rfl (wi64 (by omega) (by omega))) ?_
 refine Wmv (.int .i64 (bsz bs q)) ?_
 refine Wl_v (r_add rfl rfl (wi64 (by omega) (by omega))) ?_
 refine Was (.int .i64 ((((q : Nat) : Int) + 3) + (bsz bs q))) ?_
 refine Wl_nil (W_region ?_)
 refine Wmv (.bool (decide (bla bs q = true))) ?_
 refine Was (.bool (decide (bla bs q = true))) ?_
 refine Wl_nil ?_
 have hbo : berr bs q = 0 := berr_ok (by omega) q6 (by omega)
 have hbx := bnx_le hbo
 have hnx : q + 3 + (bst bs q).toNat = bnx bs q := rfl
 have hgm := gb_more hbo
 have hgt := gb_last hbo
 have hbk : bk bs q = (((q : Nat) : Int), bkd bs q, bsz bs q, bsz bs q, bla bs q) := by unfold bk; rw [hst]
 refine ⟨_, ?_, (bnx bs q), (acc ++ [(((q : Nat) : Int), bkd bs q, bsz bs q, bsz bs q, bla bs q)]), a26, (m1 + 1), c26, (bla bs q), rfl, rfl, ⟨rfl, rfl, rfl, rfl, (Eq.trans (b := .int .i64 ((((q : Nat) : Int) + 3) + (bsz bs q))) rfl (vint (by rw [← hnx]; omega))), rfl, (by first | rfl | exact vint (by omega) | exact vint (by simp)), trivial⟩, (by omega), (by simp; omega), (fun hl => by rw [hgb hlb, hgt hl, hbk]), (fun hl => by rw [hgb hlb, hgm hl, hbk]; simp), hb6, (hO26.weak (by intro g hg; have h3 : ((((((w7.heap.size ≤ g) ∧ g < w8.heap.size)) ∨ g = w25.heap.size)) ∧ g < w26.heap.size) := hg; show w7.heap.size ≤ g; omega)), HL8⟩
 omega
set_option maxHeartbeats 4000000 in
theorem rread_spec {a : Option Addr} {n c : Nat} {bs : List Int} (w : World) (hs : Sl w (fun g => g < w.heap.size) 1 (.slice a n c) n (ints .u8 bs)) (hb : Byt bs) (hm : n ≤ 100000) :
  Calls Tryd.prog 12 #[.slice a n c] w (Ret fun v w' => ∃ (a' : Option Addr) (m' : Nat) (c' : Nat), v = .tuple #[.slice a' m' c', .int .i64 ((ga bs 0).2)] ∧ Pts w' w.heap.size w'.heap.size a' m' c' ((ga bs 0).1) ∧ Upd No w w') := by
 have HU := Upd.rno w
 have hl_hs := ilen hs
 have hc_hs := hs.cap.1
 refine calls_of_W func12 rfl ntmps12 (by simp) ?_
 refine W_seq (W_region ?_)
 refine Was (.slice none 0 0) ?_
 refine Was (.int .i64 0) ?_
 refine Wl_nil (W_seq (W_region ?_))
 refine Was (.slice none 0 0) ?_
 refine Wl_nil (W_seq (W_region ?_))
 refine Was (.int .i64 0) ?_
 refine Wl_nil (W_seq (W_block ?_))
 refine W_loop (fun mu ρ ds w' => ∃ (p : Nat) (vs : List PV) (a1 : Option Addr) (m1 : Nat) (c1 : Nat) (go : Nat), n - p = mu ∧ ds = [] ∧ Liv ρ [(0, .slice a n c), (4, .slice a1 m1 c1), (5, .int .i64 ((p : Nat) : Int))] ∧ p ≤ n ∧ vs.length ≤ p ∧ ga bs 0 = (vs.map (·.1) ++ (ga bs p).1, (ga bs p).2) ∧ Own w' (fun g => g = go ∧ 0 < m1 ∧ w.heap.size ≤ g) 48 10 (.slice a1 m1 c1) m1 (rows encP vs) ∧ Pbs w' w.heap.size w'.heap.size go vs ∧ Upd (fun g => w.heap.size ≤ g) w w') _ ⟨0, [], none, 0, 0, 0, rfl, rfl, ⟨rfl, (by first | rfl | exact vint (by omega) | exact vint (by simp)), (by first | rfl | exact vint (by omega) | exact vint (by simp)), trivial⟩, (by omega), (by simp), (by simp), (by exact Own.nil _ _ _ _), (Pbs.nil _ _ _ _), Upd.refl _ _⟩ ?_
 rintro m1 ρ1 ds1 w1 ⟨p, vs, a1, m1, c1, go, rfl, rfl, hl1, hqn, hac, hga, hO, hP, hU1⟩
 obtain ⟨ρ1x, rfl⟩ : ∃ ρx, ρ1 = upds ρx [(0, .slice a n c), (4, .slice a1 m1 c1), (5, .int .i64 ((p : Nat) : Int))] := ⟨_, upds_self hl1⟩
 clear hl1
 have hzw1 := hU1.size
 replace hs := hs.upd hU1 (by intro x h1 h2; have h3 : x < w.heap.size := h1; have h4 : w.heap.size ≤ x := h2; omega)
 replace HU := HU.trans hU1 (by intro x hx; have hx2 : w.heap.size ≤ x := hx; show (False) ∨ w.heap.size ≤ x; omega)
 replace hO := hO.tight
 have hl_hO := rlen encP_len (by decide) hO.sl
 have hc_hO := hO.sl.cap.1
 have HL1 := hU1
 refine W_seq (W_seq (W_region ?_))
 refine Wmv (.int .i64 ((p : Nat) : Int)) ?_
 refine Wmv (.slice a n c) ?_
 refine Wl_v (r_len underlying22 rfl) ?_
 refine Wl_v (r_lt rfl rfl) ?_
 refine Wl_nil ?_
 by_cases q1 : ((p : Nat) : Int) < ((n : Nat) : Int)
 ·rw [decide_eq_true q1]
  refine W_cond_t rfl ?_
  refine W_skip (W_block (W_seq (W_region ?_)))
  refine Wmv (.slice a n c) ?_
  refine Wmv (.int .i64 ((p : Nat) : Int)) ?_
  refine Wl_call (r_call2 rfl call25 rfl rfl) (rmark _ hs.any hb (by omega) (by omega)) ?_
  rintro v w2 ⟨rfl, hU2⟩
  have hzw2 := hU2.size
  replace hs := hs.upd0 hU2
  replace HU := HU.trans0 hU2
  replace hO := hO.upd0 hU2
  replace hP := hP.upd0 hU2
  replace HL1 := HL1.trans0 hU2
  refine Wmv (.tuple #[.int .i64 ((hmk bs p).1), .int .i64 ((hmk bs p).2)]) ?_
  refine Wl_v (r_ext (v := .int .i64 ((hmk bs p).1)) rfl rfl) ?_
  refine Wl_v (r_ext (v := .int .i64 ((hmk bs p).2)) rfl rfl) ?_
  refine Was (.int .i64 ((hmk bs p).1)) ?_
  refine Was (.int .i64 ((hmk bs p).2)) ?_
  refine Wl_nil (W_seq (W_seq (W_region ?_)))
  refine Wmv (.int .i64 ((hmk bs p).2)) ?_
  refine Wl_v (r_ne rfl rfl) ?_
  refine Wl_nil ?_
  by_cases q2 : ((hmk bs p).2) ≠ 0
  ·have hG := gp_mk (bs := bs) (p := p) q2
   rw [decide_eq_true q2]
   refine W_cond_t rfl ?_
   refine W_seq (W_region ?_)
   refine Wmv (.slice a1 m1 c1) ?_
   refine Wmv (.int .i64 ((hmk bs p).2)) ?_
   refine Was (.slice a1 m1 c1) ?_
   refine Was (.int .i64 ((hmk bs p).2)) ?_
   refine Wl_nil ?_
   refine W_ret ?_
   refine ret_end (v := .tuple #[.slice a1 m1 c1, .int .i64 ((hmk bs p).2)]) rfl (res2 results12 rfl rfl) ?_
   have hge := ga_err (bs := bs) (p := p) (by omega) (by rw [hG]; assumption)
   rw [hG] at hge
   have HG : ga bs 0 = (vs.map (·.1), (hmk bs p).2) := by rw [hga, hge]; simp
   exact ⟨_, rfl, a1, m1, c1, (vtup2 rfl (vint (by rw [HG]))), (by rw [HG]; exact Pts.of hO.sl (by intro g hg; have h3 : ((g = go ∧ 0 < m1 ∧ w.heap.size ≤ g) ∧ g < w1.heap.size) := hg; omega) ((hP.low (by omega)).wide (by omega) (Or.inl rfl))), HU⟩
  have hm2 : (hmk bs p).2 = 0 := Classical.not_not.1 q2
  have h12 := hmk_12 hm2
  rw [decide_eq_false q2]
  refine W_cond_f rfl ?_
  refine W_skip (W_seq (W_seq (W_region ?_)))
  refine Wmv (.int .i64 ((hmk bs p).1)) ?_
  refine Wl_v (r_eq rfl rfl) ?_
  refine Wl_nil ?_
  by_cases q3 : ((hmk bs p).1) = 2
  ·have hm1 : ¬ (hmk bs p).1 = 1 := by omega
   rw [decide_eq_true q3]
   refine W_cond_t rfl ?_
   refine W_seq (W_region ?_)
   refine Wmv (.slice a n c) ?_
   refine Wmv (.int .i64 ((p : Nat) : Int)) ?_
   refine Wl_call (r_call2 rfl call26 rfl rfl) (rcontent (p := p) _ hs hb (by omega) (by omega)) ?_
   rintro v w3 ⟨a3, m3, c3, rfl, hB3, hm_3, hU3⟩
   have hzw3 := hU3.size
   replace HU := HU.trans0 hU3
   replace hO := hO.upd0 hU3
   replace hP := hP.upd0 hU3
   replace HL1 := HL1.trans0 hU3
   have hl_hB3 := ilen hB3
   have hc_hB3 := hB3.cap.1
   refine Wmv (.tuple #[.slice a3 m3 c3, .int .i64 (((gskip bs p).2.1 : Nat) : Int), .int .i64 ((gskip bs p).2.2)]) ?_
   refine Wl_v (r_ext (v := .slice a3 m3 c3) rfl rfl) ?_
   refine Wl_v (r_ext (v := .int .i64 (((gskip bs p).2.1 : Nat) : Int)) rfl rfl) ?_
   refine Wl_v (r_ext (v := .int .i64 ((gskip bs p).2.2)) rfl rfl) ?_
   refine Was (.slice a3 m3 c3) ?_
   refine Was (.int .i64 (((gskip bs p).2.1 : Nat) : Int)) ?_
   refine Was (.int .i64 ((gskip bs p).2.2)) ?_
   refine Wl_nil (W_seq (W_seq (W_region ?_)))
   refine Wmv (.int .i64 ((gskip bs p).2.2)) ?_
   refine Wl_v (r_ne rfl rfl) ?_
   refine Wl_nil ?_
   by_cases q4 : ((gskip bs p).2.2) ≠ 0
   ·have hG := gp_skerr hm2 hm1 q4
    rw [decide_eq_true q4]
    refine W_cond_t rfl ?_
    refine W_seq (W_region ?_)
    refine Wmv (.slice a1 m1 c1) ?_
    refine Wmv (.int .i64 ((gskip bs p).2.2)) ?_
    refine Was (.slice a1 m1 c1) ?_
    refine Was (.int .i64 ((gskip bs p).2.2)) ?_
    refine Wl_nil ?_
    refine W_ret ?_
    refine ret_end (v := .tuple #[.slice a1 m1 c1, .int .i64 ((gskip bs p).2.2)]) rfl (res2 results12 rfl rfl) ?_
    have hge := ga_err (bs := bs) (p := p) (by omega) (by rw [hG]; assumption)
    rw [hG] at hge
    have HG : ga bs 0 = (vs.map (·.1), (gskip bs p).2.2) := by rw [hga, hge]; simp
    exact ⟨_, rfl, a1, m1, c1, (vtup2 rfl (vint (by rw [HG]))), (by rw [HG]; exact Pts.of hO.sl (by intro g hg; have h3 : ((g = go ∧ 0 < m1 ∧ w.heap.size ≤ g) ∧ g < w1.heap.size) := hg; omega) ((hP.low (by omega)).wide (by omega) (Or.inl rfl))), HU⟩
   have hsk0 : (gskip bs p).2.2 = 0 := Classical.not_not.1 q4
   have hgk := gskip_le hsk0
   have hG := gp_skip hm2 hm1 hsk0
   rw [decide_eq_false q4]
   refine W_cond_f rfl ?_
   refine W_skip (W_seq (W_region ?_))
   refine Wmv (.slice a1 m1 c1) ?_
   refine Wmv (.int .i64 ((p : Nat) : Int)) ?_
   refine Wmv (.int .i64 (((gskip bs p).2.1 : Nat) : Int)) ?_
   refine Wmv (.int .i64 ((p : Nat) : Int)) ?_
   refine Wl_v (r_sub rfl rfl (wi64 (by omega) (by omega))) ?_
   refine Wmv (.slice a3 m3 c3) ?_
   refine Wl_v (r_len underlying22 rfl) ?_
   refine Wl_v (r_build (pl := #[(0, 1), (1, 1), (2, 1), (3, 1), (4, 4), (8, 1), (9, 1)]) (pv := [(0, .int .i64 ((p : Nat) : Int)), (1, .int .i64 ((((gskip bs p).2.1 : Nat) : Int) - ((p : Nat) : Int))), (2, .bool true), (3, .int .i64 ((m3 : Nat) : Int))]) (cs := #[.int .i64 ((p : Nat) : Int), .int .i64 ((((gskip bs p).2.1 : Nat) : Int) - ((p : Nat) : Int)), .bool true, .int .i64 ((m3 : Nat) : Int), .int .i64 0, .int .i64 0, .int .u32 0, .bool false, .slice none 0 0, .int .u32 0]) zeroValue48 underlying48 (fun w => by kernel_rfl) (by simp only [List.map_toArray, List.map_cons, List.map_nil] <;> rfl) (by kernel_rfl)) ?_
   refine Wl_lit (pv := [(0, .agg #[.int .i64 ((p : Nat) : Int), .int .i64 ((((gskip bs p).2.1 : Nat) : Int) - ((p : Nat) : Int)), .bool true, .int .i64 ((m3 : Nat) : Int), .int .i64 0, .int .i64 0, .int .u32 0, .bool false, .slice none 0 0, .int .u32 0])]) (cs := [.int .i64 ((p : Nat) : Int), .int .i64 ((((gskip bs p).2.1 : Nat) : Int) - ((p : Nat) : Int)), .bool true, .int .i64 ((m3 : Nat) : Int), .int .i64 0, .int .i64 0, .int .u32 0, .bool false, .slice none 0 0, .int .u32 0]) underlying29 sizeOf48 zeroValue48 (by decide) (by decide) (by simp only [List.map_toArray, List.map_cons, List.map_nil] <;> rfl) (by kernel_rfl) rfl (by decide) ?_
   intro B4 w4 hB4 hU4 hzz4 hs4
   have hzw4 := hU4.size
   replace hO := hO.upd0 hU4
   replace hP := hP.upd0 hU4
   replace HL1 := HL1.trans0 hU4
   replace hs4 : Own w4 (Is B4) 48 10 (.slice (some ⟨B4, 0, none⟩) 1 1) 1 (rows encP [((⟨((p : Nat) : Int), (((gskip bs p).2.1 : Nat) : Int) - ((p : Nat) : Int), true, ((m3 : Nat) : Int), hz, [], 0⟩ : PT), (none : Option Addr), 0, 0)]) := hs4
   refine Wl_appendc (cs3 := rows encP (vs ++ [((⟨((p : Nat) : Int), (((gskip bs p).2.1 : Nat) : Int) - ((p : Nat) : Int), true, ((m3 : Nat) : Int), hz, [], 0⟩ : PT), (none : Option Addr), 0, 0)])) (tot := m1 + 1) (by first | rfl | exact (rows_app _ _).symm | simp) underlying29 (ti := Tryd.t48) (z := .agg #[.int .i64 0, .int .i64 0, .bool false, .int .i64 0, .int .i64 0, .int .i64 0, .int .u32 0, .bool false, .slice none 0 0, .int .u32 0]) (sz := 10) (by' := 88) rfl rfl rfl rfl rfl (by decide) rfl hO rfl hs4.sl (rows_one encP_one _) (by omega) (by simp only [maxLen]; omega) (by omega) ?_
   intro a5 c5 w5 hU5 hzz5 hO5
   clear hO
   have hzw5 := hU5.size
   replace hP := hP.upd hU5 (by intro x hx; have hx2 : ((x = go ∧ 0 < m1 ∧ w.heap.size ≤ x) ∧ x < w1.heap.size) := hx; omega)
   replace HL1 := HL1.trans hU5 (by intro x hx; have hx2 : ((x = go ∧ 0 < m1 ∧ w.heap.size ≤ x) ∧ x < w1.heap.size) := hx; show (w.heap.size ≤ x) ∨ w.heap.size ≤ x; omega)
   replace hO5 := hO5.tight
   have hl_hO5 := rlen encP_len (by decide) hO5.sl
   have hc_hO5 := hO5.sl.cap.1
   obtain ⟨go6, hgo6, hOo6⟩ := hO5.one (by omega)
   replace hgo6 : ((((((go6 = go ∧ 0 < m1 ∧ w.heap.size ≤ go6) ∧ go6 < w1.heap.size)) ∨ go6 = w4.heap.size)) ∧ go6 < w5.heap.size) := hgo6
   clear hO5
   replace hOo6 := hOo6.tight
   refine Was (.slice a5 (m1 + 1) c5) ?_
   refine Wl_nil (W_seq (W_region ?_))
   refine Wmv (.int .i64 (((gskip bs p).2.1 : Nat) : Int)) ?_
   refine Was (.int .i64 (((gskip bs p).2.1 : Nat) : Int)) ?_
   refine Wl_nil ?_
   refine W_exit ?_
   have hPn : Pbs w5 (w.heap.size) (w5.heap.size) go6 (vs ++ [((⟨((p : Nat) : Int), (((gskip bs p).2.1 : Nat) : Int) - ((p : Nat) : Int), true, ((m3 : Nat) : Int), hz, [], 0⟩ : PT), (none : Option Addr), 0, 0)]) := Pbs.snoc (hP.wide (by omega) (by omega)) (show Pb w5 _ _ _ ((⟨((p : Nat) : Int), (((gskip bs p).2.1 : Nat) : Int) - ((p : Nat) : Int), true, ((m3 : Nat) : Int), hz, [], 0⟩ : PT), (none : Option Addr), 0, 0) from Sl.nil _ _ _)
   refine ⟨_, ?_, (gskip bs p).2.1, (vs ++ [((⟨((p : Nat) : Int), (((gskip bs p).2.1 : Nat) : Int) - ((p : Nat) : Int), true, ((m3 : Nat) : Int), hz, [], 0⟩ : PT), (none : Option Addr), 0, 0)]), a5, (m1 + 1), c5, go6, rfl, rfl, ⟨rfl, (by first | rfl | exact vint (by omega) | exact vint (by simp)), (by first | rfl | exact vint (by omega) | exact vint (by simp)), trivial⟩, (by omega), (by simp; omega), (by rw [hga, ga_more (bs := bs) (p := p) (by omega) (by rw [hG]), hG, hm_3]; simp), (hOo6.weak (by intro g hg; have h3 : ((g = go6) ∧ g < w5.heap.size) := hg; show g = go6 ∧ 0 < m1 + 1 ∧ w.heap.size ≤ g; omega)), hPn, HL1⟩
   omega
  have hHm : Hm bs p := ⟨hm2, by omega⟩
  rw [decide_eq_false q3]
  refine W_cond_f rfl ?_
  refine W_skip (W_seq (W_region ?_))
  refine Wmv (.slice a n c) ?_
  refine Wmv (.int .i64 ((p : Nat) : Int)) ?_
  refine Wl_call (r_call2 rfl call27 rfl rfl) (rframe (p := p) _ hs.any hb (by omega) (by omega) hHm (by omega)) ?_
  rintro v w7 ⟨a7, m7, c7, rfl, hO7, hU7⟩
  have hzw7 := hU7.size
  replace HU := HU.trans0 hU7
  replace hO := hO.upd0 hU7
  replace hP := hP.upd0 hU7
  replace HL1 := HL1.trans0 hU7
  replace hO7 := hO7.tight
  have hl_hO7 := rlen encK_len (by decide) hO7.sl
  have hc_hO7 := hO7.sl.cap.1
  refine Wmv (.tuple #[.agg #[.int .i64 ((gpart bs p).1.at_), .int .i64 ((gpart bs p).1.sz), .bool (decide ((gpart bs p).1.sk = true)), .int .i64 ((gpart bs p).1.pl), .int .i64 ((gpart bs p).1.hd.1), .int .i64 ((gpart bs p).1.hd.2.1), .int .u32 ((gpart bs p).1.hd.2.2.1), .bool (decide ((gpart bs p).1.hd.2.2.2 = true)), .slice a7 m7 c7, .int .u32 ((gpart bs p).1.ck)], .int .i64 (((gpart bs p).2.1 : Nat) : Int), .int .i64 ((gpart bs p).2.2)]) ?_
  refine Wl_v (r_ext (v := .agg #[.int .i64 ((gpart bs p).1.at_), .int .i64 ((gpart bs p).1.sz), .bool (decide ((gpart bs p).1.sk = true)), .int .i64 ((gpart bs p).1.pl), .int .i64 ((gpart bs p).1.hd.1), .int .i64 ((gpart bs p).1.hd.2.1), .int .u32 ((gpart bs p).1.hd.2.2.1), .bool (decide ((gpart bs p).1.hd.2.2.2 = true)), .slice a7 m7 c7, .int .u32 ((gpart bs p).1.ck)]) rfl rfl) ?_
  refine Wl_v (r_ext (v := .int .i64 (((gpart bs p).2.1 : Nat) : Int)) rfl rfl) ?_
  refine Wl_v (r_ext (v := .int .i64 ((gpart bs p).2.2)) rfl rfl) ?_
  refine Wl_alloc (cs := [.int .i64 0, .int .i64 0, .bool false, .int .i64 0, .int .i64 0, .int .i64 0, .int .u32 0, .bool false, .slice none 0 0, .int .u32 0]) zeroValue48 rfl ?_
  intro B8 w8 hB8 hU8 hzz8 hb8
  have hzw8 := hU8.size
  replace HU := HU.trans0 hU8
  replace hO := hO.upd0 hU8
  replace hP := hP.upd0 hU8
  replace HL1 := HL1.trans0 hU8
  replace hO7 := hO7.upd0 hU8
  refine Wl_storea (off := 0) (vs := [.int .i64 ((gpart bs p).1.at_), .int .i64 ((gpart bs p).1.sz), .bool (decide ((gpart bs p).1.sk = true)), .int .i64 ((gpart bs p).1.pl), .int .i64 ((gpart bs p).1.hd.1), .int .i64 ((gpart bs p).1.hd.2.1), .int .u32 ((gpart bs p).1.hd.2.2.1), .bool (decide ((gpart bs p).1.hd.2.2.2 = true)), .slice a7 m7 c7, .int .u32 ((gpart bs p).1.ck)]) (cs' := [.int .i64 ((gpart bs p).1.at_), .int .i64 ((gpart bs p).1.sz), .bool (decide ((gpart bs p).1.sk = true)), .int .i64 ((gpart bs p).1.pl), .int .i64 ((gpart bs p).1.hd.1), .int .i64 ((gpart bs p).1.hd.2.1), .int .u32 ((gpart bs p).1.hd.2.2.1), .bool (decide ((gpart bs p).1.hd.2.2.2 = true)), .slice a7 m7 c7, .int .u32 ((gpart bs p).1.ck)]) sizeOf48 rfl rfl rfl (by simp only [List.mem_cons, List.not_mem_nil, or_false, forall_eq_or_imp, forall_eq]; exact ⟨rfl, rfl, rfl, rfl, rfl, rfl, rfl, rfl, rfl, rfl⟩) hb8 (by simp) rfl ?_
  intro w9 hU9 hzz9 hb8n
  replace hb8 := hb8n; clear hb8n
  have hzw9 := hU9.size
  replace HU := HU.t1 hU9 (by omega)
  replace hO := hO.upd1 hU9 (by intro h1; have h3 : ((B8 = go ∧ 0 < m1 ∧ w.heap.size ≤ B8) ∧ B8 < w1.heap.size) := h1; omega)
  replace hP := hP.upd1 hU9 (by omega)
  replace HL1 := HL1.trans1 hU9 (by show (w.heap.size ≤ B8) ∨ w.heap.size ≤ B8; omega)
  replace hO7 := hO7.upd1 hU9 (show ¬ (((w2.heap.size ≤ B8) ∧ B8 < w7.heap.size)) by omega)
  refine Was (.int .i64 (((gpart bs p).2.1 : Nat) : Int)) ?_
  refine Was (.int .i64 ((gpart bs p).2.2)) ?_
  refine Wl_nil (W_seq (W_seq (W_region ?_)))
  refine Wmv (.int .i64 ((gpart bs p).2.2)) ?_
  refine Wl_v (r_ne rfl rfl) ?_
  refine Wl_nil ?_
  by_cases q5 : ((gpart bs p).2.2) ≠ 0
  ·have hG : gpart bs p = ((gpart bs p).1, (gpart bs p).2.1, (gpart bs p).2.2) := rfl
   rw [decide_eq_true q5]
   refine W_cond_t rfl ?_
   refine W_seq (W_region ?_)
   refine Wmv (.slice a1 m1 c1) ?_
   refine Wmv (.int .i64 ((gpart bs p).2.2)) ?_
   refine Was (.slice a1 m1 c1) ?_
   refine Was (.int .i64 ((gpart bs p).2.2)) ?_
   refine Wl_nil ?_
   refine W_ret ?_
   refine ret_end (v := .tuple #[.slice a1 m1 c1, .int .i64 ((gpart bs p).2.2)]) rfl (res2 results12 rfl rfl) ?_
   have hge := ga_err (bs := bs) (p := p) (by omega) q5
   have HG : ga bs 0 = (vs.map (·.1), (gpart bs p).2.2) := by rw [hga, hge]; simp
   exact ⟨_, rfl, a1, m1, c1, (vtup2 rfl (vint (by rw [HG]))), (by rw [HG]; exact Pts.of hO.sl (by intro g hg; have h3 : ((g = go ∧ 0 < m1 ∧ w.heap.size ≤ g) ∧ g < w1.heap.size) := hg; omega) ((hP.low (by omega)).wide (by omega) (Or.inl rfl))), HU⟩
  have hgp0 : (gpart bs p).2.2 = 0 := Classical.not_not.1 q5
  have hgl := gpart_le hgp0
  rw [decide_eq_false q5]
  refine W_cond_f rfl ?_
  refine W_skip (W_seq (W_region ?_))
  refine Wmv (.slice a1 m1 c1) ?_
  refine Wl_v (r_loada (b := B8) (off := 0) (cs := [.int .i64 ((gpart bs p).1.at_), .int .i64 ((gpart bs p).1.sz), .bool (decide ((gpart bs p).1.sk = true)), .int .i64 ((gpart bs p).1.pl), .int .i64 ((gpart bs p).1.hd.1), .int .i64 ((gpart bs p).1.hd.2.1), .int .u32 ((gpart bs p).1.hd.2.2.1), .bool (decide ((gpart bs p).1.hd.2.2.2 = true)), .slice a7 m7 c7, .int .u32 ((gpart bs p).1.ck)]) isAgg48 sizeOf48 rfl rfl (fun j hj => by rw [hb8.cell]; match j, hj with | 0, _ => rfl | 1, _ => rfl | 2, _ => rfl | 3, _ => rfl | 4, _ => rfl | 5, _ => rfl | 6, _ => rfl | 7, _ => rfl | 8, _ => rfl | 9, _ => rfl)) ?_
  refine Wl_lit (pv := [(0, .agg #[.int .i64 ((gpart bs p).1.at_), .int .i64 ((gpart bs p).1.sz), .bool (decide ((gpart bs p).1.sk = true)), .int .i64 ((gpart bs p).1.pl), .int .i64 ((gpart bs p).1.hd.1), .int .i64 ((gpart bs p).1.hd.2.1), .int .u32 ((gpart bs p).1.hd.2.2.1), .bool (decide ((gpart bs p).1.hd.2.2.2 = true)), .slice a7 m7 c7, .int .u32 ((gpart bs p).1.ck)])]) (cs := [.int .i64 ((gpart bs p).1.at_), .int .i64 ((gpart bs p).1.sz), .bool (decide ((gpart bs p).1.sk = true)), .int .i64 ((gpart bs p).1.pl), .int .i64 ((gpart bs p).1.hd.1), .int .i64 ((gpart bs p).1.hd.2.1), .int .u32 ((gpart bs p).1.hd.2.2.1), .bool (decide ((gpart bs p).1.hd.2.2.2 = true)), .slice a7 m7 c7, .int .u32 ((gpart bs p).1.ck)]) underlying29 sizeOf48 zeroValue48 (by decide) (by decide) (by simp only [List.map_toArray, List.map_cons, List.map_nil] <;> rfl) (by kernel_rfl) rfl (by decide) ?_
  intro B10 w10 hB10 hU10 hzz10 hs10
  have hzw10 := hU10.size
  replace hO := hO.upd0 hU10
  replace hP := hP.upd0 hU10
  replace HL1 := HL1.trans0 hU10
  replace hO7 := hO7.upd0 hU10
  replace hs10 : Own w10 (Is B10) 48 10 (.slice (some ⟨B10, 0, none⟩) 1 1) 1 (rows encP [((gpart bs p).1, a7, m7, c7)]) := hs10
  refine Wl_appendc (cs3 := rows encP (vs ++ [((gpart bs p).1, a7, m7, c7)])) (tot := m1 + 1) (by first | rfl | exact (rows_app _ _).symm | simp) underlying29 (ti := Tryd.t48) (z := .agg #[.int .i64 0, .int .i64 0, .bool false, .int .i64 0, .int .i64 0, .int .i64 0, .int .u32 0, .bool false, .slice none 0 0, .int .u32 0]) (sz := 10) (by' := 88) rfl rfl rfl rfl rfl (by decide) rfl hO rfl hs10.sl (rows_one encP_one _) (by omega) (by simp only [maxLen]; omega) (by omega) ?_
  intro a11 c11 w11 hU11 hzz11 hO11
  clear hO
  have hzw11 := hU11.size
  replace hP := hP.upd hU11 (by intro x hx; have hx2 : ((x = go ∧ 0 < m1 ∧ w.heap.size ≤ x) ∧ x < w1.heap.size) := hx; omega)
  replace HL1 := HL1.trans hU11 (by intro x hx; have hx2 : ((x = go ∧ 0 < m1 ∧ w.heap.size ≤ x) ∧ x < w1.heap.size) := hx; show (w.heap.size ≤ x) ∨ w.heap.size ≤ x; omega)
  replace hO7 := hO7.upd hU11 (by intro x h1 h2; have h3 : ((w2.heap.size ≤ x) ∧ x < w7.heap.size) := h1; have h4 : ((x = go ∧ 0 < m1 ∧ w.heap.size ≤ x) ∧ x < w1.heap.size) := h2; omega)
  replace hO11 := hO11.tight
  have hl_hO11 := rlen encP_len (by decide) hO11.sl
  have hc_hO11 := hO11.sl.cap.1
  obtain ⟨go12, hgo12, hOo12⟩ := hO11.one (by omega)
  replace hgo12 : ((((((go12 = go ∧ 0 < m1 ∧ w.heap.size ≤ go12) ∧ go12 < w1.heap.size)) ∨ go12 = w10.heap.size)) ∧ go12 < w11.heap.size) := hgo12
  clear hO11
  replace hOo12 := hOo12.tight
  refine Was (.slice a11 (m1 + 1) c11) ?_
  refine Wl_nil (W_region ?_)
  refine Wmv (.int .i64 (((gpart bs p).2.1 : Nat) : Int)) ?_
  refine Was (.int .i64 (((gpart bs p).2.1 : Nat) : Int)) ?_
  refine Wl_nil ?_
  have hPn : Pbs w11 (w.heap.size) (w11.heap.size) go12 (vs ++ [((gpart bs p).1, a7, m7, c7)]) := Pbs.snoc (hP.wide (by omega) (by omega)) (show Pb w11 _ _ _ ((gpart bs p).1, a7, m7, c7) from (hO7.sl).weak (by intro g hg; have h3 : ((w2.heap.size ≤ g) ∧ g < w7.heap.size) := hg; show w.heap.size ≤ g ∧ g < w11.heap.size ∧ g ≠ go12; omega))
  refine ⟨_, ?_, (gpart bs p).2.1, (vs ++ [((gpart bs p).1, a7, m7, c7)]), a11, (m1 + 1), c11, go12, rfl, rfl, ⟨rfl, (by first | rfl | exact vint (by omega) | exact vint (by simp)), (by first | rfl | exact vint (by omega) | exact vint (by simp)), trivial⟩, (by omega), (by simp; omega), (by rw [hga, ga_more (bs := bs) (p := p) (by omega) hgp0]; simp), (hOo12.weak (by intro g hg; have h3 : ((g = go12) ∧ g < w11.heap.size) := hg; show g = go12 ∧ 0 < m1 + 1 ∧ w.heap.size ≤ g; omega)), hPn, HL1⟩
  omega
 rw [decide_eq_false q1]
 refine W_cond_f rfl ?_
 refine W_exit ?_
 refine W_seq (W_region ?_)
 refine Wmv (.slice a1 m1 c1) ?_
 refine Was (.slice a1 m1 c1) ?_
 refine Was (.int .i64 0) ?_
 refine Wl_nil ?_
 refine W_ret ?_
 refine ret_end (v := .tuple #[.slice a1 m1 c1, .int .i64 0]) rfl (res2 results12 rfl rfl) ?_
 have hge := ga_end (bs := bs) (p := p) (by omega)
 have HG : ga bs 0 = (vs.map (·.1), 0) := by rw [hga, hge]; simp
 exact ⟨_, rfl, a1, m1, c1, (vtup2 rfl (vint (by rw [HG]))), (by rw [HG]; exact Pts.of hO.sl (by intro g hg; have h3 : ((g = go ∧ 0 < m1 ∧ w.heap.size ≤ g) ∧ g < w1.heap.size) := hg; omega) ((hP.low (by omega)).wide (by omega) (Or.inl rfl))), HU⟩
end Go.Proofs.YtbjjhfoeckkacaaDoor
