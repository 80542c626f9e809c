/-
 Walks, printed by a small program of this project (gen.py).
-/
import Derived.Test.YtdppageondgjkaaGreatVk
import Derived.Test.YtdppageondgjkaaGreatZR
import Derived.Test.YtdppageondgjkaaGreatQb
set_option linter.unusedVariables false
set_option linter.unusedSimpArgs false
set_option maxRecDepth 100000
namespace Go.Proofs.YtdppageondgjkaaGreat
open Go.Fw _root_.Go.Proofs.Tryz
open Nu
set_option maxHeartbeats 4000000 in
theorem rea_all {a a2 : Option Addr} {n c m d : Nat} {l b : List Int} {nn : Int} {R : Nat → Prop} (w : World) (hs : Sl w R 1 (.slice a n c) n (ints .i64 l)) (hn : n ≤ 1000) (hsb : Sl w (fun g => g < w.heap.size) 1 (.slice a2 m d) m (ints .u8 b)) (hb : Byt b) (hm : m ≤ 100000) (hni : -9223372036854775808 ≤ nn ∧ nn ≤ 9223372036854775807) :
  Calls Tryz.prog 31 #[.slice a n c, .slice a2 m d, .int .i64 nn] w (Ret fun v w' => ∃ (a' : Option Addr) (c' : Nat) (G1 : Nat), v = .tuple #[.slice a' (nE l b nn) c', .int .i64 ((d4F l b nn).2)] ∧ Rws w' w.heap.size G1 a' (nE l b nn) c' (zL l b nn) ∧ G1 ≤ w'.heap.size ∧ Upd No w w') := by
 have HU := Upd.rno w
 have hl_hs := ilen hs
 have hc_hs := hs.cap.1
 replace hs := hs.tight
 have hl_hsb := ilen hsb
 have hc_hsb := hsb.cap.1
 refine calls_of_W func31 rfl ntmps31 (by simp) ?_
 refine W_seq (W_region ?_)
 refine Was (.slice none 0 0) ?_
 refine Was (.int .i64 0) ?_
 refine Wl_nil (W_seq (W_seq (W_region ?_)))
 refine Wmv (.slice a n c) ?_
 refine Wl_call (r_call1 rfl call28 rfl) (rright_spec _ hs (by omega)) ?_
 rintro v w1 ⟨rfl, hU1⟩
 have hzw1 := hU1.size
 replace hs := hs.upd0 hU1
 replace hsb := hsb.upd0 hU1
 replace HU := HU.trans0 hU1
 refine Wl_v (r_not rfl) ?_
 refine Wl_nil ?_
 by_cases q1 : Rt l
 ·rw [decide_eq_true q1]
  simp only [Bool.not_true, Bool.not_false]
  refine W_cond_f rfl ?_
  refine W_skip (W_seq (W_region ?_))
  refine Wmv (.int .i64 nn) ?_
  by_cases q2 : paF nn = 0
  ·have hpr := pa_rng q2
   refine Wl_call (r_call1 rfl call12 rfl) (rparts_ok (n := nn) _ (by omega) q2) ?_
   rintro v w2 ⟨a2x, c2, rfl, hO2, hU2⟩
   have hzw2 := hU2.size
   replace hs := hs.upd0 hU2
   replace hsb := hsb.upd0 hU2
   replace HU := HU.trans0 hU2
   replace hO2 := hO2.tight
   have hl_hO2 := ilen hO2.sl
   have hc_hO2 := hO2.sl.cap.1
   refine Wmv (.tuple #[.slice a2x 4 c2, .int .i64 0]) ?_
   refine Wl_v (r_ext (v := .slice a2x 4 c2) rfl rfl) ?_
   refine Wl_v (r_ext (v := .int .i64 0) rfl rfl) ?_
   refine Was (.slice a2x 4 c2) ?_
   refine Was (.int .i64 0) ?_
   refine Wl_nil (W_seq (W_seq (W_region ?_)))
   refine Wmv (.int .i64 0) ?_
   refine Wl_v (v := .bool false) (r_ne (a := 0) (b := 0) rfl rfl) ?_
   refine Wl_nil ?_
   refine W_cond_f rfl ?_
   refine W_skip (W_seq (W_region ?_))
   refine Wmv (.slice a2 m d) ?_
   by_cases q3 : e4 b = 0
   ·refine Wl_call (r_call1 rfl call26 rfl) (rstr_ok _ hsb hb (by omega) q3) ?_
    rintro v w3 ⟨a3, c3, ja3, ka3, qa3, jb3, kb3, qb3, jc3, kc3, qc3, jd3, kd3, qd3, rfl, hS3, hOa3, hOb3, hOc3, hOd3, hU3⟩
    have hzw3 := hU3.size
    replace hs := hs.upd0 hU3
    replace HU := HU.trans0 hU3
    replace hO2 := hO2.upd0 hU3
    replace hS3 := hS3.tight
    have hl_hS3 := hS3.sl.len
    have hc_hS3 := hS3.sl.cap.1
    have hl_hOa3 := ilen hOa3
    have hc_hOa3 := hOa3.cap.1
    have hl_hOb3 := ilen hOb3
    have hc_hOb3 := hOb3.cap.1
    have hl_hOc3 := ilen hOc3
    have hc_hOc3 := hOc3.cap.1
    have hl_hOd3 := ilen hOd3
    have hc_hOd3 := hOd3.cap.1
    have hgl3d := List.length_drop (i := (gbytes b (gbytes b (gbytes b (gnum b (gnum b (gnum b 0 131072).2.1 131072).2.1 131072).2.1 (gnum b 0 131072).1).2.1 (gnum b (gnum b 0 131072).2.1 131072).1).2.1 (gnum b (gnum b (gnum b 0 131072).2.1 131072).2.1 131072).1).2.1) (l := b)
    have hgl3a := gbl_le (b := b) ((gnum b (gnum b (gnum b 0 131072).2.1 131072).2.1 131072).2.1) ((gnum b 0 131072).1)
    have hgl3b := gbl_le (b := b) ((gbytes b (gnum b (gnum b (gnum b 0 131072).2.1 131072).2.1 131072).2.1 (gnum b 0 131072).1).2.1) ((gnum b (gnum b 0 131072).2.1 131072).1)
    have hgl3c := gbl_le (b := b) ((gbytes b (gbytes b (gnum b (gnum b (gnum b 0 131072).2.1 131072).2.1 131072).2.1 (gnum b 0 131072).1).2.1 (gnum b (gnum b 0 131072).2.1 131072).1).2.1) ((gnum b (gnum b (gnum b 0 131072).2.1 131072).2.1 131072).1)
    refine Wmv (.tuple #[.slice a3 4 c3, .int .i64 0]) ?_
    refine Wl_v (r_ext (v := .slice a3 4 c3) rfl rfl) ?_
    refine Wl_v (r_ext (v := .int .i64 0) rfl rfl) ?_
    refine Was (.slice a3 4 c3) ?_
    refine Was (.int .i64 0) ?_
    refine Wl_nil (W_seq (W_seq (W_region ?_)))
    refine Wmv (.int .i64 0) ?_
    refine Wl_v (v := .bool false) (r_ne (a := 0) (b := 0) rfl rfl) ?_
    refine Wl_nil ?_
    refine W_cond_f rfl ?_
    refine W_skip (W_seq (W_region ?_))
    refine Was (.slice none 0 0) ?_
    refine Wl_nil (W_seq (W_seq (W_region ?_)))
    refine Was (.int .i64 0) ?_
    refine Wl_nil (W_block ?_)
    refine W_unroll 5 ?_
    refine unrK_succ ?_
    refine W_seq (W_seq (W_region ?_))
    refine Wmv (.int .i64 0) ?_
    refine Wl_v (v := .bool true) (r_lt (a := 0) (b := 4) rfl rfl) ?_
    refine Wl_nil ?_
    refine W_cond_t rfl ?_
    refine W_skip (W_seq (W_block (W_seq ?_)))
    refine W_drawt rfl (l0 := tf 0 15) (by kernel_rfl) ?_
    refine Tk 0 (tf 1 15) rfl (YI_v (v := .slice a n c) rfl (fun w' hw' => r_mv (v := .slice a n c) rfl)) ?_
    refine Tk 1 (tf 2 15) rfl (YI_v (v := .slice a3 4 c3) rfl (fun w' hw' => r_mv (v := .slice a3 4 c3) rfl)) ?_
    refine Tk 2 (tf 3 15) rfl (YI_v (v := .int .i64 0) rfl (fun w' hw' => r_mv (v := .int .i64 0) rfl)) ?_
    obtain ⟨ib4, io4, ha4, hx4⟩ := Sl.at (hS3.sl) (i := 0) (by decide)
    have hc4 : w3.cell? ⟨ib4, io4 + 0 * 1, none⟩ = some (.slice ja3 ka3 qa3) := hx4 0 (by decide)
    refine Tk 3 (tf 4 15) rfl (YI_v (v := .pointer (some ⟨ib4, io4 + 0 * 1, none⟩)) rfl (fun w' hw' => r_idx (b := ib4) (off := io4) (m := 4) (c := c3) (o' := io4 + 0 * 1) underlying41 sizeOf32 (by rw [← ha4]; rfl) rfl (by omega) (by omega) (by omega))) ?_
    refine Tk 4 (tf 5 15) rfl (YI_v (v := .slice ja3 ka3 qa3) rfl (fun w' hw' => r_load isAgg32 rfl (hw'.cellk hc4))) ?_
    refine Tk 5 (tf 6 15) rfl (YI_v (v := .slice a2x 4 c2) rfl (fun w' hw' => r_mv (v := .slice a2x 4 c2) rfl)) ?_
    refine Tk 6 (tf 7 15) rfl (YI_v (v := .int .i64 0) rfl (fun w' hw' => r_mv (v := .int .i64 0) rfl)) ?_
    obtain ⟨ib5, io5, ha5, hib5, hc5⟩ := (hO2.sl).iat (i := 0) (by omega)
    replace hib5 : ((w1.heap.size ≤ ib5) ∧ ib5 < w2.heap.size) := hib5
    refine Tk 7 (tf 8 15) rfl (YI_v (v := .pointer (some ⟨ib5, io5 + 0, none⟩)) rfl (fun w' hw' => r_idx (b := ib5) (off := io5) (m := 4) (c := c2) (o' := io5 + 0) underlying22 sizeOf3 (by rw [← ha5]; rfl) rfl (by omega) (by omega) (by omega))) ?_
    refine Tk 8 (tf 9 15) rfl (YI_v (v := .int .i64 ([(nn + 3) / 4, (nn + 3) / 4, (nn + 3) / 4, nn - 3 * ((nn + 3) / 4)].getD 0 0)) rfl (fun w' hw' => r_load isAgg3 rfl (hw'.cellk hc5))) ?_
    rw [show ([(nn + 3) / 4, (nn + 3) / 4, (nn + 3) / 4, nn - 3 * ((nn + 3) / 4)].getD 0 0 : Int) = (nn + 3) / 4 from rfl]
    intro w6 hU6
    have hzw6 := hU6.size
    replace hs := hs.upd0 hU6
    replace HU := HU.trans0 hU6
    replace hO2 := hO2.upd0 hU6
    replace hS3 := hS3.upd0 hU6
    replace hOa3 := hOa3.upd0 hU6
    replace hOb3 := hOb3.upd0 hU6
    replace hOc3 := hOc3.upd0 hU6
    replace hOd3 := hOd3.upd0 hU6
    replace hc5 := cell_upd0 hU6 hc5
    refine Wa_one (i := 9) (listed' := tf 10 15) (by kernel_rfl) rfl (by kernel_rfl) ?_
    refine Ws_of_Wl ?_
    have hW : Upd No w3 w6 := hU6
    refine Wl_call (r_call3 rfl call67 rfl rfl rfl) (rdec_spec _ hs (by omega) hOa3.any (gby_byt hb _ _) (by omega) (by omega)) ?_
    rintro v w7 ⟨a7, m7, c7, rfl, hO7, hU7⟩
    have hzw7 := hU7.size
    replace hs := hs.upd0 hU7
    replace HU := HU.trans0 hU7
    replace hO2 := hO2.upd0 hU7
    replace hS3 := hS3.upd0 hU7
    replace hOb3 := hOb3.upd0 hU7
    replace hOc3 := hOc3.upd0 hU7
    replace hOd3 := hOd3.upd0 hU7
    replace hc5 := cell_upd0 hU7 hc5
    try replace hW := hW.trans0 hU7
    replace hO7 := hO7.tight
    have hl_hO7 := ilen hO7.sl
    have hc_hO7 := hO7.sl.cap.1
    have hdl7 := dcF_len (l := l) (b := (gbytes b (gnum b (gnum b (gnum b 0 131072).2.1 131072).2.1 131072).2.1 (gnum b 0 131072).1).1) (gby_byt hb _ _) ((nn + 3) / 4)
    refine Wl_nil ?_
    intro w8 hS8
    refine ⟨fun h => absurd h (by rw [show barOp _ 9 = true from by kernel_rfl]; simp), fun _ => ⟨Upd No w8, ?_⟩⟩
    have hU8 := hS8.upd
    have hzw8 := hU8.size
    replace hs := hs.upd0 hU8
    replace HU := HU.trans0 hU8
    replace hO2 := hO2.upd0 hU8
    replace hS3 := hS3.upd0 hU8
    replace hOb3 := hOb3.upd0 hU8
    replace hOc3 := hOc3.upd0 hU8
    replace hOd3 := hOd3.upd0 hU8
    replace hc5 := cell_upd0 hU8 hc5
    replace hO7 := hO7.upd0 hU8
    try replace hW := hW.trans0 hU8
    refine Wt_base (Upd.refl _ _) ?_
    refine Tk 10 (tf 11 15) rfl (YI_v (v := .tuple #[.slice a7 m7 c7, .int .i64 ((dcF l ((gbytes b (gnum b (gnum b (gnum b 0 131072).2.1 131072).2.1 131072).2.1 (gnum b 0 131072).1).1) ((nn + 3) / 4)).2)]) rfl (fun w' hw' => r_mv (v := .tuple #[.slice a7 m7 c7, .int .i64 ((dcF l ((gbytes b (gnum b (gnum b (gnum b 0 131072).2.1 131072).2.1 131072).2.1 (gnum b 0 131072).1).1) ((nn + 3) / 4)).2)]) rfl)) ?_
    refine Tk 11 (tf 12 15) rfl (YI_v (v := .slice a7 m7 c7) rfl (fun w' hw' => r_ext (v := .slice a7 m7 c7) rfl rfl)) ?_
    refine Tk 12 (tf 13 15) rfl (YI_v (v := .int .i64 ((dcF l ((gbytes b (gnum b (gnum b (gnum b 0 131072).2.1 131072).2.1 131072).2.1 (gnum b 0 131072).1).1) ((nn + 3) / 4)).2)) rfl (fun w' hw' => r_ext (v := .int .i64 ((dcF l ((gbytes b (gnum b (gnum b (gnum b 0 131072).2.1 131072).2.1 131072).2.1 (gnum b 0 131072).1).1) ((nn + 3) / 4)).2)) rfl rfl)) ?_
    refine Tk 13 (tf 14 15) rfl (YI_v (v := .slice a7 m7 c7) rfl (fun w' hw' => r_as (v := .slice a7 m7 c7) rfl)) ?_
    refine Tk 14 (tf 15 15) rfl (YI_v (v := .int .i64 ((dcF l ((gbytes b (gnum b (gnum b (gnum b 0 131072).2.1 131072).2.1 131072).2.1 (gnum b 0 131072).1).1) ((nn + 3) / 4)).2)) rfl (fun w' hw' => r_as (v := .int .i64 ((dcF l ((gbytes b (gnum b (gnum b (gnum b 0 131072).2.1 131072).2.1 131072).2.1 (gnum b 0 131072).1).1) ((nn + 3) / 4)).2)) rfl)) ?_
    intro w9 hU9
    have hzw9 := hU9.size
    replace hs := hs.upd0 hU9
    replace HU := HU.trans0 hU9
    replace hO2 := hO2.upd0 hU9
    replace hS3 := hS3.upd0 hU9
    replace hOb3 := hOb3.upd0 hU9
    replace hOc3 := hOc3.upd0 hU9
    replace hOd3 := hOd3.upd0 hU9
    replace hc5 := cell_upd0 hU9 hc5
    replace hO7 := hO7.upd0 hU9
    try replace hW := hW.trans0 hU9
    refine Wa_done (by kernel_rfl) ?_
    refine W_seq (W_seq (W_region ?_))
    refine Wmv (.int .i64 ((dcF l ((gbytes b (gnum b (gnum b (gnum b 0 131072).2.1 131072).2.1 131072).2.1 (gnum b 0 131072).1).1) ((nn + 3) / 4)).2)) ?_
    refine Wl_v (r_ne rfl rfl) ?_
    refine Wl_nil ?_
    by_cases q4 : ((dcF l ((gbytes b (gnum b (gnum b (gnum b 0 131072).2.1 131072).2.1 131072).2.1 (gnum b 0 131072).1).1) ((nn + 3) / 4)).2) ≠ 0
    ·rw [decide_eq_true q4]
     refine W_cond_t rfl ?_
     refine W_seq (W_region ?_)
     refine Wmv (.slice none 0 0) ?_
     refine Wmv (.int .i64 ((dcF l ((gbytes b (gnum b (gnum b (gnum b 0 131072).2.1 131072).2.1 131072).2.1 (gnum b 0 131072).1).1) ((nn + 3) / 4)).2)) ?_
     refine Was (.slice none 0 0) ?_
     refine Was (.int .i64 ((dcF l ((gbytes b (gnum b (gnum b (gnum b 0 131072).2.1 131072).2.1 131072).2.1 (gnum b 0 131072).1).1) ((nn + 3) / 4)).2)) ?_
     refine Wl_nil ?_
     refine W_ret ?_
     refine ret_end (v := .tuple #[.slice none 0 0, .int .i64 ((dcF l ((gbytes b (gnum b (gnum b (gnum b 0 131072).2.1 131072).2.1 131072).2.1 (gnum b 0 131072).1).1) ((nn + 3) / 4)).2)]) rfl (res2 results31 rfl rfl) ?_
     have hN : nE l b nn = 0 := nE_1 ((hdF_e (l := l) (b := b) (n := nn) q1 q2).trans q3)  q4
     have hF : (d4F l b nn).2 = (dcF l ((gbytes b (gnum b (gnum b (gnum b 0 131072).2.1 131072).2.1 131072).2.1 (gnum b 0 131072).1).1) ((nn + 3) / 4)).2 := by rw [show d4F l b nn = ([], (dcF l ((gbytes b (gnum b (gnum b (gnum b 0 131072).2.1 131072).2.1 131072).2.1 (gnum b 0 131072).1).1) ((nn + 3) / 4)).2) from d4F_1 ((hdF_e (l := l) (b := b) (n := nn) q1 q2).trans q3)  q4]
     exact ⟨_, rfl, none, 0, w9.heap.size, by rw [hN, hF], by rw [hN]; exact Rws.nil _ _ _ _, Nat.le_refl _, HU⟩
    rw [decide_eq_false q4]
    refine W_cond_f rfl ?_
    refine W_skip (W_region ?_)
    refine Wmv (.slice none 0 0) ?_
    refine Wmv (.slice a7 m7 c7) ?_
    refine Wl_lit (pv := [(0, .slice a7 m7 c7)]) (cs := [.slice a7 m7 c7]) underlying41 sizeOf32 zeroValue32 (by decide) (by decide) (by simp only [List.map_toArray, List.map_cons, List.map_nil] <;> rfl) (by kernel_rfl) rfl (by decide) ?_
    intro B10 w10 hB10 hU10 hzz10 hs10
    have hzw10 := hU10.size
    replace hs := hs.upd0 hU10
    replace HU := HU.trans0 hU10
    replace hO2 := hO2.upd0 hU10
    replace hS3 := hS3.upd0 hU10
    replace hOb3 := hOb3.upd0 hU10
    replace hOc3 := hOc3.upd0 hU10
    replace hOd3 := hOd3.upd0 hU10
    replace hc5 := cell_upd0 hU10 hc5
    replace hO7 := hO7.upd0 hU10
    try replace hW := hW.trans0 hU10
    refine Wl_appendc (cs3 := [.slice a7 m7 c7]) (tot := 1) (by first | rfl | exact (rows_app _ _).symm | simp) underlying41 (ti := Tryz.t32) (z := .slice none 0 0) (sz := 1) (by' := 24) rfl rfl rfl rfl rfl (by decide) rfl (Own.nil _ No _ _) rfl hs10.sl (by intro u hu; simp at hu; subst hu; rfl) (by omega) (by simp only [maxLen]; omega) (by omega) ?_
    intro a11 c11 w11 hU11 hzz11 hO11
    have hzw11 := hU11.size
    replace hs := hs.upd0 hU11
    replace HU := HU.trans0 hU11
    replace hO2 := hO2.upd0 hU11
    replace hS3 := hS3.upd0 hU11
    replace hOb3 := hOb3.upd0 hU11
    replace hOc3 := hOc3.upd0 hU11
    replace hOd3 := hOd3.upd0 hU11
    replace hc5 := cell_upd0 hU11 hc5
    replace hO7 := hO7.upd0 hU11
    try replace hW := hW.trans0 hU11
    replace hO11 := hO11.weak (R' := fun g => g = w10.heap.size) (fun g h => h.elim (fun x => x.elim) id)
    replace hO11 := hO11.tight
    have hl_hO11 := hO11.sl.len
    have hc_hO11 := hO11.sl.cap.1
    refine Was (.slice a11 1 c11) ?_
    refine Wl_nil (W_region ?_)
    refine Wmv (.int .i64 0) ?_
    refine Wl_v (r_add rfl rfl (show _ = (1 : Int) from by decide)) ?_
    refine Was (.int .i64 1) ?_
    refine Wl_nil ?_
    refine unrK_succ ?_
    refine W_seq (W_seq (W_region ?_))
    refine Wmv (.int .i64 1) ?_
    refine Wl_v (v := .bool true) (r_lt (a := 1) (b := 4) rfl rfl) ?_
    refine Wl_nil ?_
    refine W_cond_t rfl ?_
    refine W_skip (W_seq (W_block (W_seq ?_)))
    refine W_drawt rfl (l0 := tf 0 15) (by kernel_rfl) ?_
    refine Tk 0 (tf 1 15) rfl (YI_v (v := .slice a n c) rfl (fun w' hw' => r_mv (v := .slice a n c) rfl)) ?_
    refine Tk 1 (tf 2 15) rfl (YI_v (v := .slice a3 4 c3) rfl (fun w' hw' => r_mv (v := .slice a3 4 c3) rfl)) ?_
    refine Tk 2 (tf 3 15) rfl (YI_v (v := .int .i64 1) rfl (fun w' hw' => r_mv (v := .int .i64 1) rfl)) ?_
    obtain ⟨ib12, io12, ha12, hx12⟩ := Sl.at (hS3.sl) (i := 1) (by decide)
    have hc12 : w11.cell? ⟨ib12, io12 + 1 * 1, none⟩ = some (.slice jb3 kb3 qb3) := hx12 0 (by decide)
    refine Tk 3 (tf 4 15) rfl (YI_v (v := .pointer (some ⟨ib12, io12 + 1 * 1, none⟩)) rfl (fun w' hw' => r_idx (b := ib12) (off := io12) (m := 4) (c := c3) (o' := io12 + 1 * 1) underlying41 sizeOf32 (by rw [← ha12]; rfl) rfl (by omega) (by omega) (by omega))) ?_
    refine Tk 4 (tf 5 15) rfl (YI_v (v := .slice jb3 kb3 qb3) rfl (fun w' hw' => r_load isAgg32 rfl (hw'.cellk hc12))) ?_
    refine Tk 5 (tf 6 15) rfl (YI_v (v := .slice a2x 4 c2) rfl (fun w' hw' => r_mv (v := .slice a2x 4 c2) rfl)) ?_
    refine Tk 6 (tf 7 15) rfl (YI_v (v := .int .i64 1) rfl (fun w' hw' => r_mv (v := .int .i64 1) rfl)) ?_
    obtain ⟨ib13, io13, ha13, hib13, hc13⟩ := (hO2.sl).iat (i := 1) (by omega)
    replace hib13 : ((w1.heap.size ≤ ib13) ∧ ib13 < w2.heap.size) := hib13
    refine Tk 7 (tf 8 15) rfl (YI_v (v := .pointer (some ⟨ib13, io13 + 1, none⟩)) rfl (fun w' hw' => r_idx (b := ib13) (off := io13) (m := 4) (c := c2) (o' := io13 + 1) underlying22 sizeOf3 (by rw [← ha13]; rfl) rfl (by omega) (by omega) (by omega))) ?_
    refine Tk 8 (tf 9 15) rfl (YI_v (v := .int .i64 ([(nn + 3) / 4, (nn + 3) / 4, (nn + 3) / 4, nn - 3 * ((nn + 3) / 4)].getD 1 0)) rfl (fun w' hw' => r_load isAgg3 rfl (hw'.cellk hc13))) ?_
    rw [show ([(nn + 3) / 4, (nn + 3) / 4, (nn + 3) / 4, nn - 3 * ((nn + 3) / 4)].getD 1 0 : Int) = (nn + 3) / 4 from rfl]
    intro w14 hU14
    have hzw14 := hU14.size
    replace hs := hs.upd0 hU14
    replace HU := HU.trans0 hU14
    replace hO2 := hO2.upd0 hU14
    replace hS3 := hS3.upd0 hU14
    replace hOb3 := hOb3.upd0 hU14
    replace hOc3 := hOc3.upd0 hU14
    replace hOd3 := hOd3.upd0 hU14
    replace hc5 := cell_upd0 hU14 hc5
    replace hO7 := hO7.upd0 hU14
    replace hO11 := hO11.upd0 hU14
    replace hc13 := cell_upd0 hU14 hc13
    try replace hW := hW.trans0 hU14
    refine Wa_one (i := 9) (listed' := tf 10 15) (by kernel_rfl) rfl (by kernel_rfl) ?_
    refine Ws_of_Wl ?_
    have hW : Upd No w11 w14 := hU14
    refine Wl_call (r_call3 rfl call67 rfl rfl rfl) (rdec_spec _ hs (by omega) hOb3.any (gby_byt hb _ _) (by omega) (by omega)) ?_
    rintro v w15 ⟨a15, m15, c15, rfl, hO15, hU15⟩
    have hzw15 := hU15.size
    replace hs := hs.upd0 hU15
    replace HU := HU.trans0 hU15
    replace hO2 := hO2.upd0 hU15
    replace hS3 := hS3.upd0 hU15
    replace hOc3 := hOc3.upd0 hU15
    replace hOd3 := hOd3.upd0 hU15
    replace hc5 := cell_upd0 hU15 hc5
    replace hO7 := hO7.upd0 hU15
    replace hO11 := hO11.upd0 hU15
    replace hc13 := cell_upd0 hU15 hc13
    try replace hW := hW.trans0 hU15
    replace hO15 := hO15.tight
    have hl_hO15 := ilen hO15.sl
    have hc_hO15 := hO15.sl.cap.1
    have hdl15 := dcF_len (l := l) (b := (gbytes b (gbytes b (gnum b (gnum b (gnum b 0 131072).2.1 131072).2.1 131072).2.1 (gnum b 0 131072).1).2.1 (gnum b (gnum b 0 131072).2.1 131072).1).1) (gby_byt hb _ _) ((nn + 3) / 4)
    refine Wl_nil ?_
    intro w16 hS16
    refine ⟨fun h => absurd h (by rw [show barOp _ 9 = true from by kernel_rfl]; simp), fun _ => ⟨Upd No w16, ?_⟩⟩
    have hU16 := hS16.upd
    have hzw16 := hU16.size
    replace hs := hs.upd0 hU16
    replace HU := HU.trans0 hU16
    replace hO2 := hO2.upd0 hU16
    replace hS3 := hS3.upd0 hU16
    replace hOc3 := hOc3.upd0 hU16
    replace hOd3 := hOd3.upd0 hU16
    replace hc5 := cell_upd0 hU16 hc5
    replace hO7 := hO7.upd0 hU16
    replace hO11 := hO11.upd0 hU16
    replace hc13 := cell_upd0 hU16 hc13
    replace hO15 := hO15.upd0 hU16
    try replace hW := hW.trans0 hU16
    refine Wt_base (Upd.refl _ _) ?_
    refine Tk 10 (tf 11 15) rfl (YI_v (v := .tuple #[.slice a15 m15 c15, .int .i64 ((dcF l ((gbytes b (gbytes b (gnum b (gnum b (gnum b 0 131072).2.1 131072).2.1 131072).2.1 (gnum b 0 131072).1).2.1 (gnum b (gnum b 0 131072).2.1 131072).1).1) ((nn + 3) / 4)).2)]) rfl (fun w' hw' => r_mv (v := .tuple #[.slice a15 m15 c15, .int .i64 ((dcF l ((gbytes b (gbytes b (gnum b (gnum b (gnum b 0 131072).2.1 131072).2.1 131072).2.1 (gnum b 0 131072).1).2.1 (gnum b (gnum b 0 131072).2.1 131072).1).1) ((nn + 3) / 4)).2)]) rfl)) ?_
    refine Tk 11 (tf 12 15) rfl (YI_v (v := .slice a15 m15 c15) rfl (fun w' hw' => r_ext (v := .slice a15 m15 c15) rfl rfl)) ?_
    refine Tk 12 (tf 13 15) rfl (YI_v (v := .int .i64 ((dcF l ((gbytes b (gbytes b (gnum b (gnum b (gnum b 0 131072).2.1 131072).2.1 131072).2.1 (gnum b 0 131072).1).2.1 (gnum b (gnum b 0 131072).2.1 131072).1).1) ((nn + 3) / 4)).2)) rfl (fun w' hw' => r_ext (v := .int .i64 ((dcF l ((gbytes b (gbytes b (gnum b (gnum b (gnum b 0 131072).2.1 131072).2.1 131072).2.1 (gnum b 0 131072).1).2.1 (gnum b (gnum b 0 131072).2.1 131072).1).1) ((nn + 3) / 4)).2)) rfl rfl)) ?_
    refine Tk 13 (tf 14 15) rfl (YI_v (v := .slice a15 m15 c15) rfl (fun w' hw' => r_as (v := .slice a15 m15 c15) rfl)) ?_
    refine Tk 14 (tf 15 15) rfl (YI_v (v := .int .i64 ((dcF l ((gbytes b (gbytes b (gnum b (gnum b (gnum b 0 131072).2.1 131072).2.1 131072).2.1 (gnum b 0 131072).1).2.1 (gnum b (gnum b 0 131072).2.1 131072).1).1) ((nn + 3) / 4)).2)) rfl (fun w' hw' => r_as (v := .int .i64 ((dcF l ((gbytes b (gbytes b (gnum b (gnum b (gnum b 0 131072).2.1 131072).2.1 131072).2.1 (gnum b 0 131072).1).2.1 (gnum b (gnum b 0 131072).2.1 131072).1).1) ((nn + 3) / 4)).2)) rfl)) ?_
    intro w17 hU17
    have hzw17 := hU17.size
    replace hs := hs.upd0 hU17
    replace HU := HU.trans0 hU17
    replace hO2 := hO2.upd0 hU17
    replace hS3 := hS3.upd0 hU17
    replace hOc3 := hOc3.upd0 hU17
    replace hOd3 := hOd3.upd0 hU17
    replace hc5 := cell_upd0 hU17 hc5
    replace hO7 := hO7.upd0 hU17
    replace hO11 := hO11.upd0 hU17
    replace hc13 := cell_upd0 hU17 hc13
    replace hO15 := hO15.upd0 hU17
    try replace hW := hW.trans0 hU17
    refine Wa_done (by kernel_rfl) ?_
    refine W_seq (W_seq (W_region ?_))
    refine Wmv (.int .i64 ((dcF l ((gbytes b (gbytes b (gnum b (gnum b (gnum b 0 131072).2.1 131072).2.1 131072).2.1 (gnum b 0 131072).1).2.1 (gnum b (gnum b 0 131072).2.1 131072).1).1) ((nn + 3) / 4)).2)) ?_
    refine Wl_v (r_ne rfl rfl) ?_
    refine Wl_nil ?_
    by_cases q5 : ((dcF l ((gbytes b (gbytes b (gnum b (gnum b (gnum b 0 131072).2.1 131072).2.1 131072).2.1 (gnum b 0 131072).1).2.1 (gnum b (gnum b 0 131072).2.1 131072).1).1) ((nn + 3) / 4)).2) ≠ 0
    ·rw [decide_eq_true q5]
     refine W_cond_t rfl ?_
     refine W_seq (W_region ?_)
     refine Wmv (.slice a11 1 c11) ?_
     refine Wmv (.int .i64 ((dcF l ((gbytes b (gbytes b (gnum b (gnum b (gnum b 0 131072).2.1 131072).2.1 131072).2.1 (gnum b 0 131072).1).2.1 (gnum b (gnum b 0 131072).2.1 131072).1).1) ((nn + 3) / 4)).2)) ?_
     refine Was (.slice a11 1 c11) ?_
     refine Was (.int .i64 ((dcF l ((gbytes b (gbytes b (gnum b (gnum b (gnum b 0 131072).2.1 131072).2.1 131072).2.1 (gnum b 0 131072).1).2.1 (gnum b (gnum b 0 131072).2.1 131072).1).1) ((nn + 3) / 4)).2)) ?_
     refine Wl_nil ?_
     refine W_ret ?_
     refine ret_end (v := .tuple #[.slice a11 1 c11, .int .i64 ((dcF l ((gbytes b (gbytes b (gnum b (gnum b (gnum b 0 131072).2.1 131072).2.1 131072).2.1 (gnum b 0 131072).1).2.1 (gnum b (gnum b 0 131072).2.1 131072).1).1) ((nn + 3) / 4)).2)]) rfl (res2 results31 rfl rfl) ?_
     have hN : nE l b nn = 1 := nE_2 ((hdF_e (l := l) (b := b) (n := nn) q1 q2).trans q3) (Classical.not_not.1 q4) q5
     have hF : (d4F l b nn).2 = (dcF l ((gbytes b (gbytes b (gnum b (gnum b (gnum b 0 131072).2.1 131072).2.1 131072).2.1 (gnum b 0 131072).1).2.1 (gnum b (gnum b 0 131072).2.1 131072).1).1) ((nn + 3) / 4)).2 := by rw [show d4F l b nn = ([], (dcF l ((gbytes b (gbytes b (gnum b (gnum b (gnum b 0 131072).2.1 131072).2.1 131072).2.1 (gnum b 0 131072).1).2.1 (gnum b (gnum b 0 131072).2.1 131072).1).1) ((nn + 3) / 4)).2) from d4F_2 ((hdF_e (l := l) (b := b) (n := nn) q1 q2).trans q3) (Classical.not_not.1 q4) q5]
     exact ⟨_, rfl, a11, c11, w17.heap.size, by rw [hN, hF], by rw [hN]; exact Rws.of (hO11.sl.weak (by intro g hg; have h3 : ((g = w10.heap.size) ∧ g < w11.heap.size) := hg; show w.heap.size ≤ g ∧ g < w17.heap.size; omega)) (fun i hi => match i, hi with | 0, _ => ⟨_, _, _, rfl, (hO7.sl.weak (by intro g hg; have h3 : ((w6.heap.size ≤ g) ∧ g < w7.heap.size) := hg; show w.heap.size ≤ g ∧ g < w17.heap.size; omega))⟩), Nat.le_refl _, HU⟩
    rw [decide_eq_false q5]
    refine W_cond_f rfl ?_
    refine W_skip (W_region ?_)
    refine Wmv (.slice a11 1 c11) ?_
    refine Wmv (.slice a15 m15 c15) ?_
    refine Wl_lit (pv := [(0, .slice a15 m15 c15)]) (cs := [.slice a15 m15 c15]) underlying41 sizeOf32 zeroValue32 (by decide) (by decide) (by simp only [List.map_toArray, List.map_cons, List.map_nil] <;> rfl) (by kernel_rfl) rfl (by decide) ?_
    intro B18 w18 hB18 hU18 hzz18 hs18
    have hzw18 := hU18.size
    replace hs := hs.upd0 hU18
    replace HU := HU.trans0 hU18
    replace hO2 := hO2.upd0 hU18
    replace hS3 := hS3.upd0 hU18
    replace hOc3 := hOc3.upd0 hU18
    replace hOd3 := hOd3.upd0 hU18
    replace hc5 := cell_upd0 hU18 hc5
    replace hO7 := hO7.upd0 hU18
    replace hO11 := hO11.upd0 hU18
    replace hc13 := cell_upd0 hU18 hc13
    replace hO15 := hO15.upd0 hU18
    try replace hW := hW.trans0 hU18
    refine Wl_appendc (cs3 := [.slice a7 m7 c7, .slice a15 m15 c15]) (tot := 2) (by first | rfl | exact (rows_app _ _).symm | simp) underlying41 (ti := Tryz.t32) (z := .slice none 0 0) (sz := 1) (by' := 24) rfl rfl rfl rfl rfl (by decide) rfl hO11 rfl hs18.sl (by intro u hu; simp at hu; subst hu; rfl) (by omega) (by simp only [maxLen]; omega) (by omega) ?_
    intro a19 c19 w19 hU19 hzz19 hO19
    clear hO11
    have hzw19 := hU19.size
    replace hs := hs.upd hU19 (by intro x h1 h2; have h3 : ((R x) ∧ x < w.heap.size) := h1; have h4 : ((x = w10.heap.size) ∧ x < w11.heap.size) := h2; omega)
    replace HU := HU.trans hU19 (by intro x hx; have hx2 : ((x = w10.heap.size) ∧ x < w11.heap.size) := hx; show (False) ∨ w.heap.size ≤ x; omega)
    replace hO2 := hO2.upd hU19 (by intro x h1 h2; have h3 : ((w1.heap.size ≤ x) ∧ x < w2.heap.size) := h1; have h4 : ((x = w10.heap.size) ∧ x < w11.heap.size) := h2; omega)
    replace hS3 := hS3.upd hU19 (by intro x h1 h2; have h3 : ((w2.heap.size ≤ x) ∧ x < w3.heap.size) := h1; have h4 : ((x = w10.heap.size) ∧ x < w11.heap.size) := h2; omega)
    replace hOc3 := hOc3.upd hU19 (by intro x h1 h2; have h3 : x < w.heap.size := h1; have h4 : ((x = w10.heap.size) ∧ x < w11.heap.size) := h2; omega)
    replace hOd3 := hOd3.upd hU19 (by intro x h1 h2; have h3 : x < w.heap.size := h1; have h4 : ((x = w10.heap.size) ∧ x < w11.heap.size) := h2; omega)
    replace hO7 := hO7.upd hU19 (by intro x h1 h2; have h3 : ((w6.heap.size ≤ x) ∧ x < w7.heap.size) := h1; have h4 : ((x = w10.heap.size) ∧ x < w11.heap.size) := h2; omega)
    replace hO15 := hO15.upd hU19 (by intro x h1 h2; have h3 : ((w14.heap.size ≤ x) ∧ x < w15.heap.size) := h1; have h4 : ((x = w10.heap.size) ∧ x < w11.heap.size) := h2; omega)
    replace hO19 := hO19.tight
    have hl_hO19 := hO19.sl.len
    have hc_hO19 := hO19.sl.cap.1
    refine Was (.slice a19 2 c19) ?_
    refine Wl_nil (W_region ?_)
    refine Wmv (.int .i64 1) ?_
    refine Wl_v (r_add rfl rfl (show _ = (2 : Int) from by decide)) ?_
    refine Was (.int .i64 2) ?_
    refine Wl_nil ?_
    refine unrK_succ ?_
    refine W_seq (W_seq (W_region ?_))
    refine Wmv (.int .i64 2) ?_
    refine Wl_v (v := .bool true) (r_lt (a := 2) (b := 4) rfl rfl) ?_
    refine Wl_nil ?_
    refine W_cond_t rfl ?_
    refine W_skip (W_seq (W_block (W_seq ?_)))
    refine W_drawt rfl (l0 := tf 0 15) (by kernel_rfl) ?_
    refine Tk 0 (tf 1 15) rfl (YI_v (v := .slice a n c) rfl (fun w' hw' => r_mv (v := .slice a n c) rfl)) ?_
    refine Tk 1 (tf 2 15) rfl (YI_v (v := .slice a3 4 c3) rfl (fun w' hw' => r_mv (v := .slice a3 4 c3) rfl)) ?_
    refine Tk 2 (tf 3 15) rfl (YI_v (v := .int .i64 2) rfl (fun w' hw' => r_mv (v := .int .i64 2) rfl)) ?_
    obtain ⟨ib20, io20, ha20, hx20⟩ := Sl.at (hS3.sl) (i := 2) (by decide)
    have hc20 : w19.cell? ⟨ib20, io20 + 2 * 1, none⟩ = some (.slice jc3 kc3 qc3) := hx20 0 (by decide)
    refine Tk 3 (tf 4 15) rfl (YI_v (v := .pointer (some ⟨ib20, io20 + 2 * 1, none⟩)) rfl (fun w' hw' => r_idx (b := ib20) (off := io20) (m := 4) (c := c3) (o' := io20 + 2 * 1) underlying41 sizeOf32 (by rw [← ha20]; rfl) rfl (by omega) (by omega) (by omega))) ?_
    refine Tk 4 (tf 5 15) rfl (YI_v (v := .slice jc3 kc3 qc3) rfl (fun w' hw' => r_load isAgg32 rfl (hw'.cellk hc20))) ?_
    refine Tk 5 (tf 6 15) rfl (YI_v (v := .slice a2x 4 c2) rfl (fun w' hw' => r_mv (v := .slice a2x 4 c2) rfl)) ?_
    refine Tk 6 (tf 7 15) rfl (YI_v (v := .int .i64 2) rfl (fun w' hw' => r_mv (v := .int .i64 2) rfl)) ?_
    obtain ⟨ib21, io21, ha21, hib21, hc21⟩ := (hO2.sl).iat (i := 2) (by omega)
    replace hib21 : ((w1.heap.size ≤ ib21) ∧ ib21 < w2.heap.size) := hib21
    refine Tk 7 (tf 8 15) rfl (YI_v (v := .pointer (some ⟨ib21, io21 + 2, none⟩)) rfl (fun w' hw' => r_idx (b := ib21) (off := io21) (m := 4) (c := c2) (o' := io21 + 2) underlying22 sizeOf3 (by rw [← ha21]; rfl) rfl (by omega) (by omega) (by omega))) ?_
    refine Tk 8 (tf 9 15) rfl (YI_v (v := .int .i64 ([(nn + 3) / 4, (nn + 3) / 4, (nn + 3) / 4, nn - 3 * ((nn + 3) / 4)].getD 2 0)) rfl (fun w' hw' => r_load isAgg3 rfl (hw'.cellk hc21))) ?_
    rw [show ([(nn + 3) / 4, (nn + 3) / 4, (nn + 3) / 4, nn - 3 * ((nn + 3) / 4)].getD 2 0 : Int) = (nn + 3) / 4 from rfl]
    intro w22 hU22
    have hzw22 := hU22.size
    replace hs := hs.upd0 hU22
    replace HU := HU.trans0 hU22
    replace hO2 := hO2.upd0 hU22
    replace hS3 := hS3.upd0 hU22
    replace hOc3 := hOc3.upd0 hU22
    replace hOd3 := hOd3.upd0 hU22
    replace hO7 := hO7.upd0 hU22
    replace hO15 := hO15.upd0 hU22
    replace hO19 := hO19.upd0 hU22
    replace hc21 := cell_upd0 hU22 hc21
    try replace hW := hW.trans0 hU22
    refine Wa_one (i := 9) (listed' := tf 10 15) (by kernel_rfl) rfl (by kernel_rfl) ?_
    refine Ws_of_Wl ?_
    have hW : Upd No w19 w22 := hU22
    refine Wl_call (r_call3 rfl call67 rfl rfl rfl) (rdec_spec _ hs (by omega) hOc3.any (gby_byt hb _ _) (by omega) (by omega)) ?_
    rintro v w23 ⟨a23, m23, c23, rfl, hO23, hU23⟩
    have hzw23 := hU23.size
    replace hs := hs.upd0 hU23
    replace HU := HU.trans0 hU23
    replace hO2 := hO2.upd0 hU23
    replace hS3 := hS3.upd0 hU23
    replace hOd3 := hOd3.upd0 hU23
    replace hO7 := hO7.upd0 hU23
    replace hO15 := hO15.upd0 hU23
    replace hO19 := hO19.upd0 hU23
    replace hc21 := cell_upd0 hU23 hc21
    try replace hW := hW.trans0 hU23
    replace hO23 := hO23.tight
    have hl_hO23 := ilen hO23.sl
    have hc_hO23 := hO23.sl.cap.1
    have hdl23 := dcF_len (l := l) (b := (gbytes b (gbytes b (gbytes b (gnum b (gnum b (gnum b 0 131072).2.1 131072).2.1 131072).2.1 (gnum b 0 131072).1).2.1 (gnum b (gnum b 0 131072).2.1 131072).1).2.1 (gnum b (gnum b (gnum b 0 131072).2.1 131072).2.1 131072).1).1) (gby_byt hb _ _) ((nn + 3) / 4)
    refine Wl_nil ?_
    intro w24 hS24
    refine ⟨fun h => absurd h (by rw [show barOp _ 9 = true from by kernel_rfl]; simp), fun _ => ⟨Upd No w24, ?_⟩⟩
    have hU24 := hS24.upd
    have hzw24 := hU24.size
    replace hs := hs.upd0 hU24
    replace HU := HU.trans0 hU24
    replace hO2 := hO2.upd0 hU24
    replace hS3 := hS3.upd0 hU24
    replace hOd3 := hOd3.upd0 hU24
    replace hO7 := hO7.upd0 hU24
    replace hO15 := hO15.upd0 hU24
    replace hO19 := hO19.upd0 hU24
    replace hc21 := cell_upd0 hU24 hc21
    replace hO23 := hO23.upd0 hU24
    try replace hW := hW.trans0 hU24
    refine Wt_base (Upd.refl _ _) ?_
    refine Tk 10 (tf 11 15) rfl (YI_v (v := .tuple #[.slice a23 m23 c23, .int .i64 ((dcF l ((gbytes b (gbytes b (gbytes b (gnum b (gnum b (gnum b 0 131072).2.1 131072).2.1 131072).2.1 (gnum b 0 131072).1).2.1 (gnum b (gnum b 0 131072).2.1 131072).1).2.1 (gnum b (gnum b (gnum b 0 131072).2.1 131072).2.1 131072).1).1) ((nn + 3) / 4)).2)]) rfl (fun w' hw' => r_mv (v := .tuple #[.slice a23 m23 c23, .int .i64 ((dcF l ((gbytes b (gbytes b (gbytes b (gnum b (gnum b (gnum b 0 131072).2.1 131072).2.1 131072).2.1 (gnum b 0 131072).1).2.1 (gnum b (gnum b 0 131072).2.1 131072).1).2.1 (gnum b (gnum b (gnum b 0 131072).2.1 131072).2.1 131072).1).1) ((nn + 3) / 4)).2)]) rfl)) ?_
    refine Tk 11 (tf 12 15) rfl (YI_v (v := .slice a23 m23 c23) rfl (fun w' hw' => r_ext (v := .slice a23 m23 c23) rfl rfl)) ?_
    refine Tk 12 (tf 13 15) rfl (YI_v (v := .int .i64 ((dcF l ((gbytes b (gbytes b (gbytes b (gnum b (gnum b (gnum b 0 131072).2.1 131072).2.1 131072).2.1 (gnum b 0 131072).1).2.1 (gnum b (gnum b 0 131072).2.1 131072).1).2.1 (gnum b (gnum b (gnum b 0 131072).2.1 131072).2.1 131072).1).1) ((nn + 3) / 4)).2)) rfl (fun w' hw' => r_ext (v := .int .i64 ((dcF l ((gbytes b (gbytes b (gbytes b (gnum b (gnum b (gnum b 0 131072).2.1 131072).2.1 131072).2.1 (gnum b 0 131072).1).2.1 (gnum b (gnum b 0 131072).2.1 131072).1).2.1 (gnum b (gnum b (gnum b 0 131072).2.1 131072).2.1 131072).1).1) ((nn + 3) / 4)).2)) rfl rfl)) ?_
    refine Tk 13 (tf 14 15) rfl (YI_v (v := .slice a23 m23 c23) rfl (fun w' hw' => r_as (v := .slice a23 m23 c23) rfl)) ?_
    refine Tk 14 (tf 15 15) rfl (YI_v (v := .int .i64 ((dcF l ((gbytes b (gbytes b (gbytes b (gnum b (gnum b (gnum b 0 131072).2.1 131072).2.1 131072).2.1 (gnum b 0 131072).1).2.1 (gnum b (gnum b 0 131072).2.1 131072).1).2.1 (gnum b (gnum b (gnum b 0 131072).2.1 131072).2.1 131072).1).1) ((nn + 3) / 4)).2)) rfl (fun w' hw' => r_as (v := .int .i64 ((dcF l ((gbytes b (gbytes b (gbytes b (gnum b (gnum b (gnum b 0 131072).2.1 131072).2.1 131072).2.1 (gnum b 0 131072).1).2.1 (gnum b (gnum b 0 131072).2.1 131072).1).2.1 (gnum b (gnum b (gnum b 0 131072).2.1 131072).2.1 131072).1).1) ((nn + 3) / 4)).2)) rfl)) ?_
    intro w25 hU25
    have hzw25 := hU25.size
    replace hs := hs.upd0 hU25
    replace HU := HU.trans0 hU25
    replace hO2 := hO2.upd0 hU25
    replace hS3 := hS3.upd0 hU25
    replace hOd3 := hOd3.upd0 hU25
    replace hO7 := hO7.upd0 hU25
    replace hO15 := hO15.upd0 hU25
    replace hO19 := hO19.upd0 hU25
    replace hc21 := cell_upd0 hU25 hc21
    replace hO23 := hO23.upd0 hU25
    try replace hW := hW.trans0 hU25
    refine Wa_done (by kernel_rfl) ?_
    refine W_seq (W_seq (W_region ?_))
    refine Wmv (.int .i64 ((dcF l ((gbytes b (gbytes b (gbytes b (gnum b (gnum b (gnum b 0 131072).2.1 131072).2.1 131072).2.1 (gnum b 0 131072).1).2.1 (gnum b (gnum b 0 131072).2.1 131072).1).2.1 (gnum b (gnum b (gnum b 0 131072).2.1 131072).2.1 131072).1).1) ((nn + 3) / 4)).2)) ?_
    refine Wl_v (r_ne rfl rfl) ?_
    refine Wl_nil ?_
    by_cases q6 : ((dcF l ((gbytes b (gbytes b (gbytes b (gnum b (gnum b (gnum b 0 131072).2.1 131072).2.1 131072).2.1 (gnum b 0 131072).1).2.1 (gnum b (gnum b 0 131072).2.1 131072).1).2.1 (gnum b (gnum b (gnum b 0 131072).2.1 131072).2.1 131072).1).1) ((nn + 3) / 4)).2) ≠ 0
    ·rw [decide_eq_true q6]
     refine W_cond_t rfl ?_
     refine W_seq (W_region ?_)
     refine Wmv (.slice a19 2 c19) ?_
     refine Wmv (.int .i64 ((dcF l ((gbytes b (gbytes b (gbytes b (gnum b (gnum b (gnum b 0 131072).2.1 131072).2.1 131072).2.1 (gnum b 0 131072).1).2.1 (gnum b (gnum b 0 131072).2.1 131072).1).2.1 (gnum b (gnum b (gnum b 0 131072).2.1 131072).2.1 131072).1).1) ((nn + 3) / 4)).2)) ?_
     refine Was (.slice a19 2 c19) ?_
     refine Was (.int .i64 ((dcF l ((gbytes b (gbytes b (gbytes b (gnum b (gnum b (gnum b 0 131072).2.1 131072).2.1 131072).2.1 (gnum b 0 131072).1).2.1 (gnum b (gnum b 0 131072).2.1 131072).1).2.1 (gnum b (gnum b (gnum b 0 131072).2.1 131072).2.1 131072).1).1) ((nn + 3) / 4)).2)) ?_
     refine Wl_nil ?_
     refine W_ret ?_
     refine ret_end (v := .tuple #[.slice a19 2 c19, .int .i64 ((dcF l ((gbytes b (gbytes b (gbytes b (gnum b (gnum b (gnum b 0 131072).2.1 131072).2.1 131072).2.1 (gnum b 0 131072).1).2.1 (gnum b (gnum b 0 131072).2.1 131072).1).2.1 (gnum b (gnum b (gnum b 0 131072).2.1 131072).2.1 131072).1).1) ((nn + 3) / 4)).2)]) rfl (res2 results31 rfl rfl) ?_
     have hN : nE l b nn = 2 := nE_3 ((hdF_e (l := l) (b := b) (n := nn) q1 q2).trans q3) (Classical.not_not.1 q4) (Classical.not_not.1 q5) q6
     have hF : (d4F l b nn).2 = (dcF l ((gbytes b (gbytes b (gbytes b (gnum b (gnum b (gnum b 0 131072).2.1 131072).2.1 131072).2.1 (gnum b 0 131072).1).2.1 (gnum b (gnum b 0 131072).2.1 131072).1).2.1 (gnum b (gnum b (gnum b 0 131072).2.1 131072).2.1 131072).1).1) ((nn + 3) / 4)).2 := by rw [show d4F l b nn = ([], (dcF l ((gbytes b (gbytes b (gbytes b (gnum b (gnum b (gnum b 0 131072).2.1 131072).2.1 131072).2.1 (gnum b 0 131072).1).2.1 (gnum b (gnum b 0 131072).2.1 131072).1).2.1 (gnum b (gnum b (gnum b 0 131072).2.1 131072).2.1 131072).1).1) ((nn + 3) / 4)).2) from d4F_3 ((hdF_e (l := l) (b := b) (n := nn) q1 q2).trans q3) (Classical.not_not.1 q4) (Classical.not_not.1 q5) q6]
     exact ⟨_, rfl, a19, c19, w25.heap.size, by rw [hN, hF], by rw [hN]; exact Rws.of (hO19.sl.weak (by intro g hg; have h3 : ((((((g = w10.heap.size) ∧ g < w11.heap.size)) ∨ g = w18.heap.size)) ∧ g < w19.heap.size) := hg; show w.heap.size ≤ g ∧ g < w25.heap.size; omega)) (fun i hi => match i, hi with | 0, _ => ⟨_, _, _, rfl, (hO7.sl.weak (by intro g hg; have h3 : ((w6.heap.size ≤ g) ∧ g < w7.heap.size) := hg; show w.heap.size ≤ g ∧ g < w25.heap.size; omega))⟩ | 1, _ => ⟨_, _, _, rfl, (hO15.sl.weak (by intro g hg; have h3 : ((w14.heap.size ≤ g) ∧ g < w15.heap.size) := hg; show w.heap.size ≤ g ∧ g < w25.heap.size; omega))⟩), Nat.le_refl _, HU⟩
    rw [decide_eq_false q6]
    refine W_cond_f rfl ?_
    refine W_skip (W_region ?_)
    refine Wmv (.slice a19 2 c19) ?_
    refine Wmv (.slice a23 m23 c23) ?_
    refine Wl_lit (pv := [(0, .slice a23 m23 c23)]) (cs := [.slice a23 m23 c23]) underlying41 sizeOf32 zeroValue32 (by decide) (by decide) (by simp only [List.map_toArray, List.map_cons, List.map_nil] <;> rfl) (by kernel_rfl) rfl (by decide) ?_
    intro B26 w26 hB26 hU26 hzz26 hs26
    have hzw26 := hU26.size
    replace hs := hs.upd0 hU26
    replace HU := HU.trans0 hU26
    replace hO2 := hO2.upd0 hU26
    replace hS3 := hS3.upd0 hU26
    replace hOd3 := hOd3.upd0 hU26
    replace hO7 := hO7.upd0 hU26
    replace hO15 := hO15.upd0 hU26
    replace hO19 := hO19.upd0 hU26
    replace hc21 := cell_upd0 hU26 hc21
    replace hO23 := hO23.upd0 hU26
    try replace hW := hW.trans0 hU26
    refine Wl_appendc (cs3 := [.slice a7 m7 c7, .slice a15 m15 c15, .slice a23 m23 c23]) (tot := 3) (by first | rfl | exact (rows_app _ _).symm | simp) underlying41 (ti := Tryz.t32) (z := .slice none 0 0) (sz := 1) (by' := 24) rfl rfl rfl rfl rfl (by decide) rfl hO19 rfl hs26.sl (by intro u hu; simp at hu; subst hu; rfl) (by omega) (by simp only [maxLen]; omega) (by omega) ?_
    intro a27 c27 w27 hU27 hzz27 hO27
    clear hO19
    have hzw27 := hU27.size
    replace hs := hs.upd hU27 (by intro x h1 h2; have h3 : ((R x) ∧ x < w.heap.size) := h1; have h4 : ((((((x = w10.heap.size) ∧ x < w11.heap.size)) ∨ x = w18.heap.size)) ∧ x < w19.heap.size) := h2; omega)
    replace HU := HU.trans hU27 (by intro x hx; have hx2 : ((((((x = w10.heap.size) ∧ x < w11.heap.size)) ∨ x = w18.heap.size)) ∧ x < w19.heap.size) := hx; show (False) ∨ w.heap.size ≤ x; omega)
    replace hO2 := hO2.upd hU27 (by intro x h1 h2; have h3 : ((w1.heap.size ≤ x) ∧ x < w2.heap.size) := h1; have h4 : ((((((x = w10.heap.size) ∧ x < w11.heap.size)) ∨ x = w18.heap.size)) ∧ x < w19.heap.size) := h2; omega)
    replace hS3 := hS3.upd hU27 (by intro x h1 h2; have h3 : ((w2.heap.size ≤ x) ∧ x < w3.heap.size) := h1; have h4 : ((((((x = w10.heap.size) ∧ x < w11.heap.size)) ∨ x = w18.heap.size)) ∧ x < w19.heap.size) := h2; omega)
    replace hOd3 := hOd3.upd hU27 (by intro x h1 h2; have h3 : x < w.heap.size := h1; have h4 : ((((((x = w10.heap.size) ∧ x < w11.heap.size)) ∨ x = w18.heap.size)) ∧ x < w19.heap.size) := h2; omega)
    replace hO7 := hO7.upd hU27 (by intro x h1 h2; have h3 : ((w6.heap.size ≤ x) ∧ x < w7.heap.size) := h1; have h4 : ((((((x = w10.heap.size) ∧ x < w11.heap.size)) ∨ x = w18.heap.size)) ∧ x < w19.heap.size) := h2; omega)
    replace hO15 := hO15.upd hU27 (by intro x h1 h2; have h3 : ((w14.heap.size ≤ x) ∧ x < w15.heap.size) := h1; have h4 : ((((((x = w10.heap.size) ∧ x < w11.heap.size)) ∨ x = w18.heap.size)) ∧ x < w19.heap.size) := h2; omega)
    replace hO23 := hO23.upd hU27 (by intro x h1 h2; have h3 : ((w22.heap.size ≤ x) ∧ x < w23.heap.size) := h1; have h4 : ((((((x = w10.heap.size) ∧ x < w11.heap.size)) ∨ x = w18.heap.size)) ∧ x < w19.heap.size) := h2; omega)
    replace hO27 := hO27.tight
    have hl_hO27 := hO27.sl.len
    have hc_hO27 := hO27.sl.cap.1
    refine Was (.slice a27 3 c27) ?_
    refine Wl_nil (W_region ?_)
    refine Wmv (.int .i64 2) ?_
    refine Wl_v (r_add rfl rfl (show _ = (3 : Int) from by decide)) ?_
    refine Was (.int .i64 3) ?_
    refine Wl_nil ?_
    refine unrK_succ ?_
    refine W_seq (W_seq (W_region ?_))
    refine Wmv (.int .i64 3) ?_
    refine Wl_v (v := .bool true) (r_lt (a := 3) (b := 4) rfl rfl) ?_
    refine Wl_nil ?_
    refine W_cond_t rfl ?_
    refine W_skip (W_seq (W_block (W_seq ?_)))
    refine W_drawt rfl (l0 := tf 0 15) (by kernel_rfl) ?_
    refine Tk 0 (tf 1 15) rfl (YI_v (v := .slice a n c) rfl (fun w' hw' => r_mv (v := .slice a n c) rfl)) ?_
    refine Tk 1 (tf 2 15) rfl (YI_v (v := .slice a3 4 c3) rfl (fun w' hw' => r_mv (v := .slice a3 4 c3) rfl)) ?_
    refine Tk 2 (tf 3 15) rfl (YI_v (v := .int .i64 3) rfl (fun w' hw' => r_mv (v := .int .i64 3) rfl)) ?_
    obtain ⟨ib28, io28, ha28, hx28⟩ := Sl.at (hS3.sl) (i := 3) (by decide)
    have hc28 : w27.cell? ⟨ib28, io28 + 3 * 1, none⟩ = some (.slice jd3 kd3 qd3) := hx28 0 (by decide)
    refine Tk 3 (tf 4 15) rfl (YI_v (v := .pointer (some ⟨ib28, io28 + 3 * 1, none⟩)) rfl (fun w' hw' => r_idx (b := ib28) (off := io28) (m := 4) (c := c3) (o' := io28 + 3 * 1) underlying41 sizeOf32 (by rw [← ha28]; rfl) rfl (by omega) (by omega) (by omega))) ?_
    refine Tk 4 (tf 5 15) rfl (YI_v (v := .slice jd3 kd3 qd3) rfl (fun w' hw' => r_load isAgg32 rfl (hw'.cellk hc28))) ?_
    refine Tk 5 (tf 6 15) rfl (YI_v (v := .slice a2x 4 c2) rfl (fun w' hw' => r_mv (v := .slice a2x 4 c2) rfl)) ?_
    refine Tk 6 (tf 7 15) rfl (YI_v (v := .int .i64 3) rfl (fun w' hw' => r_mv (v := .int .i64 3) rfl)) ?_
    obtain ⟨ib29, io29, ha29, hib29, hc29⟩ := (hO2.sl).iat (i := 3) (by omega)
    replace hib29 : ((w1.heap.size ≤ ib29) ∧ ib29 < w2.heap.size) := hib29
    refine Tk 7 (tf 8 15) rfl (YI_v (v := .pointer (some ⟨ib29, io29 + 3, none⟩)) rfl (fun w' hw' => r_idx (b := ib29) (off := io29) (m := 4) (c := c2) (o' := io29 + 3) underlying22 sizeOf3 (by rw [← ha29]; rfl) rfl (by omega) (by omega) (by omega))) ?_
    refine Tk 8 (tf 9 15) rfl (YI_v (v := .int .i64 ([(nn + 3) / 4, (nn + 3) / 4, (nn + 3) / 4, nn - 3 * ((nn + 3) / 4)].getD 3 0)) rfl (fun w' hw' => r_load isAgg3 rfl (hw'.cellk hc29))) ?_
    rw [show ([(nn + 3) / 4, (nn + 3) / 4, (nn + 3) / 4, nn - 3 * ((nn + 3) / 4)].getD 3 0 : Int) = nn - 3 * ((nn + 3) / 4) from rfl]
    intro w30 hU30
    have hzw30 := hU30.size
    replace hs := hs.upd0 hU30
    replace HU := HU.trans0 hU30
    replace hOd3 := hOd3.upd0 hU30
    replace hO7 := hO7.upd0 hU30
    replace hO15 := hO15.upd0 hU30
    replace hO23 := hO23.upd0 hU30
    replace hO27 := hO27.upd0 hU30
    replace hc29 := cell_upd0 hU30 hc29
    try replace hW := hW.trans0 hU30
    refine Wa_one (i := 9) (listed' := tf 10 15) (by kernel_rfl) rfl (by kernel_rfl) ?_
    refine Ws_of_Wl ?_
    have hW : Upd No w27 w30 := hU30
    refine Wl_call (r_call3 rfl call67 rfl rfl rfl) (rdec_spec _ hs (by omega) hOd3.any (hb.drop _) (by omega) (by omega)) ?_
    rintro v w31 ⟨a31, m31, c31, rfl, hO31, hU31⟩
    have hzw31 := hU31.size
    replace HU := HU.trans0 hU31
    replace hO7 := hO7.upd0 hU31
    replace hO15 := hO15.upd0 hU31
    replace hO23 := hO23.upd0 hU31
    replace hO27 := hO27.upd0 hU31
    replace hc29 := cell_upd0 hU31 hc29
    try replace hW := hW.trans0 hU31
    replace hO31 := hO31.tight
    have hl_hO31 := ilen hO31.sl
    have hc_hO31 := hO31.sl.cap.1
    have hdl31 := dcF_len (l := l) (b := b.drop (gbytes b (gbytes b (gbytes b (gnum b (gnum b (gnum b 0 131072).2.1 131072).2.1 131072).2.1 (gnum b 0 131072).1).2.1 (gnum b (gnum b 0 131072).2.1 131072).1).2.1 (gnum b (gnum b (gnum b 0 131072).2.1 131072).2.1 131072).1).2.1) (hb.drop _) (nn - 3 * ((nn + 3) / 4))
    refine Wl_nil ?_
    intro w32 hS32
    refine ⟨fun h => absurd h (by rw [show barOp _ 9 = true from by kernel_rfl]; simp), fun _ => ⟨Upd No w32, ?_⟩⟩
    have hU32 := hS32.upd
    have hzw32 := hU32.size
    replace HU := HU.trans0 hU32
    replace hO7 := hO7.upd0 hU32
    replace hO15 := hO15.upd0 hU32
    replace hO23 := hO23.upd0 hU32
    replace hO27 := hO27.upd0 hU32
    replace hc29 := cell_upd0 hU32 hc29
    replace hO31 := hO31.upd0 hU32
    try replace hW := hW.trans0 hU32
    refine Wt_base (Upd.refl _ _) ?_
    refine Tk 10 (tf 11 15) rfl (YI_v (v := .tuple #[.slice a31 m31 c31, .int .i64 ((dcF l (b.drop (gbytes b (gbytes b (gbytes b (gnum b (gnum b (gnum b 0 131072).2.1 131072).2.1 131072).2.1 (gnum b 0 131072).1).2.1 (gnum b (gnum b 0 131072).2.1 131072).1).2.1 (gnum b (gnum b (gnum b 0 131072).2.1 131072).2.1 131072).1).2.1) (nn - 3 * ((nn + 3) / 4))).2)]) rfl (fun w' hw' => r_mv (v := .tuple #[.slice a31 m31 c31, .int .i64 ((dcF l (b.drop (gbytes b (gbytes b (gbytes b (gnum b (gnum b (gnum b 0 131072).2.1 131072).2.1 131072).2.1 (gnum b 0 131072).1).2.1 (gnum b (gnum b 0 131072).2.1 131072).1).2.1 (gnum b (gnum b (gnum b 0 131072).2.1 131072).2.1 131072).1).2.1) (nn - 3 * ((nn + 3) / 4))).2)]) rfl)) ?_
    refine Tk 11 (tf 12 15) rfl (YI_v (v := .slice a31 m31 c31) rfl (fun w' hw' => r_ext (v := .slice a31 m31 c31) rfl rfl)) ?_
    refine Tk 12 (tf 13 15) rfl (YI_v (v := .int .i64 ((dcF l (b.drop (gbytes b (gbytes b (gbytes b (gnum b (gnum b (gnum b 0 131072).2.1 131072).2.1 131072).2.1 (gnum b 0 131072).1).2.1 (gnum b (gnum b 0 131072).2.1 131072).1).2.1 (gnum b (gnum b (gnum b 0 131072).2.1 131072).2.1 131072).1).2.1) (nn - 3 * ((nn + 3) / 4))).2)) rfl (fun w' hw' => r_ext (v := .int .i64 ((dcF l (b.drop (gbytes b (gbytes b (gbytes b (gnum b (gnum b (gnum b 0 131072).2.1 131072).2.1 131072).2.1 (gnum b 0 131072).1).2.1 (gnum b (gnum b 0 131072).2.1 131072).1).2.1 (gnum b (gnum b (gnum b 0 131072).2.1 131072).2.1 131072).1).2.1) (nn - 3 * ((nn + 3) / 4))).2)) rfl rfl)) ?_
    refine Tk 13 (tf 14 15) rfl (YI_v (v := .slice a31 m31 c31) rfl (fun w' hw' => r_as (v := .slice a31 m31 c31) rfl)) ?_
    refine Tk 14 (tf 15 15) rfl (YI_v (v := .int .i64 ((dcF l (b.drop (gbytes b (gbytes b (gbytes b (gnum b (gnum b (gnum b 0 131072).2.1 131072).2.1 131072).2.1 (gnum b 0 131072).1).2.1 (gnum b (gnum b 0 131072).2.1 131072).1).2.1 (gnum b (gnum b (gnum b 0 131072).2.1 131072).2.1 131072).1).2.1) (nn - 3 * ((nn + 3) / 4))).2)) rfl (fun w' hw' => r_as (v := .int .i64 ((dcF l (b.drop (gbytes b (gbytes b (gbytes b (gnum b (gnum b (gnum b 0 131072).2.1 131072).2.1 131072).2.1 (gnum b 0 131072).1).2.1 (gnum b (gnum b 0 131072).2.1 131072).1).2.1 (gnum b (gnum b (gnum b 0 131072).2.1 131072).2.1 131072).1).2.1) (nn - 3 * ((nn + 3) / 4))).2)) rfl)) ?_
    intro w33 hU33
    have hzw33 := hU33.size
    replace HU := HU.trans0 hU33
    replace hO7 := hO7.upd0 hU33
    replace hO15 := hO15.upd0 hU33
    replace hO23 := hO23.upd0 hU33
    replace hO27 := hO27.upd0 hU33
    replace hc29 := cell_upd0 hU33 hc29
    replace hO31 := hO31.upd0 hU33
    try replace hW := hW.trans0 hU33
    refine Wa_done (by kernel_rfl) ?_
    refine W_seq (W_seq (W_region ?_))
    refine Wmv (.int .i64 ((dcF l (b.drop (gbytes b (gbytes b (gbytes b (gnum b (gnum b (gnum b 0 131072).2.1 131072).2.1 131072).2.1 (gnum b 0 131072).1).2.1 (gnum b (gnum b 0 131072).2.1 131072).1).2.1 (gnum b (gnum b (gnum b 0 131072).2.1 131072).2.1 131072).1).2.1) (nn - 3 * ((nn + 3) / 4))).2)) ?_
    refine Wl_v (r_ne rfl rfl) ?_
    refine Wl_nil ?_
    by_cases q7 : ((dcF l (b.drop (gbytes b (gbytes b (gbytes b (gnum b (gnum b (gnum b 0 131072).2.1 131072).2.1 131072).2.1 (gnum b 0 131072).1).2.1 (gnum b (gnum b 0 131072).2.1 131072).1).2.1 (gnum b (gnum b (gnum b 0 131072).2.1 131072).2.1 131072).1).2.1) (nn - 3 * ((nn + 3) / 4))).2) ≠ 0
    ·rw [decide_eq_true q7]
     refine W_cond_t rfl ?_
     refine W_seq (W_region ?_)
     refine Wmv (.slice a27 3 c27) ?_
     refine Wmv (.int .i64 ((dcF l (b.drop (gbytes b (gbytes b (gbytes b (gnum b (gnum b (gnum b 0 131072).2.1 131072).2.1 131072).2.1 (gnum b 0 131072).1).2.1 (gnum b (gnum b 0 131072).2.1 131072).1).2.1 (gnum b (gnum b (gnum b 0 131072).2.1 131072).2.1 131072).1).2.1) (nn - 3 * ((nn + 3) / 4))).2)) ?_
     refine Was (.slice a27 3 c27) ?_
     refine Was (.int .i64 ((dcF l (b.drop (gbytes b (gbytes b (gbytes b (gnum b (gnum b (gnum b 0 131072).2.1 131072).2.1 131072).2.1 (gnum b 0 131072).1).2.1 (gnum b (gnum b 0 131072).2.1 131072).1).2.1 (gnum b (gnum b (gnum b 0 131072).2.1 131072).2.1 131072).1).2.1) (nn - 3 * ((nn + 3) / 4))).2)) ?_
     refine Wl_nil ?_
     refine W_ret ?_
     refine ret_end (v := .tuple #[.slice a27 3 c27, .int .i64 ((dcF l (b.drop (gbytes b (gbytes b (gbytes b (gnum b (gnum b (gnum b 0 131072).2.1 131072).2.1 131072).2.1 (gnum b 0 131072).1).2.1 (gnum b (gnum b 0 131072).2.1 131072).1).2.1 (gnum b (gnum b (gnum b 0 131072).2.1 131072).2.1 131072).1).2.1) (nn - 3 * ((nn + 3) / 4))).2)]) rfl (res2 results31 rfl rfl) ?_
     have hN : nE l b nn = 3 := nE_4 ((hdF_e (l := l) (b := b) (n := nn) q1 q2).trans q3) (Classical.not_not.1 q4) (Classical.not_not.1 q5) (Classical.not_not.1 q6) q7
     have hF : (d4F l b nn).2 = (dcF l (b.drop (gbytes b (gbytes b (gbytes b (gnum b (gnum b (gnum b 0 131072).2.1 131072).2.1 131072).2.1 (gnum b 0 131072).1).2.1 (gnum b (gnum b 0 131072).2.1 131072).1).2.1 (gnum b (gnum b (gnum b 0 131072).2.1 131072).2.1 131072).1).2.1) (nn - 3 * ((nn + 3) / 4))).2 := by rw [show d4F l b nn = ([], (dcF l (b.drop (gbytes b (gbytes b (gbytes b (gnum b (gnum b (gnum b 0 131072).2.1 131072).2.1 131072).2.1 (gnum b 0 131072).1).2.1 (gnum b (gnum b 0 131072).2.1 131072).1).2.1 (gnum b (gnum b (gnum b 0 131072).2.1 131072).2.1 131072).1).2.1) (nn - 3 * ((nn + 3) / 4))).2) from d4F_4 ((hdF_e (l := l) (b := b) (n := nn) q1 q2).trans q3) (Classical.not_not.1 q4) (Classical.not_not.1 q5) (Classical.not_not.1 q6) q7]
     exact ⟨_, rfl, a27, c27, w33.heap.size, by rw [hN, hF], by rw [hN]; exact Rws.of (hO27.sl.weak (by intro g hg; have h3 : ((((((((((g = w10.heap.size) ∧ g < w11.heap.size)) ∨ g = w18.heap.size)) ∧ g < w19.heap.size)) ∨ g = w26.heap.size)) ∧ g < w27.heap.size) := hg; show w.heap.size ≤ g ∧ g < w33.heap.size; omega)) (fun i hi => match i, hi with | 0, _ => ⟨_, _, _, rfl, (hO7.sl.weak (by intro g hg; have h3 : ((w6.heap.size ≤ g) ∧ g < w7.heap.size) := hg; show w.heap.size ≤ g ∧ g < w33.heap.size; omega))⟩ | 1, _ => ⟨_, _, _, rfl, (hO15.sl.weak (by intro g hg; have h3 : ((w14.heap.size ≤ g) ∧ g < w15.heap.size) := hg; show w.heap.size ≤ g ∧ g < w33.heap.size; omega))⟩ | 2, _ => ⟨_, _, _, rfl, (hO23.sl.weak (by intro g hg; have h3 : ((w22.heap.size ≤ g) ∧ g < w23.heap.size) := hg; show w.heap.size ≤ g ∧ g < w33.heap.size; omega))⟩), Nat.le_refl _, HU⟩
    rw [decide_eq_false q7]
    refine W_cond_f rfl ?_
    refine W_skip (W_region ?_)
    refine Wmv (.slice a27 3 c27) ?_
    refine Wmv (.slice a31 m31 c31) ?_
    refine Wl_lit (pv := [(0, .slice a31 m31 c31)]) (cs := [.slice a31 m31 c31]) underlying41 sizeOf32 zeroValue32 (by decide) (by decide) (by simp only [List.map_toArray, List.map_cons, List.map_nil] <;> rfl) (by kernel_rfl) rfl (by decide) ?_
    intro B34 w34 hB34 hU34 hzz34 hs34
    have hzw34 := hU34.size
    replace HU := HU.trans0 hU34
    replace hO7 := hO7.upd0 hU34
    replace hO15 := hO15.upd0 hU34
    replace hO23 := hO23.upd0 hU34
    replace hO27 := hO27.upd0 hU34
    replace hc29 := cell_upd0 hU34 hc29
    replace hO31 := hO31.upd0 hU34
    try replace hW := hW.trans0 hU34
    refine Wl_appendc (cs3 := [.slice a7 m7 c7, .slice a15 m15 c15, .slice a23 m23 c23, .slice a31 m31 c31]) (tot := 4) (by first | rfl | exact (rows_app _ _).symm | simp) underlying41 (ti := Tryz.t32) (z := .slice none 0 0) (sz := 1) (by' := 24) rfl rfl rfl rfl rfl (by decide) rfl hO27 rfl hs34.sl (by intro u hu; simp at hu; subst hu; rfl) (by omega) (by simp only [maxLen]; omega) (by omega) ?_
    intro a35 c35 w35 hU35 hzz35 hO35
    clear hO27
    have hzw35 := hU35.size
    replace HU := HU.trans hU35 (by intro x hx; have hx2 : ((((((((((x = w10.heap.size) ∧ x < w11.heap.size)) ∨ x = w18.heap.size)) ∧ x < w19.heap.size)) ∨ x = w26.heap.size)) ∧ x < w27.heap.size) := hx; show (False) ∨ w.heap.size ≤ x; omega)
    replace hO7 := hO7.upd hU35 (by intro x h1 h2; have h3 : ((w6.heap.size ≤ x) ∧ x < w7.heap.size) := h1; have h4 : ((((((((((x = w10.heap.size) ∧ x < w11.heap.size)) ∨ x = w18.heap.size)) ∧ x < w19.heap.size)) ∨ x = w26.heap.size)) ∧ x < w27.heap.size) := h2; omega)
    replace hO15 := hO15.upd hU35 (by intro x h1 h2; have h3 : ((w14.heap.size ≤ x) ∧ x < w15.heap.size) := h1; have h4 : ((((((((((x = w10.heap.size) ∧ x < w11.heap.size)) ∨ x = w18.heap.size)) ∧ x < w19.heap.size)) ∨ x = w26.heap.size)) ∧ x < w27.heap.size) := h2; omega)
    replace hO23 := hO23.upd hU35 (by intro x h1 h2; have h3 : ((w22.heap.size ≤ x) ∧ x < w23.heap.size) := h1; have h4 : ((((((((((x = w10.heap.size) ∧ x < w11.heap.size)) ∨ x = w18.heap.size)) ∧ x < w19.heap.size)) ∨ x = w26.heap.size)) ∧ x < w27.heap.size) := h2; omega)
    replace hO31 := hO31.upd hU35 (by intro x h1 h2; have h3 : ((w30.heap.size ≤ x) ∧ x < w31.heap.size) := h1; have h4 : ((((((((((x = w10.heap.size) ∧ x < w11.heap.size)) ∨ x = w18.heap.size)) ∧ x < w19.heap.size)) ∨ x = w26.heap.size)) ∧ x < w27.heap.size) := h2; omega)
    replace hO35 := hO35.tight
    have hl_hO35 := hO35.sl.len
    have hc_hO35 := hO35.sl.cap.1
    refine Was (.slice a35 4 c35) ?_
    refine Wl_nil (W_region ?_)
    refine Wmv (.int .i64 3) ?_
    refine Wl_v (r_add rfl rfl (show _ = (4 : Int) from by decide)) ?_
    refine Was (.int .i64 4) ?_
    refine Wl_nil ?_
    refine unrK_succ ?_
    refine W_seq (W_seq (W_region ?_))
    refine Wmv (.int .i64 4) ?_
    refine Wl_v (v := .bool false) (r_lt (a := 4) (b := 4) rfl rfl) ?_
    refine Wl_nil ?_
    refine W_cond_f rfl ?_
    refine W_exit ?_
    refine W_seq (W_region ?_)
    refine Wmv (.slice a35 4 c35) ?_
    refine Was (.slice a35 4 c35) ?_
    refine Was (.int .i64 0) ?_
    refine Wl_nil ?_
    refine W_ret ?_
    refine ret_end (v := .tuple #[.slice a35 4 c35, .int .i64 0]) rfl (res2 results31 rfl rfl) ?_
    have hN : nE l b nn = 4 := nE_ok ((hdF_e (l := l) (b := b) (n := nn) q1 q2).trans q3) (Classical.not_not.1 q4) (Classical.not_not.1 q5) (Classical.not_not.1 q6) (Classical.not_not.1 q7)
    have hF : (d4F l b nn).2 = 0 := by rw [d4F_ok ((hdF_e (l := l) (b := b) (n := nn) q1 q2).trans q3) (Classical.not_not.1 q4) (Classical.not_not.1 q5) (Classical.not_not.1 q6) (Classical.not_not.1 q7)]
    exact ⟨_, rfl, a35, c35, w35.heap.size, by rw [hN, hF], by rw [hN]; exact Rws.of (hO35.sl.weak (by intro g hg; have h3 : ((((((((((((((g = w10.heap.size) ∧ g < w11.heap.size)) ∨ g = w18.heap.size)) ∧ g < w19.heap.size)) ∨ g = w26.heap.size)) ∧ g < w27.heap.size)) ∨ g = w34.heap.size)) ∧ g < w35.heap.size) := hg; show w.heap.size ≤ g ∧ g < w35.heap.size; omega)) (fun i hi => match i, hi with | 0, _ => ⟨_, _, _, rfl, (hO7.sl.weak (by intro g hg; have h3 : ((w6.heap.size ≤ g) ∧ g < w7.heap.size) := hg; show w.heap.size ≤ g ∧ g < w35.heap.size; omega))⟩ | 1, _ => ⟨_, _, _, rfl, (hO15.sl.weak (by intro g hg; have h3 : ((w14.heap.size ≤ g) ∧ g < w15.heap.size) := hg; show w.heap.size ≤ g ∧ g < w35.heap.size; omega))⟩ | 2, _ => ⟨_, _, _, rfl, (hO23.sl.weak (by intro g hg; have h3 : ((w22.heap.size ≤ g) ∧ g < w23.heap.size) := hg; show w.heap.size ≤ g ∧ g < w35.heap.size; omega))⟩ | 3, _ => ⟨_, _, _, rfl, (hO31.sl.weak (by intro g hg; have h3 : ((w30.heap.size ≤ g) ∧ g < w31.heap.size) := hg; show w.heap.size ≤ g ∧ g < w35.heap.size; omega))⟩), Nat.le_refl _, HU⟩
   refine Wl_call (r_call1 rfl call26 rfl) (rstr_no _ hsb hb (by omega) q3) ?_
   rintro v w36 ⟨rfl, hU36⟩
   have hzw36 := hU36.size
   replace HU := HU.trans0 hU36
   refine Wmv (.tuple #[.slice none 0 0, .int .i64 (e4 b)]) ?_
   refine Wl_v (r_ext (v := .slice none 0 0) rfl rfl) ?_
   refine Wl_v (r_ext (v := .int .i64 (e4 b)) rfl rfl) ?_
   refine Was (.slice none 0 0) ?_
   refine Was (.int .i64 (e4 b)) ?_
   refine Wl_nil (W_seq (W_seq (W_region ?_)))
   refine Wmv (.int .i64 (e4 b)) ?_
   refine Wl_v (r_ne rfl rfl) ?_
   refine Wl_nil ?_
   have q8 : (e4 b) ≠ 0 := q3
   rw [decide_eq_true q8]
   refine W_cond_t rfl ?_
   refine W_seq (W_region ?_)
   refine Wmv (.int .i64 (e4 b)) ?_
   refine Was (.slice none 0 0) ?_
   refine Was (.int .i64 (e4 b)) ?_
   refine Wl_nil ?_
   refine W_ret ?_
   refine ret_end (v := .tuple #[.slice none 0 0, .int .i64 (e4 b)]) rfl (res2 results31 rfl rfl) ?_
   have hN : nE l b nn = 0 := nE_h (by rw [hdF_e (l := l) (b := b) (n := nn) q1 q2]; exact q3)
   have hF : (d4F l b nn).2 = e4 b := by rw [show d4F l b nn = ([], e4 b) from (d4F_h (by rw [hdF_e (l := l) (b := b) (n := nn) q1 q2]; exact q3)).trans (by rw [hdF_e (l := l) (b := b) (n := nn) q1 q2])]
   exact ⟨_, rfl, none, 0, w36.heap.size, by rw [hN, hF], by rw [hN]; exact Rws.nil _ _ _ _, Nat.le_refl _, HU⟩
  refine Wl_call (r_call1 rfl call12 rfl) (rparts_no (n := nn) _ q2) ?_
  rintro v w37 ⟨rfl, hU37⟩
  have hzw37 := hU37.size
  replace HU := HU.trans0 hU37
  refine Wmv (.tuple #[.slice none 0 0, .int .i64 (paF nn)]) ?_
  refine Wl_v (r_ext (v := .slice none 0 0) rfl rfl) ?_
  refine Wl_v (r_ext (v := .int .i64 (paF nn)) rfl rfl) ?_
  refine Was (.slice none 0 0) ?_
  refine Was (.int .i64 (paF nn)) ?_
  refine Wl_nil (W_seq (W_seq (W_region ?_)))
  refine Wmv (.int .i64 (paF nn)) ?_
  refine Wl_v (r_ne rfl rfl) ?_
  refine Wl_nil ?_
  have q9 : (paF nn) ≠ 0 := q2
  rw [decide_eq_true q9]
  refine W_cond_t rfl ?_
  refine W_seq (W_region ?_)
  refine Wmv (.int .i64 (paF nn)) ?_
  refine Was (.slice none 0 0) ?_
  refine Was (.int .i64 (paF nn)) ?_
  refine Wl_nil ?_
  refine W_ret ?_
  refine ret_end (v := .tuple #[.slice none 0 0, .int .i64 (paF nn)]) rfl (res2 results31 rfl rfl) ?_
  have hN : nE l b nn = 0 := nE_h (by rw [hdF_p (l := l) (b := b) (n := nn) q1 q2]; exact q2)
  have hF : (d4F l b nn).2 = paF nn := by rw [show d4F l b nn = ([], paF nn) from (d4F_h (by rw [hdF_p (l := l) (b := b) (n := nn) q1 q2]; exact q2)).trans (by rw [hdF_p (l := l) (b := b) (n := nn) q1 q2])]
  exact ⟨_, rfl, none, 0, w37.heap.size, by rw [hN, hF], by rw [hN]; exact Rws.nil _ _ _ _, Nat.le_refl _, HU⟩
 rw [decide_eq_false q1]
 simp only [Bool.not_true, Bool.not_false]
 refine W_cond_t rfl ?_
 refine W_seq (W_region ?_)
 refine Was (.slice none 0 0) ?_
 refine Was (.int .i64 12) ?_
 refine Wl_nil ?_
 refine W_ret ?_
 refine ret_end (v := .tuple #[.slice none 0 0, .int .i64 12]) rfl (res2 results31 rfl rfl) ?_
 have hN : nE l b nn = 0 := nE_h (by rw [hdF_r (l := l) (b := b) (n := nn) q1]; decide)
 have hF : (d4F l b nn).2 = 12 := by rw [show d4F l b nn = ([], 12) from (d4F_h (by rw [hdF_r (l := l) (b := b) (n := nn) q1]; decide)).trans (by rw [hdF_r (l := l) (b := b) (n := nn) q1])]
 exact ⟨_, rfl, none, 0, w1.heap.size, by rw [hN, hF], by rw [hN]; exact Rws.nil _ _ _ _, Nat.le_refl _, HU⟩
set_option maxHeartbeats 2000000 in
theorem rdec4 {a a2 : Option Addr} {n c m d : Nat} {l b : List Int} {nn : Int} {R : Nat → Prop} (w : World) (hs : Sl w R 1 (.slice a n c) n (ints .i64 l)) (hn : n ≤ 1000) (hsb : Sl w (fun g => g < w.heap.size) 1 (.slice a2 m d) m (ints .u8 b)) (hb : Byt b) (hm : m ≤ 100000) (hni : -9223372036854775808 ≤ nn ∧ nn ≤ 9223372036854775807) :
  Calls Tryz.prog 24 #[.slice a n c, .slice a2 m d, .int .i64 nn] w (Ret fun v w' => ∃ (a' : Option Addr) (m' : Nat) (c' : Nat), v = .tuple #[.slice a' m' c', .int .i64 ((d4F l b nn).2)] ∧ Own w' (fun g => w.heap.size ≤ g) 5 1 (.slice a' m' c') m' (ints .u8 ((d4F l b nn).1)) ∧ Upd No w w') := by
 have HU := Upd.rno w
 have hl_hs := ilen hs
 have hc_hs := hs.cap.1
 replace hs := hs.tight
 have hl_hsb := ilen hsb
 have hc_hsb := hsb.cap.1
 have hgla := gbl_le (b := b) ((gnum b (gnum b (gnum b 0 131072).2.1 131072).2.1 131072).2.1) ((gnum b 0 131072).1)
 have hglb := gbl_le (b := b) ((gbytes b (gnum b (gnum b (gnum b 0 131072).2.1 131072).2.1 131072).2.1 (gnum b 0 131072).1).2.1) ((gnum b (gnum b 0 131072).2.1 131072).1)
 have hglc := gbl_le (b := b) ((gbytes b (gbytes b (gnum b (gnum b (gnum b 0 131072).2.1 131072).2.1 131072).2.1 (gnum b 0 131072).1).2.1 (gnum b (gnum b 0 131072).2.1 131072).1).2.1) ((gnum b (gnum b (gnum b 0 131072).2.1 131072).2.1 131072).1)
 have hgld := List.length_drop (i := (gbytes b (gbytes b (gbytes b (gnum b (gnum b (gnum b 0 131072).2.1 131072).2.1 131072).2.1 (gnum b 0 131072).1).2.1 (gnum b (gnum b 0 131072).2.1 131072).1).2.1 (gnum b (gnum b (gnum b 0 131072).2.1 131072).2.1 131072).1).2.1) (l := b)
 have hdla := dcF_len (l := l) (b := (gbytes b (gnum b (gnum b (gnum b 0 131072).2.1 131072).2.1 131072).2.1 (gnum b 0 131072).1).1) (gby_byt hb _ _) ((nn + 3) / 4)
 have hdlb := dcF_len (l := l) (b := (gbytes b (gbytes b (gnum b (gnum b (gnum b 0 131072).2.1 131072).2.1 131072).2.1 (gnum b 0 131072).1).2.1 (gnum b (gnum b 0 131072).2.1 131072).1).1) (gby_byt hb _ _) ((nn + 3) / 4)
 have hdlc := dcF_len (l := l) (b := (gbytes b (gbytes b (gbytes b (gnum b (gnum b (gnum b 0 131072).2.1 131072).2.1 131072).2.1 (gnum b 0 131072).1).2.1 (gnum b (gnum b 0 131072).2.1 131072).1).2.1 (gnum b (gnum b (gnum b 0 131072).2.1 131072).2.1 131072).1).1) (gby_byt hb _ _) ((nn + 3) / 4)
 have hdld := dcF_len (l := l) (b := b.drop (gbytes b (gbytes b (gbytes b (gnum b (gnum b (gnum b 0 131072).2.1 131072).2.1 131072).2.1 (gnum b 0 131072).1).2.1 (gnum b (gnum b 0 131072).2.1 131072).1).2.1 (gnum b (gnum b (gnum b 0 131072).2.1 131072).2.1 131072).1).2.1) (hb.drop _) (nn - 3 * ((nn + 3) / 4))
 refine calls_of_W func24 rfl ntmps24 (by simp) ?_
 refine W_seq (W_region ?_)
 refine Was (.slice none 0 0) ?_
 refine Was (.int .i64 0) ?_
 refine Wl_nil (W_seq (W_region ?_))
 refine Wmv (.slice a n c) ?_
 refine Wmv (.slice a2 m d) ?_
 refine Wmv (.int .i64 nn) ?_
 by_cases q1 : (d4F l b nn).2 = 0
 ·refine Wl_call (r_call3 rfl call31 rfl rfl rfl) (rea_all _ hs (by omega) hsb.any hb (by omega) (by omega)) ?_
  rintro v w1 ⟨a1, c1, G1, rfl, hW1, hG1_1, hU1⟩
  have hzw1 := hU1.size
  replace HU := HU.trans0 hU1
  obtain ⟨hi0, hi1, hi2, hi3, hi4⟩ := d4F_inv q1
  have hN4 := nE_ok hi0 hi1 hi2 hi3 hi4
  rw [hN4] at hW1
  rw [hN4]
  obtain ⟨ja, ka, qa, jb, kb, qb, jc, kc, qc, jd, kd, qd, hS9, h9a, h9b, h9c, h9d⟩ := hW1.four
  replace h9a : Sl w1 (fun g => (w.heap.size ≤ g ∧ g < G1)) 1 (.slice ja ka qa) ka (ints .u8 (dcF l ((gbytes b (gnum b (gnum b (gnum b 0 131072).2.1 131072).2.1 131072).2.1 (gnum b 0 131072).1).1) ((nn + 3) / 4)).1) := h9a
  have hl_h9a := ilen h9a
  have hc_h9a := h9a.cap.1
  replace h9b : Sl w1 (fun g => (w.heap.size ≤ g ∧ g < G1)) 1 (.slice jb kb qb) kb (ints .u8 (dcF l ((gbytes b (gbytes b (gnum b (gnum b (gnum b 0 131072).2.1 131072).2.1 131072).2.1 (gnum b 0 131072).1).2.1 (gnum b (gnum b 0 131072).2.1 131072).1).1) ((nn + 3) / 4)).1) := h9b
  have hl_h9b := ilen h9b
  have hc_h9b := h9b.cap.1
  replace h9c : Sl w1 (fun g => (w.heap.size ≤ g ∧ g < G1)) 1 (.slice jc kc qc) kc (ints .u8 (dcF l ((gbytes b (gbytes b (gbytes b (gnum b (gnum b (gnum b 0 131072).2.1 131072).2.1 131072).2.1 (gnum b 0 131072).1).2.1 (gnum b (gnum b 0 131072).2.1 131072).1).2.1 (gnum b (gnum b (gnum b 0 131072).2.1 131072).2.1 131072).1).1) ((nn + 3) / 4)).1) := h9c
  have hl_h9c := ilen h9c
  have hc_h9c := h9c.cap.1
  replace h9d : Sl w1 (fun g => (w.heap.size ≤ g ∧ g < G1)) 1 (.slice jd kd qd) kd (ints .u8 (dcF l (b.drop (gbytes b (gbytes b (gbytes b (gnum b (gnum b (gnum b 0 131072).2.1 131072).2.1 131072).2.1 (gnum b 0 131072).1).2.1 (gnum b (gnum b 0 131072).2.1 131072).1).2.1 (gnum b (gnum b (gnum b 0 131072).2.1 131072).2.1 131072).1).2.1) (nn - 3 * ((nn + 3) / 4))).1) := h9d
  have hl_h9d := ilen h9d
  have hc_h9d := h9d.cap.1
  refine Wmv (.tuple #[.slice a1 4 c1, .int .i64 ((d4F l b nn).2)]) ?_
  refine Wl_v (r_ext (v := .slice a1 4 c1) rfl rfl) ?_
  refine Wl_v (r_ext (v := .int .i64 ((d4F l b nn).2)) rfl rfl) ?_
  refine Was (.slice a1 4 c1) ?_
  refine Was (.int .i64 ((d4F l b nn).2)) ?_
  refine Wl_nil (W_seq (W_seq (W_region ?_)))
  refine Wmv (.int .i64 ((d4F l b nn).2)) ?_
  refine Wl_v (r_ne rfl rfl) ?_
  refine Wl_nil ?_
  have q2 : ¬ (((d4F l b nn).2) ≠ 0) := (fun h => h q1)
  rw [decide_eq_false q2]
  refine W_cond_f rfl ?_
  refine W_skip (W_seq (W_region ?_))
  refine Was (.slice none 0 0) ?_
  refine Wl_nil (W_seq (W_seq (W_region ?_)))
  refine Was (.int .i64 0) ?_
  refine Wl_nil (W_block ?_)
  refine W_unroll 5 ?_
  refine unrK_succ ?_
  refine W_seq (W_seq (W_region ?_))
  refine Wmv (.int .i64 0) ?_
  refine Wl_v (v := .bool true) (r_lt (a := 0) (b := 4) rfl rfl) ?_
  refine Wl_nil ?_
  refine W_cond_t rfl ?_
  refine W_skip (W_seq (W_block (W_region ?_)))
  refine Wmv (.slice none 0 0) ?_
  refine Wmv (.slice a1 4 c1) ?_
  refine Wmv (.int .i64 0) ?_
  refine Wl_idxc (i' := 0) (v := .slice ja ka qa) underlying41 sizeOf32 rfl rfl (by first | rfl | omega) hS9 (by decide) rfl ?_
  intro ib2 io2 hc2
  refine Wl_loadc isAgg32 rfl hc2 ?_
  refine Wl_appendi (xs := []) (ys := (dcF l ((gbytes b (gnum b (gnum b (gnum b 0 131072).2.1 131072).2.1 131072).2.1 (gnum b 0 131072).1).1) ((nn + 3) / 4)).1) (zs := (dcF l ((gbytes b (gnum b (gnum b (gnum b 0 131072).2.1 131072).2.1 131072).2.1 (gnum b 0 131072).1).1) ((nn + 3) / 4)).1) (k' := .u8) (tot := ka) (by first | rfl | exact (rows_app _ _).symm | simp) underlying32 (ti := Tryz.t5) (z := .int .u8 0) (sz := 1) (by' := 1) rfl rfl rfl rfl rfl (by decide) rfl (Own.nil _ No _ _) rfl h9a  (by omega) (by simp only [maxLen]; omega) (by omega) ?_
  intro a3 c3 w3 hU3 hzz3 hO3
  have hzw3 := hU3.size
  replace HU := HU.trans0 hU3
  replace hS9 := hS9.upd0 hU3
  replace h9b := h9b.upd0 hU3
  replace h9c := h9c.upd0 hU3
  replace h9d := h9d.upd0 hU3
  replace hO3 := hO3.weak (R' := fun g => g = w1.heap.size) (fun g h => h.elim (fun x => x.elim) id)
  replace hO3 := hO3.tight
  have hl_hO3 := ilen hO3.sl
  have hc_hO3 := hO3.sl.cap.1
  refine Was (.slice a3 ka c3) ?_
  refine Wl_nil (W_region ?_)
  refine Wmv (.int .i64 0) ?_
  refine Wl_v (r_add rfl rfl (show _ = (1 : Int) from by decide)) ?_
  refine Was (.int .i64 1) ?_
  refine Wl_nil ?_
  refine unrK_succ ?_
  refine W_seq (W_seq (W_region ?_))
  refine Wmv (.int .i64 1) ?_
  refine Wl_v (v := .bool true) (r_lt (a := 1) (b := 4) rfl rfl) ?_
  refine Wl_nil ?_
  refine W_cond_t rfl ?_
  refine W_skip (W_seq (W_block (W_region ?_)))
  refine Wmv (.slice a3 ka c3) ?_
  refine Wmv (.slice a1 4 c1) ?_
  refine Wmv (.int .i64 1) ?_
  refine Wl_idxc (i' := 1) (v := .slice jb kb qb) underlying41 sizeOf32 rfl rfl (by first | rfl | omega) hS9 (by decide) rfl ?_
  intro ib4 io4 hc4
  refine Wl_loadc isAgg32 rfl hc4 ?_
  refine Wl_appendi (xs := (dcF l ((gbytes b (gnum b (gnum b (gnum b 0 131072).2.1 131072).2.1 131072).2.1 (gnum b 0 131072).1).1) ((nn + 3) / 4)).1) (ys := (dcF l ((gbytes b (gbytes b (gnum b (gnum b (gnum b 0 131072).2.1 131072).2.1 131072).2.1 (gnum b 0 131072).1).2.1 (gnum b (gnum b 0 131072).2.1 131072).1).1) ((nn + 3) / 4)).1) (zs := ((dcF l ((gbytes b (gnum b (gnum b (gnum b 0 131072).2.1 131072).2.1 131072).2.1 (gnum b 0 131072).1).1) ((nn + 3) / 4)).1) ++ ((dcF l ((gbytes b (gbytes b (gnum b (gnum b (gnum b 0 131072).2.1 131072).2.1 131072).2.1 (gnum b 0 131072).1).2.1 (gnum b (gnum b 0 131072).2.1 131072).1).1) ((nn + 3) / 4)).1)) (k' := .u8) (tot := ka + kb) (by first | rfl | exact (rows_app _ _).symm | simp) underlying32 (ti := Tryz.t5) (z := .int .u8 0) (sz := 1) (by' := 1) rfl rfl rfl rfl rfl (by decide) rfl hO3 rfl h9b  (by omega) (by simp only [maxLen]; omega) (by omega) ?_
  intro a5 c5 w5 hU5 hzz5 hO5
  clear hO3
  have hzw5 := hU5.size
  replace HU := HU.trans hU5 (by intro x hx; have hx2 : ((x = w1.heap.size) ∧ x < w3.heap.size) := hx; show (False) ∨ w.heap.size ≤ x; omega)
  replace hS9 := hS9.upd hU5 (by intro x h1 h2; have h3 : (w.heap.size ≤ x ∧ x < G1) := h1; have h4 : ((x = w1.heap.size) ∧ x < w3.heap.size) := h2; omega)
  replace h9c := h9c.upd hU5 (by intro x h1 h2; have h3 : (w.heap.size ≤ x ∧ x < G1) := h1; have h4 : ((x = w1.heap.size) ∧ x < w3.heap.size) := h2; omega)
  replace h9d := h9d.upd hU5 (by intro x h1 h2; have h3 : (w.heap.size ≤ x ∧ x < G1) := h1; have h4 : ((x = w1.heap.size) ∧ x < w3.heap.size) := h2; omega)
  replace hO5 := hO5.tight
  have hl_hO5 := ilen hO5.sl
  have hc_hO5 := hO5.sl.cap.1
  refine Was (.slice a5 (ka + kb) c5) ?_
  refine Wl_nil (W_region ?_)
  refine Wmv (.int .i64 1) ?_
  refine Wl_v (r_add rfl rfl (show _ = (2 : Int) from by decide)) ?_
  refine Was (.int .i64 2) ?_
  refine Wl_nil ?_
  refine unrK_succ ?_
  refine W_seq (W_seq (W_region ?_))
  refine Wmv (.int .i64 2) ?_
  refine Wl_v (v := .bool true) (r_lt (a := 2) (b := 4) rfl rfl) ?_
  refine Wl_nil ?_
  refine W_cond_t rfl ?_
  refine W_skip (W_seq (W_block (W_region ?_)))
  refine Wmv (.slice a5 (ka + kb) c5) ?_
  refine Wmv (.slice a1 4 c1) ?_
  refine Wmv (.int .i64 2) ?_
  refine Wl_idxc (i' := 2) (v := .slice jc kc qc) underlying41 sizeOf32 rfl rfl (by first | rfl | omega) hS9 (by decide) rfl ?_
  intro ib6 io6 hc6
  refine Wl_loadc isAgg32 rfl hc6 ?_
  refine Wl_appendi (xs := ((dcF l ((gbytes b (gnum b (gnum b (gnum b 0 131072).2.1 131072).2.1 131072).2.1 (gnum b 0 131072).1).1) ((nn + 3) / 4)).1) ++ ((dcF l ((gbytes b (gbytes b (gnum b (gnum b (gnum b 0 131072).2.1 131072).2.1 131072).2.1 (gnum b 0 131072).1).2.1 (gnum b (gnum b 0 131072).2.1 131072).1).1) ((nn + 3) / 4)).1)) (ys := (dcF l ((gbytes b (gbytes b (gbytes b (gnum b (gnum b (gnum b 0 131072).2.1 131072).2.1 131072).2.1 (gnum b 0 131072).1).2.1 (gnum b (gnum b 0 131072).2.1 131072).1).2.1 (gnum b (gnum b (gnum b 0 131072).2.1 131072).2.1 131072).1).1) ((nn + 3) / 4)).1) (zs := ((dcF l ((gbytes b (gnum b (gnum b (gnum b 0 131072).2.1 131072).2.1 131072).2.1 (gnum b 0 131072).1).1) ((nn + 3) / 4)).1) ++ ((dcF l ((gbytes b (gbytes b (gnum b (gnum b (gnum b 0 131072).2.1 131072).2.1 131072).2.1 (gnum b 0 131072).1).2.1 (gnum b (gnum b 0 131072).2.1 131072).1).1) ((nn + 3) / 4)).1) ++ ((dcF l ((gbytes b (gbytes b (gbytes b (gnum b (gnum b (gnum b 0 131072).2.1 131072).2.1 131072).2.1 (gnum b 0 131072).1).2.1 (gnum b (gnum b 0 131072).2.1 131072).1).2.1 (gnum b (gnum b (gnum b 0 131072).2.1 131072).2.1 131072).1).1) ((nn + 3) / 4)).1)) (k' := .u8) (tot := ka + kb + kc) (by first | rfl | exact (rows_app _ _).symm | simp) underlying32 (ti := Tryz.t5) (z := .int .u8 0) (sz := 1) (by' := 1) rfl rfl rfl rfl rfl (by decide) rfl hO5 rfl h9c  (by omega) (by simp only [maxLen]; omega) (by omega) ?_
  intro a7 c7 w7 hU7 hzz7 hO7
  clear hO5
  have hzw7 := hU7.size
  replace HU := HU.trans hU7 (by intro x hx; have hx2 : ((((((x = w1.heap.size) ∧ x < w3.heap.size)) ∨ x = w3.heap.size)) ∧ x < w5.heap.size) := hx; show (False) ∨ w.heap.size ≤ x; omega)
  replace hS9 := hS9.upd hU7 (by intro x h1 h2; have h3 : (w.heap.size ≤ x ∧ x < G1) := h1; have h4 : ((((((x = w1.heap.size) ∧ x < w3.heap.size)) ∨ x = w3.heap.size)) ∧ x < w5.heap.size) := h2; omega)
  replace h9d := h9d.upd hU7 (by intro x h1 h2; have h3 : (w.heap.size ≤ x ∧ x < G1) := h1; have h4 : ((((((x = w1.heap.size) ∧ x < w3.heap.size)) ∨ x = w3.heap.size)) ∧ x < w5.heap.size) := h2; omega)
  replace hO7 := hO7.tight
  have hl_hO7 := ilen hO7.sl
  have hc_hO7 := hO7.sl.cap.1
  refine Was (.slice a7 (ka + kb + kc) c7) ?_
  refine Wl_nil (W_region ?_)
  refine Wmv (.int .i64 2) ?_
  refine Wl_v (r_add rfl rfl (show _ = (3 : Int) from by decide)) ?_
  refine Was (.int .i64 3) ?_
  refine Wl_nil ?_
  refine unrK_succ ?_
  refine W_seq (W_seq (W_region ?_))
  refine Wmv (.int .i64 3) ?_
  refine Wl_v (v := .bool true) (r_lt (a := 3) (b := 4) rfl rfl) ?_
  refine Wl_nil ?_
  refine W_cond_t rfl ?_
  refine W_skip (W_seq (W_block (W_region ?_)))
  refine Wmv (.slice a7 (ka + kb + kc) c7) ?_
  refine Wmv (.slice a1 4 c1) ?_
  refine Wmv (.int .i64 3) ?_
  refine Wl_idxc (i' := 3) (v := .slice jd kd qd) underlying41 sizeOf32 rfl rfl (by first | rfl | omega) hS9 (by decide) rfl ?_
  intro ib8 io8 hc8
  refine Wl_loadc isAgg32 rfl hc8 ?_
  refine Wl_appendi (xs := ((dcF l ((gbytes b (gnum b (gnum b (gnum b 0 131072).2.1 131072).2.1 131072).2.1 (gnum b 0 131072).1).1) ((nn + 3) / 4)).1) ++ ((dcF l ((gbytes b (gbytes b (gnum b (gnum b (gnum b 0 131072).2.1 131072).2.1 131072).2.1 (gnum b 0 131072).1).2.1 (gnum b (gnum b 0 131072).2.1 131072).1).1) ((nn + 3) / 4)).1) ++ ((dcF l ((gbytes b (gbytes b (gbytes b (gnum b (gnum b (gnum b 0 131072).2.1 131072).2.1 131072).2.1 (gnum b 0 131072).1).2.1 (gnum b (gnum b 0 131072).2.1 131072).1).2.1 (gnum b (gnum b (gnum b 0 131072).2.1 131072).2.1 131072).1).1) ((nn + 3) / 4)).1)) (ys := (dcF l (b.drop (gbytes b (gbytes b (gbytes b (gnum b (gnum b (gnum b 0 131072).2.1 131072).2.1 131072).2.1 (gnum b 0 131072).1).2.1 (gnum b (gnum b 0 131072).2.1 131072).1).2.1 (gnum b (gnum b (gnum b 0 131072).2.1 131072).2.1 131072).1).2.1) (nn - 3 * ((nn + 3) / 4))).1) (zs := ((dcF l ((gbytes b (gnum b (gnum b (gnum b 0 131072).2.1 131072).2.1 131072).2.1 (gnum b 0 131072).1).1) ((nn + 3) / 4)).1) ++ ((dcF l ((gbytes b (gbytes b (gnum b (gnum b (gnum b 0 131072).2.1 131072).2.1 131072).2.1 (gnum b 0 131072).1).2.1 (gnum b (gnum b 0 131072).2.1 131072).1).1) ((nn + 3) / 4)).1) ++ ((dcF l ((gbytes b (gbytes b (gbytes b (gnum b (gnum b (gnum b 0 131072).2.1 131072).2.1 131072).2.1 (gnum b 0 131072).1).2.1 (gnum b (gnum b 0 131072).2.1 131072).1).2.1 (gnum b (gnum b (gnum b 0 131072).2.1 131072).2.1 131072).1).1) ((nn + 3) / 4)).1) ++ ((dcF l (b.drop (gbytes b (gbytes b (gbytes b (gnum b (gnum b (gnum b 0 131072).2.1 131072).2.1 131072).2.1 (gnum b 0 131072).1).2.1 (gnum b (gnum b 0 131072).2.1 131072).1).2.1 (gnum b (gnum b (gnum b 0 131072).2.1 131072).2.1 131072).1).2.1) (nn - 3 * ((nn + 3) / 4))).1)) (k' := .u8) (tot := ka + kb + kc + kd) (by first | rfl | exact (rows_app _ _).symm | simp) underlying32 (ti := Tryz.t5) (z := .int .u8 0) (sz := 1) (by' := 1) rfl rfl rfl rfl rfl (by decide) rfl hO7 rfl h9d  (by omega) (by simp only [maxLen]; omega) (by omega) ?_
  intro a9 c9 w9 hU9 hzz9 hO9
  clear hO7
  have hzw9 := hU9.size
  replace HU := HU.trans hU9 (by intro x hx; have hx2 : ((((((((((x = w1.heap.size) ∧ x < w3.heap.size)) ∨ x = w3.heap.size)) ∧ x < w5.heap.size)) ∨ x = w5.heap.size)) ∧ x < w7.heap.size) := hx; show (False) ∨ w.heap.size ≤ x; omega)
  replace hO9 := hO9.tight
  have hl_hO9 := ilen hO9.sl
  have hc_hO9 := hO9.sl.cap.1
  refine Was (.slice a9 (ka + kb + kc + kd) c9) ?_
  refine Wl_nil (W_region ?_)
  refine Wmv (.int .i64 3) ?_
  refine Wl_v (r_add rfl rfl (show _ = (4 : Int) from by decide)) ?_
  refine Was (.int .i64 4) ?_
  refine Wl_nil ?_
  refine unrK_succ ?_
  refine W_seq (W_seq (W_region ?_))
  refine Wmv (.int .i64 4) ?_
  refine Wl_v (v := .bool false) (r_lt (a := 4) (b := 4) rfl rfl) ?_
  refine Wl_nil ?_
  refine W_cond_f rfl ?_
  refine W_exit ?_
  refine W_seq (W_region ?_)
  refine Wmv (.slice a9 (ka + kb + kc + kd) c9) ?_
  refine Was (.slice a9 (ka + kb + kc + kd) c9) ?_
  refine Was (.int .i64 0) ?_
  refine Wl_nil ?_
  refine W_ret ?_
  refine ret_end (v := .tuple #[.slice a9 (ka + kb + kc + kd) c9, .int .i64 0]) rfl (res2 results24 rfl rfl) ?_
  obtain ⟨hi0, hi1, hi2, hi3, hi4⟩ := d4F_inv q1
  have hF : (d4F l b nn).1 = (dcF l ((gbytes b (gnum b (gnum b (gnum b 0 131072).2.1 131072).2.1 131072).2.1 (gnum b 0 131072).1).1) ((nn + 3) / 4)).1 ++ ((dcF l ((gbytes b (gbytes b (gnum b (gnum b (gnum b 0 131072).2.1 131072).2.1 131072).2.1 (gnum b 0 131072).1).2.1 (gnum b (gnum b 0 131072).2.1 131072).1).1) ((nn + 3) / 4)).1 ++ ((dcF l ((gbytes b (gbytes b (gbytes b (gnum b (gnum b (gnum b 0 131072).2.1 131072).2.1 131072).2.1 (gnum b 0 131072).1).2.1 (gnum b (gnum b 0 131072).2.1 131072).1).2.1 (gnum b (gnum b (gnum b 0 131072).2.1 131072).2.1 131072).1).1) ((nn + 3) / 4)).1 ++ (dcF l (b.drop (gbytes b (gbytes b (gbytes b (gnum b (gnum b (gnum b 0 131072).2.1 131072).2.1 131072).2.1 (gnum b 0 131072).1).2.1 (gnum b (gnum b 0 131072).2.1 131072).1).2.1 (gnum b (gnum b (gnum b 0 131072).2.1 131072).2.1 131072).1).2.1) (nn - 3 * ((nn + 3) / 4))).1)) := by rw [d4F_ok hi0 hi1 hi2 hi3 hi4]
  exact ⟨_, rfl, a9, ka + kb + kc + kd, c9, (vtup2 rfl (vint (by omega))), ((hO9.weak (by intro g hg; have h3 : ((((((((((((((g = w1.heap.size) ∧ g < w3.heap.size)) ∨ g = w3.heap.size)) ∧ g < w5.heap.size)) ∨ g = w5.heap.size)) ∧ g < w7.heap.size)) ∨ g = w7.heap.size)) ∧ g < w9.heap.size) := hg; show w.heap.size ≤ g; omega)).icong (by rw [hF]; simp only [List.append_assoc])), HU⟩
 refine Wl_call (r_call3 rfl call31 rfl rfl rfl) (rea_all _ hs (by omega) hsb.any hb (by omega) (by omega)) ?_
 rintro v w10 ⟨a10, c10, G10, rfl, hW10, hG1_10, hU10⟩
 have hzw10 := hU10.size
 replace HU := HU.trans0 hU10
 refine Wmv (.tuple #[.slice a10 (nE l b nn) c10, .int .i64 ((d4F l b nn).2)]) ?_
 refine Wl_v (r_ext (v := .slice a10 (nE l b nn) c10) rfl rfl) ?_
 refine Wl_v (r_ext (v := .int .i64 ((d4F l b nn).2)) rfl rfl) ?_
 refine Was (.slice a10 (nE l b nn) c10) ?_
 refine Was (.int .i64 ((d4F l b nn).2)) ?_
 refine Wl_nil (W_seq (W_seq (W_region ?_)))
 refine Wmv (.int .i64 ((d4F l b nn).2)) ?_
 refine Wl_v (r_ne rfl rfl) ?_
 refine Wl_nil ?_
 have q3 : ((d4F l b nn).2) ≠ 0 := q1
 rw [decide_eq_true q3]
 refine W_cond_t rfl ?_
 refine W_seq (W_region ?_)
 refine Wmv (.int .i64 ((d4F l b nn).2)) ?_
 refine Was (.slice none 0 0) ?_
 refine Was (.int .i64 ((d4F l b nn).2)) ?_
 refine Wl_nil ?_
 refine W_ret ?_
 refine ret_end (v := .tuple #[.slice none 0 0, .int .i64 ((d4F l b nn).2)]) rfl (res2 results24 rfl rfl) ?_
 have hF := d4F_err q1
 exact ⟨_, rfl, none, 0, 0, rfl, (by rw [hF]; exact (Own.nil _ _ 5 1)), HU⟩
set_option maxHeartbeats 2000000 in
theorem fourdecodes {a a2 : Option Addr} {n c m d : Nat} {l b : List Int} {nn : Int} (w : World) (hs : Sl w (fun g => g < w.heap.size) 1 (.slice a n c) n (ints .i64 l)) (hn : n ≤ 17592186044415) (hsb : Sl w (fun g => g < w.heap.size) 1 (.slice a2 m d) m (ints .u8 b)) (hb : Byt b) (hm : m ≤ 140737488351232) (hni : -9223372036854775808 ≤ nn ∧ nn ≤ 9223372036854775807) :
  Calls Tryz.prog 7 #[.slice a n c, .slice a2 m d, .int .i64 nn] w (Ret fun v w' => v = .bool true ∧ Upd No w w') := by
 have HU := Upd.rno w
 have hl_hs := ilen hs
 have hc_hs := hs.cap.1
 have hl_hsb := ilen hsb
 have hc_hsb := hsb.cap.1
 refine calls_of_W func7 rfl ntmps7 (by simp) ?_
 refine W_seq (W_region ?_)
 refine Was (.bool false) ?_
 refine Wl_nil (W_seq (W_seq (W_region ?_)))
 refine Wmv (.slice a n c) ?_
 refine Wl_v (r_len underlying22 rfl) ?_
 refine Wl_v (r_gt rfl rfl) ?_
 refine Wmv (.bool (decide (300 < ((n : Nat) : Int)))) ?_
 by_cases q1 : 300 < ((n : Nat) : Int)
 ·rw [decide_eq_true q1]
  refine Wl_guard_f rfl (Wl_guard_f rfl (Wl_guard_f rfl ?_))
  refine Wl_v (r_pick_t (v := .bool true) rfl rfl) ?_
  refine Wl_nil ?_
  refine W_cond_t rfl ?_
  refine W_seq (W_region ?_)
  refine Wl_call (r_call0 rfl call16 ) (works18 _ ) ?_
  rintro v w1 ⟨rfl, hU1⟩
  have hzw1 := hU1.size
  replace HU := HU.trans0 hU1
  refine Was (.bool true) ?_
  refine Wl_nil ?_
  refine W_ret ?_
  refine ret_end (v := .bool true) rfl (res1 results7 rfl) ?_
  exact ⟨_, rfl, rfl, HU⟩
 rw [decide_eq_false q1]
 refine Wl_guard_t rfl ?_
 refine Wmv (.slice a2 m d) ?_
 refine Wl_guard_t rfl ?_
 refine Wl_v (r_len underlying32 rfl) ?_
 refine Wl_guard_t rfl ?_
 refine Wl_v (r_gt rfl rfl) ?_
 refine Wl_v (r_pick_f (v := .bool (decide (200 < ((m : Nat) : Int)))) rfl rfl) ?_
 refine Wl_nil ?_
 by_cases q2 : 200 < ((m : Nat) : Int)
 ·rw [decide_eq_true q2]
  refine W_cond_t rfl ?_
  refine W_seq (W_region ?_)
  refine Wl_call (r_call0 rfl call16 ) (works18 _ ) ?_
  rintro v w2 ⟨rfl, hU2⟩
  have hzw2 := hU2.size
  replace HU := HU.trans0 hU2
  refine Was (.bool true) ?_
  refine Wl_nil ?_
  refine W_ret ?_
  refine ret_end (v := .bool true) rfl (res1 results7 rfl) ?_
  exact ⟨_, rfl, rfl, HU⟩
 rw [decide_eq_false q2]
 refine W_cond_f rfl ?_
 refine W_skip (W_seq (W_region ?_))
 refine Wl_lit0 underlying32 sizeOf5 ?_
 intro B3 w3 hB3 hU3 hzz3 hs3
 have hzw3 := hU3.size
 replace hs := hs.upd0 hU3
 replace hsb := hsb.upd0 hU3
 replace HU := HU.trans0 hU3
 refine Wmv (.slice a2 m d) ?_
 refine Wl_appendi (xs := []) (ys := b) (zs := b) (k' := .u8) (tot := m) (by first | rfl | exact (rows_app _ _).symm | simp) underlying32 (ti := Tryz.t5) (z := .int .u8 0) (sz := 1) (by' := 1) rfl rfl rfl rfl rfl (by decide) rfl hs3 rfl hsb  (by omega) (by simp only [maxLen]; omega) (by omega) ?_
 intro a4 c4 w4 hU4 hzz4 hO4
 clear hs3
 have hzw4 := hU4.size
 replace hs := hs.upd hU4 (by intro x h1 h2; have h3 : x < w.heap.size := h1; have h4 : x = B3 := h2; omega)
 replace hsb := hsb.upd hU4 (by intro x h1 h2; have h3 : x < w.heap.size := h1; have h4 : x = B3 := h2; omega)
 replace HU := HU.trans hU4 (by intro x hx; have hx2 : x = B3 := hx; show (False) ∨ w.heap.size ≤ x; omega)
 replace hO4 := hO4.tight
 have hl_hO4 := ilen hO4.sl
 have hc_hO4 := hO4.sl.cap.1
 refine Was (.slice a4 m c4) ?_
 refine Wl_nil (W_seq (W_region ?_))
 refine Wmv (.slice a n c) ?_
 refine Wmv (.slice a4 m c4) ?_
 refine Wmv (.int .i64 nn) ?_
 refine Wl_call (r_call3 rfl call23 rfl rfl rfl) (fdec_spec _ hs (by omega) hO4.sl.any hb (by omega) (by omega)) ?_
 rintro v w5 ⟨a5, m5, c5, rfl, hO5, hU5⟩
 have hzw5 := hU5.size
 replace hs := hs.upd0 hU5
 replace hsb := hsb.upd0 hU5
 replace HU := HU.trans0 hU5
 replace hO4 := hO4.upd0 hU5
 replace hO5 := hO5.tight
 have hl_hO5 := ilen hO5.sl
 have hc_hO5 := hO5.sl.cap.1
 refine Wmv (.tuple #[.slice a5 m5 c5, .int .i64 ((d4F l b nn).2)]) ?_
 refine Wl_v (r_ext (v := .slice a5 m5 c5) rfl rfl) ?_
 refine Wl_v (r_ext (v := .int .i64 ((d4F l b nn).2)) rfl rfl) ?_
 refine Was (.slice a5 m5 c5) ?_
 refine Was (.int .i64 ((d4F l b nn).2)) ?_
 refine Wl_nil (W_seq (W_region ?_))
 refine Wmv (.slice a n c) ?_
 refine Wmv (.slice a2 m d) ?_
 refine Wmv (.int .i64 nn) ?_
 refine Wl_call (r_call3 rfl call24 rfl rfl rfl) (rdec4 _ hs (by omega) hsb.any hb (by omega) (by omega)) ?_
 rintro v w6 ⟨a6, m6, c6, rfl, hO6, hU6⟩
 have hzw6 := hU6.size
 replace hsb := hsb.upd0 hU6
 replace HU := HU.trans0 hU6
 replace hO4 := hO4.upd0 hU6
 replace hO5 := hO5.upd0 hU6
 replace hO6 := hO6.tight
 have hl_hO6 := ilen hO6.sl
 have hc_hO6 := hO6.sl.cap.1
 refine Wmv (.tuple #[.slice a6 m6 c6, .int .i64 ((d4F l b nn).2)]) ?_
 refine Wl_v (r_ext (v := .slice a6 m6 c6) rfl rfl) ?_
 refine Wl_v (r_ext (v := .int .i64 ((d4F l b nn).2)) rfl rfl) ?_
 refine Was (.slice a6 m6 c6) ?_
 refine Was (.int .i64 ((d4F l b nn).2)) ?_
 refine Wl_nil (W_seq (W_region ?_))
 refine Wmv (.slice a5 m5 c5) ?_
 refine Wmv (.int .i64 ((d4F l b nn).2)) ?_
 refine Wmv (.slice a6 m6 c6) ?_
 refine Wl_bstr underlying32 underlying5 underlying9 rfl hO6.sl ?_
 refine Wmv (.int .i64 ((d4F l b nn).2)) ?_
 refine Wl_call (r_call4 rfl call19 rfl rfl rfl rfl) (is18 (y := (d4F l b nn).1) _ hO5.sl.any (d4F_byt _ _ _) (d4F_byt _ _ _)) ?_
 rintro v w7 ⟨rfl, hU7⟩
 have hzw7 := hU7.size
 replace hsb := hsb.upd0 hU7
 replace HU := HU.trans0 hU7
 replace hO4 := hO4.upd0 hU7
 refine Wmv (.bool (decide ((((d4F l b nn).1) : List Int) = ((d4F l b nn).1) ∧ (((d4F l b nn).2) : Int) = ((d4F l b nn).2)))) ?_
 have q3 : (((d4F l b nn).1) : List Int) = ((d4F l b nn).1) ∧ (((d4F l b nn).2) : Int) = ((d4F l b nn).2) := ⟨rfl, rfl⟩
 rw [decide_eq_true q3]
 refine Wl_guard_t rfl ?_
 refine Wmv (.slice a4 m c4) ?_
 refine Wl_guard_t rfl ?_
 refine Wl_bstr underlying32 underlying5 underlying9 rfl hO4.sl ?_
 refine Wl_guard_t rfl ?_
 refine Wmv (.slice a2 m d) ?_
 refine Wl_guard_t rfl ?_
 refine Wl_bstr underlying32 underlying5 underlying9 rfl hsb ?_
 refine Wl_guard_t rfl ?_
 refine Wl_v (r_eqstr (show Byt b from hb) (show Byt b from hb) rfl rfl) ?_
 refine Wl_v (r_pick_t (v := .bool (decide (b = b))) rfl rfl) ?_
 refine Wmv (.bool (decide (b = b))) ?_
 have q4 : b = b := rfl
 rw [decide_eq_true q4]
 refine Wl_guard_t rfl ?_
 refine Wl_call (r_call0 rfl call16 ) (works18 _ ) ?_
 rintro v w8 ⟨rfl, hU8⟩
 have hzw8 := hU8.size
 replace HU := HU.trans0 hU8
 refine Wl_v (r_pick_t (v := .bool true) rfl rfl) ?_
 refine Was (.bool true) ?_
 refine Wl_nil ?_
 refine W_ret ?_
 refine ret_end (v := .bool true) rfl (res1 results7 rfl) ?_
 exact ⟨_, rfl, rfl, HU⟩
end Go.Proofs.YtdppageondgjkaaGreat
