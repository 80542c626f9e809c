/-
  Several texts of this project, put together.
-/
import Derived.Test.YtbjjhfoeckkacaaDoorSQ
set_option linter.unusedVariables false
set_option linter.unusedSimpArgs false
set_option linter.deprecated false
set_option maxRecDepth 100000
namespace Go.Proofs.YtbjjhfoeckkacaaDoor
open Go.Fw _root_.Go.Proofs.Tryd
set_option maxHeartbeats 4000000 in
theorem showreads {a : Option Addr} {n c : Nat} {bs : List Int} {g0 : Nat} {i : Int} (w : World) (ht : Tab w g0) (hs : Sl w (fun g => g < w.heap.size) 1 (.slice a n c) n (ints .u8 bs)) (hb : Byt bs) (hm9 : n ≤ 140737488351232) :
  Calls Tryd.prog 8 #[.slice a n c, .int .i64 i] w (Ret fun v w' => v = .bool true ∧ Upd No w w') := by
 have HU := Upd.rno w
 have hl_hs := ilen hs
 have hc_hs := hs.cap.1
 have htl := ht.1
 refine calls_of_W func8 rfl ntmps8 (by simp) ?_
 refine W_seq (W_region ?_)
 refine Was (.bool false) ?_
 refine Wl_nil (W_seq (W_seq (W_region ?_)))
 refine Wmv (.slice a n c) ?_
 refine Wl_v (r_len underlying22 rfl) ?_
 refine Wl_v (r_gt rfl rfl) ?_
 refine Wl_nil ?_
 by_cases q1 : 600 < ((n : Nat) : Int)
 ·rw [decide_eq_true q1]
  refine W_cond_t rfl ?_
  refine W_seq (W_region ?_)
  refine Wl_call (r_call0 rfl call10 ) (works44 _ ht) ?_
  rintro v w1 ⟨rfl, hU1⟩
  have hzw1 := hU1.size
  replace HU := HU.trans0 hU1
  refine Was (.bool true) ?_
  refine Wl_nil ?_
  refine W_ret ?_
  refine ret_end (v := .bool true) rfl (res1 results8 rfl) ?_
  exact ⟨_, rfl, rfl, HU⟩
 rw [decide_eq_false q1]
 refine W_cond_f rfl ?_
 refine W_skip (W_seq (W_region ?_))
 refine Wmv (.slice a n c) ?_
 by_cases q2 : (ga bs 0).2 = 0
 ·refine Wl_call (r_call1 rfl call19 rfl) (read_ok _ hs.any hb (by omega) q2) ?_
  rintro v w2 ⟨a2, m2, c2, rfl, hT2, hU2⟩
  have hzw2 := hU2.size
  replace ht := ht.upd0 hU2
  replace hs := hs.upd0 hU2
  replace HU := HU.trans0 hU2
  obtain ⟨vs3, hv3, hS3, hP3⟩ := hT2
  have hl_hS3 := rlen encP_len (by decide) hS3
  have hc_hS3 := hS3.cap.1
  have hlm3 : (ga bs 0).1.length = m2 := by rw [← hv3, List.length_map]; exact hl_hS3
  refine Wmv (.tuple #[.slice a2 m2 c2, .int .i64 0]) ?_
  refine Wl_v (r_ext (v := .slice a2 m2 c2) rfl rfl) ?_
  refine Wl_v (r_ext (v := .int .i64 0) rfl rfl) ?_
  refine Was (.slice a2 m2 c2) ?_
  refine Was (.int .i64 0) ?_
  refine Wl_nil (W_seq (W_region ?_))
  refine Wmv (.slice a n c) ?_
  refine Wl_call (r_call1 rfl call12 rfl) (rread_spec _ hs.any hb (by omega)) ?_
  rintro v w4 ⟨a4, m4, c4, rfl, hT4, hU4⟩
  have hzw4 := hU4.size
  replace ht := ht.upd0 hU4
  replace hs := hs.upd0 hU4
  replace HU := HU.trans0 hU4
  replace hS3 := hS3.upd0 hU4
  replace hP3 := hP3.upd0 hU4
  rw [q2]
  obtain ⟨vs5, hv5, hS5, hP5⟩ := hT4
  have hl_hS5 := rlen encP_len (by decide) hS5
  have hc_hS5 := hS5.cap.1
  have hlm5 : (ga bs 0).1.length = m4 := by rw [← hv5, List.length_map]; exact hl_hS5
  refine Wmv (.tuple #[.slice a4 m4 c4, .int .i64 0]) ?_
  refine Wl_v (r_ext (v := .slice a4 m4 c4) rfl rfl) ?_
  refine Wl_v (r_ext (v := .int .i64 0) rfl rfl) ?_
  refine Was (.slice a4 m4 c4) ?_
  refine Was (.int .i64 0) ?_
  refine Wl_nil (W_seq (W_region ?_))
  refine Wmv (.slice a n c) ?_
  refine Wmv (.int .i64 i) ?_
  by_cases q3 : 0 ≤ i ∧ i < ((ga bs 0).1.length : Int)
  ·refine Wl_call (r_call2 rfl call20 rfl rfl) (one_ok _ hs.any hb (by omega) q2 q3) ?_
   rintro v w6 ⟨a6, m6, c6, rfl, hB6, hU6⟩
   have hzw6 := hU6.size
   replace ht := ht.upd0 hU6
   replace HU := HU.trans0 hU6
   replace hS3 := hS3.upd0 hU6
   replace hP3 := hP3.upd0 hU6
   replace hS5 := hS5.upd0 hU6
   replace hP5 := hP5.upd0 hU6
   have hl_hB6 := rlen encK_len (by decide) hB6
   have hc_hB6 := hB6.cap.1
   have hok2 := (ga_okd hb (by omega) i.toNat).2.2
   refine Wmv (.tuple #[.agg #[.int .i64 (((ga bs 0).1.getD i.toNat pt0).at_), .int .i64 (((ga bs 0).1.getD i.toNat pt0).sz), .bool (decide (((ga bs 0).1.getD i.toNat pt0).sk = true)), .int .i64 (((ga bs 0).1.getD i.toNat pt0).pl), .int .i64 (((ga bs 0).1.getD i.toNat pt0).hd.1), .int .i64 (((ga bs 0).1.getD i.toNat pt0).hd.2.1), .int .u32 (((ga bs 0).1.getD i.toNat pt0).hd.2.2.1), .bool (decide (((ga bs 0).1.getD i.toNat pt0).hd.2.2.2 = true)), .slice a6 m6 c6, .int .u32 (((ga bs 0).1.getD i.toNat pt0).ck)], .int .i64 0]) ?_
   refine Wl_v (r_ext (v := .agg #[.int .i64 (((ga bs 0).1.getD i.toNat pt0).at_), .int .i64 (((ga bs 0).1.getD i.toNat pt0).sz), .bool (decide (((ga bs 0).1.getD i.toNat pt0).sk = true)), .int .i64 (((ga bs 0).1.getD i.toNat pt0).pl), .int .i64 (((ga bs 0).1.getD i.toNat pt0).hd.1), .int .i64 (((ga bs 0).1.getD i.toNat pt0).hd.2.1), .int .u32 (((ga bs 0).1.getD i.toNat pt0).hd.2.2.1), .bool (decide (((ga bs 0).1.getD i.toNat pt0).hd.2.2.2 = true)), .slice a6 m6 c6, .int .u32 (((ga bs 0).1.getD i.toNat pt0).ck)]) rfl rfl) ?_
   refine Wl_v (r_ext (v := .int .i64 0) rfl rfl) ?_
   refine Wl_alloc (cs := [.int .i64 0, .int .i64 0, .bool false, .int .i64 0, .int .i64 0, .int .i64 0, .int .u32 0, .bool false, .slice none 0 0, .int .u32 0]) zeroValue45 rfl ?_
   intro B7 w7 hB7 hU7 hzz7 hb7
   have hzw7 := hU7.size
   replace ht := ht.upd0 hU7
   replace HU := HU.trans0 hU7
   replace hS3 := hS3.upd0 hU7
   replace hP3 := hP3.upd0 hU7
   replace hS5 := hS5.upd0 hU7
   replace hP5 := hP5.upd0 hU7
   replace hB6 := hB6.upd0 hU7
   refine Wl_storea (off := 0) (vs := [.int .i64 (((ga bs 0).1.getD i.toNat pt0).at_), .int .i64 (((ga bs 0).1.getD i.toNat pt0).sz), .bool (decide (((ga bs 0).1.getD i.toNat pt0).sk = true)), .int .i64 (((ga bs 0).1.getD i.toNat pt0).pl), .int .i64 (((ga bs 0).1.getD i.toNat pt0).hd.1), .int .i64 (((ga bs 0).1.getD i.toNat pt0).hd.2.1), .int .u32 (((ga bs 0).1.getD i.toNat pt0).hd.2.2.1), .bool (decide (((ga bs 0).1.getD i.toNat pt0).hd.2.2.2 = true)), .slice a6 m6 c6, .int .u32 (((ga bs 0).1.getD i.toNat pt0).ck)]) (cs' := [.int .i64 (((ga bs 0).1.getD i.toNat pt0).at_), .int .i64 (((ga bs 0).1.getD i.toNat pt0).sz), .bool (decide (((ga bs 0).1.getD i.toNat pt0).sk = true)), .int .i64 (((ga bs 0).1.getD i.toNat pt0).pl), .int .i64 (((ga bs 0).1.getD i.toNat pt0).hd.1), .int .i64 (((ga bs 0).1.getD i.toNat pt0).hd.2.1), .int .u32 (((ga bs 0).1.getD i.toNat pt0).hd.2.2.1), .bool (decide (((ga bs 0).1.getD i.toNat pt0).hd.2.2.2 = true)), .slice a6 m6 c6, .int .u32 (((ga bs 0).1.getD i.toNat pt0).ck)]) sizeOf45 rfl rfl rfl (by simp only [List.mem_cons, List.not_mem_nil, or_false, forall_eq_or_imp, forall_eq]; exact ⟨rfl, rfl, rfl, rfl, rfl, rfl, rfl, rfl, rfl, rfl⟩) hb7 (by simp) rfl ?_
   intro w8 hU8 hzz8 hb7n
   replace hb7 := hb7n; clear hb7n
   have hzw8 := hU8.size
   replace ht := ht.upd1 hU8 (by omega)
   replace HU := HU.t1 hU8 (by omega)
   replace hS3 := hS3.upd1 hU8 (show ¬ ((w.heap.size ≤ B7 ∧ B7 < w2.heap.size)) by omega)
   replace hP3 := hP3.upd1 hU8 (by omega)
   replace hS5 := hS5.upd1 hU8 (show ¬ ((w2.heap.size ≤ B7 ∧ B7 < w4.heap.size)) by omega)
   replace hP5 := hP5.upd1 hU8 (by omega)
   replace hB6 := hB6.upd1 hU8 (show ¬ ((w4.heap.size ≤ B7 ∧ B7 < w6.heap.size)) by omega)
   refine Was (.int .i64 0) ?_
   refine Wl_nil (W_seq (W_seq (W_region ?_)))
   refine Wmv (.int .i64 0) ?_
   refine Wl_call (r_call1 rfl call13 rfl) (num44 _ ) ?_
   rintro v w9 ⟨rfl, hU9⟩
   have hzw9 := hU9.size
   replace ht := ht.upd0 hU9
   replace HU := HU.trans0 hU9
   replace hS3 := hS3.upd0 hU9
   replace hP3 := hP3.upd0 hU9
   replace hS5 := hS5.upd0 hU9
   replace hP5 := hP5.upd0 hU9
   replace hB6 := hB6.upd0 hU9
   replace hb7 := hb7.upd0 hU9
   refine Wmv (.int .i64 0) ?_
   refine Wl_v (v := .bool false) (r_ne (a := 0) (b := 0) rfl rfl) ?_
   refine Wl_nil ?_
   refine W_cond_f rfl ?_
   refine W_skip (W_seq (W_seq (W_region ?_)))
   refine Wmv (.int .i64 0) ?_
   refine Wl_v (v := .bool false) (r_ne (a := 0) (b := 0) rfl rfl) ?_
   refine Wl_nil ?_
   refine W_cond_f rfl ?_
   refine W_skip (W_seq (W_seq (W_region ?_)))
   refine Wmv (.slice a2 m2 c2) ?_
   refine Wl_v (r_len underlying57 rfl) ?_
   refine Wmv (.slice a4 m4 c4) ?_
   refine Wl_v (r_len underlying29 rfl) ?_
   refine Wl_v (r_ne rfl rfl) ?_
   refine Wl_nil ?_
   have q4 : ¬ (((m2 : Nat) : Int) ≠ ((m4 : Nat) : Int)) := (by omega)
   rw [decide_eq_false q4]
   refine W_cond_f rfl ?_
   refine W_skip (W_seq (W_seq (W_region ?_)))
   refine Was (.int .i64 0) ?_
   refine Wl_nil (W_block ?_)
   refine W_loop (fun mu ρ ds w' => ∃ (k : Nat), m2 - k = mu ∧ ds = [] ∧ Liv ρ [(1, .int .i64 i), (5, .slice a2 m2 c2), (7, .slice a4 m4 c4), (9, .pointer (some ⟨B7, 0, none⟩)), (10, .int .i64 0), (11, .int .i64 ((k : Nat) : Int))] ∧ k ≤ m2 ∧ Upd No w9 w') _ ⟨0, rfl, rfl, ⟨rfl, rfl, rfl, rfl, rfl, (by first | rfl | exact vint (by omega) | exact vint (by simp)), trivial⟩, (by omega), Upd.refl _ _⟩ ?_
   rintro m10 ρ10 ds10 w10 ⟨k, rfl, rfl, hl10, hk, hU10⟩
   obtain ⟨ρ10x, rfl⟩ : ∃ ρx, ρ10 = upds ρx [(1, .int .i64 i), (5, .slice a2 m2 c2), (7, .slice a4 m4 c4), (9, .pointer (some ⟨B7, 0, none⟩)), (10, .int .i64 0), (11, .int .i64 ((k : Nat) : Int))] := ⟨_, upds_self hl10⟩
   clear hl10
   have hzw10 := hU10.size
   replace ht := ht.upd0 hU10
   replace HU := HU.trans0 hU10
   replace hS3 := hS3.upd0 hU10
   replace hP3 := hP3.upd0 hU10
   replace hS5 := hS5.upd0 hU10
   replace hP5 := hP5.upd0 hU10
   replace hB6 := hB6.upd0 hU10
   replace hb7 := hb7.upd0 hU10
   have hoks := (ga_okd hb (by omega) k).2.2
   have hgn := ga_len hb (by omega)
   have HL10 := hU10
   refine W_seq (W_seq (W_region ?_))
   refine Wmv (.int .i64 ((k : Nat) : Int)) ?_
   refine Wmv (.slice a2 m2 c2) ?_
   refine Wl_v (r_len underlying57 rfl) ?_
   refine Wl_v (r_lt rfl rfl) ?_
   refine Wl_nil ?_
   by_cases q5 : ((k : Nat) : Int) < ((m2 : Nat) : Int)
   ·rw [decide_eq_true q5]
    refine W_cond_t rfl ?_
    refine W_skip (W_seq (W_block (W_seq ?_)))
    refine W_drawt rfl (l0 := tf 0 10) (by kernel_rfl) ?_
    refine Tk 0 (tf 1 10) rfl (YI_v (v := .slice a2 m2 c2) rfl (fun w' hw' => r_mv (v := .slice a2 m2 c2) rfl)) ?_
    refine Tk 1 (tf 2 10) rfl (YI_v (v := .int .i64 ((k : Nat) : Int)) rfl (fun w' hw' => r_mv (v := .int .i64 ((k : Nat) : Int)) rfl)) ?_
    obtain ⟨ib11, io11, ha11, hib11, hc11⟩ := Sl.rat pv0 encP_len (by decide) (hS3) (i := k) (by omega)
    obtain ⟨ba12, bm12, bc12, hbe12⟩ := gd_part (i := k) hv3
    rw [hbe12] at hc11
    have hB13 := hPget hP3 hbe12 (by omega)
    have hl_hB13 := rlen encK_len (by decide) hB13
    have hc_hB13 := hB13.cap.1
    refine Tk 2 (tf 3 10) rfl (YI_v (v := .pointer (some ⟨ib11, io11 + k * 10, none⟩)) rfl (fun w' hw' => r_idx (b := ib11) (off := io11) (m := m2) (c := c2) (o' := io11 + k * 10) underlying57 sizeOf45 (by rw [← ha11]; rfl) rfl (by omega) (by omega) (by omega))) ?_
    refine Tk 3 (tf 4 10) rfl (YI_v (v := .agg #[.int .i64 (((ga bs 0).1.getD k pt0).at_), .int .i64 (((ga bs 0).1.getD k pt0).sz), .bool (decide (((ga bs 0).1.getD k pt0).sk = true)), .int .i64 (((ga bs 0).1.getD k pt0).pl), .int .i64 (((ga bs 0).1.getD k pt0).hd.1), .int .i64 (((ga bs 0).1.getD k pt0).hd.2.1), .int .u32 (((ga bs 0).1.getD k pt0).hd.2.2.1), .bool (decide (((ga bs 0).1.getD k pt0).hd.2.2.2 = true)), .slice ba12 bm12 bc12, .int .u32 (((ga bs 0).1.getD k pt0).ck)]) rfl (fun w' hw' => r_loada (cs := [.int .i64 (((ga bs 0).1.getD k pt0).at_), .int .i64 (((ga bs 0).1.getD k pt0).sz), .bool (decide (((ga bs 0).1.getD k pt0).sk = true)), .int .i64 (((ga bs 0).1.getD k pt0).pl), .int .i64 (((ga bs 0).1.getD k pt0).hd.1), .int .i64 (((ga bs 0).1.getD k pt0).hd.2.1), .int .u32 (((ga bs 0).1.getD k pt0).hd.2.2.1), .bool (decide (((ga bs 0).1.getD k pt0).hd.2.2.2 = true)), .slice ba12 bm12 bc12, .int .u32 (((ga bs 0).1.getD k pt0).ck)]) isAgg45 sizeOf45 rfl rfl (hw'.cellsk rfl hc11))) ?_
    refine Tk 4 (tf 5 10) rfl (YI_v (v := .slice a4 m4 c4) rfl (fun w' hw' => r_mv (v := .slice a4 m4 c4) rfl)) ?_
    refine Tk 5 (tf 6 10) rfl (YI_v (v := .int .i64 ((k : Nat) : Int)) rfl (fun w' hw' => r_mv (v := .int .i64 ((k : Nat) : Int)) rfl)) ?_
    obtain ⟨ib14, io14, ha14, hib14, hc14⟩ := Sl.rat pv0 encP_len (by decide) (hS5) (i := k) (by omega)
    obtain ⟨ba15, bm15, bc15, hbe15⟩ := gd_part (i := k) hv5
    rw [hbe15] at hc14
    have hB16 := hPget hP5 hbe15 (by omega)
    have hl_hB16 := rlen encK_len (by decide) hB16
    have hc_hB16 := hB16.cap.1
    have hbq : bm12 = bm15 := by omega
    subst hbq
    refine Tk 6 (tf 7 10) rfl (YI_v (v := .pointer (some ⟨ib14, io14 + k * 10, none⟩)) rfl (fun w' hw' => r_idx (b := ib14) (off := io14) (m := m4) (c := c4) (o' := io14 + k * 10) underlying29 sizeOf48 (by rw [← ha14]; rfl) rfl (by omega) (by omega) (by omega))) ?_
    refine Tk 7 (tf 8 10) rfl (YI_v (v := .agg #[.int .i64 (((ga bs 0).1.getD k pt0).at_), .int .i64 (((ga bs 0).1.getD k pt0).sz), .bool (decide (((ga bs 0).1.getD k pt0).sk = true)), .int .i64 (((ga bs 0).1.getD k pt0).pl), .int .i64 (((ga bs 0).1.getD k pt0).hd.1), .int .i64 (((ga bs 0).1.getD k pt0).hd.2.1), .int .u32 (((ga bs 0).1.getD k pt0).hd.2.2.1), .bool (decide (((ga bs 0).1.getD k pt0).hd.2.2.2 = true)), .slice ba15 bm12 bc15, .int .u32 (((ga bs 0).1.getD k pt0).ck)]) rfl (fun w' hw' => r_loada (cs := [.int .i64 (((ga bs 0).1.getD k pt0).at_), .int .i64 (((ga bs 0).1.getD k pt0).sz), .bool (decide (((ga bs 0).1.getD k pt0).sk = true)), .int .i64 (((ga bs 0).1.getD k pt0).pl), .int .i64 (((ga bs 0).1.getD k pt0).hd.1), .int .i64 (((ga bs 0).1.getD k pt0).hd.2.1), .int .u32 (((ga bs 0).1.getD k pt0).hd.2.2.1), .bool (decide (((ga bs 0).1.getD k pt0).hd.2.2.2 = true)), .slice ba15 bm12 bc15, .int .u32 (((ga bs 0).1.getD k pt0).ck)]) isAgg48 sizeOf48 rfl rfl (hw'.cellsk rfl hc14))) ?_
    refine Tk 8 (tf 9 10) rfl (YI_c (v := .bool true) rfl (fun w' => r_call2 rfl call21 rfl rfl) (fun w' hw' => same44 w' ((hB13.upd0 hw').any) ((hB16.upd0 hw').any) (by omega))) ?_
    refine Tk 9 (tf 10 10) rfl (YI_v (v := .bool false) rfl (fun w' hw' => r_not (b := true) rfl)) ?_
    intro w17 hU17
    have hzw17 := hU17.size
    replace HL10 := HL10.trans0 hU17
    refine Wa_done (by kernel_rfl) ?_
    refine W_cond_f rfl ?_
    refine W_skip (W_region ?_)
    refine Wmv (.int .i64 ((k : Nat) : Int)) ?_
    refine Wl_v (r_add rfl rfl (wi64 (by omega) (by omega))) ?_
    refine Was (.int .i64 (((k : Nat) : Int) + 1)) ?_
    refine Wl_nil ?_
    refine ⟨_, ?_, (k + 1), rfl, rfl, ⟨rfl, rfl, rfl, rfl, rfl, (Eq.trans (b := .int .i64 (((k : Nat) : Int) + 1)) rfl (vint (by omega))), trivial⟩, (by omega), HL10⟩
    omega
   rw [decide_eq_false q5]
   refine W_cond_f rfl ?_
   refine W_exit ?_
   refine W_seq (W_seq (W_region ?_))
   refine Wmv (.int .i64 i) ?_
   refine Wl_v (r_lt rfl rfl) ?_
   refine Wmv (.bool (decide (i < 0))) ?_
   have q6 : ¬ (i < 0) := (by omega)
   rw [decide_eq_false q6]
   refine Wl_guard_t rfl ?_
   refine Wmv (.int .i64 i) ?_
   refine Wl_guard_t rfl ?_
   refine Wmv (.slice a4 m4 c4) ?_
   refine Wl_guard_t rfl ?_
   refine Wl_v (r_len underlying29 rfl) ?_
   refine Wl_guard_t rfl ?_
   refine Wl_v (r_ge rfl rfl) ?_
   refine Wl_v (r_pick_f (v := .bool (decide (((m4 : Nat) : Int) ≤ i))) rfl rfl) ?_
   refine Wl_nil ?_
   have q7 : ¬ (((m4 : Nat) : Int) ≤ i) := (by omega)
   rw [decide_eq_false q7]
   refine W_cond_f rfl ?_
   refine W_skip (W_seq ?_)
   refine W_drawt rfl (l0 := tf 0 15) (by kernel_rfl) ?_
   refine Tk 0 (tf 1 15) rfl (YI_v (v := .int .i64 0) rfl (fun w' hw' => r_mv (v := .int .i64 0) rfl)) ?_
   refine Tk 1 (tf 2 15) rfl (YI_c (v := .int .i64 0) rfl (fun w' => r_call1 rfl call13 rfl) (fun w' hw' => num44 w' )) ?_
   refine Tk 2 (tf 3 15) rfl (YI_v (v := .bool true) rfl (fun w' hw' => r_eq (a := 0) (b := 0) rfl rfl)) ?_
   refine Tk 3 (tf 4 15) rfl (YI_v (v := .bool true) rfl (fun w' hw' => r_mv (v := .bool true) rfl)) ?_
   refine Tk 4 (tf 5 15) rfl (YI_v (v := .agg #[.int .i64 (((ga bs 0).1.getD i.toNat pt0).at_), .int .i64 (((ga bs 0).1.getD i.toNat pt0).sz), .bool (decide (((ga bs 0).1.getD i.toNat pt0).sk = true)), .int .i64 (((ga bs 0).1.getD i.toNat pt0).pl), .int .i64 (((ga bs 0).1.getD i.toNat pt0).hd.1), .int .i64 (((ga bs 0).1.getD i.toNat pt0).hd.2.1), .int .u32 (((ga bs 0).1.getD i.toNat pt0).hd.2.2.1), .bool (decide (((ga bs 0).1.getD i.toNat pt0).hd.2.2.2 = true)), .slice a6 m6 c6, .int .u32 (((ga bs 0).1.getD i.toNat pt0).ck)]) rfl (fun w' hw' => r_loada (b := B7) (off := 0) (cs := [.int .i64 (((ga bs 0).1.getD i.toNat pt0).at_), .int .i64 (((ga bs 0).1.getD i.toNat pt0).sz), .bool (decide (((ga bs 0).1.getD i.toNat pt0).sk = true)), .int .i64 (((ga bs 0).1.getD i.toNat pt0).pl), .int .i64 (((ga bs 0).1.getD i.toNat pt0).hd.1), .int .i64 (((ga bs 0).1.getD i.toNat pt0).hd.2.1), .int .u32 (((ga bs 0).1.getD i.toNat pt0).hd.2.2.1), .bool (decide (((ga bs 0).1.getD i.toNat pt0).hd.2.2.2 = true)), .slice a6 m6 c6, .int .u32 (((ga bs 0).1.getD i.toNat pt0).ck)]) isAgg45 sizeOf45 rfl rfl (fun j hj => by rw [(hb7.upd0 hw').cell]; match j, hj with | 0, _ => rfl | 1, _ => rfl | 2, _ => rfl | 3, _ => rfl | 4, _ => rfl | 5, _ => rfl | 6, _ => rfl | 7, _ => rfl | 8, _ => rfl | 9, _ => rfl))) ?_
   refine Tk 5 (tf 6 15) rfl (YI_v (v := .slice a4 m4 c4) rfl (fun w' hw' => r_mv (v := .slice a4 m4 c4) rfl)) ?_
   refine Tk 6 (tf 7 15) rfl (YI_v (v := .int .i64 i) rfl (fun w' hw' => r_mv (v := .int .i64 i) rfl)) ?_
   obtain ⟨ib18, io18, ha18, hib18, hc18⟩ := Sl.rat pv0 encP_len (by decide) (hS5) (i := (i).toNat) (by omega)
   obtain ⟨ba19, bm19, bc19, hbe19⟩ := gd_part (i := (i).toNat) hv5
   rw [hbe19] at hc18
   have hB20 := hPget hP5 hbe19 (by omega)
   have hl_hB20 := rlen encK_len (by decide) hB20
   have hc_hB20 := hB20.cap.1
   have hbq : m6 = bm19 := by omega
   subst hbq
   refine Tk 7 (tf 8 15) rfl (YI_v (v := .pointer (some ⟨ib18, io18 + ((i).toNat) * 10, none⟩)) rfl (fun w' hw' => r_idx (b := ib18) (off := io18) (m := m4) (c := c4) (o' := io18 + ((i).toNat) * 10) underlying29 sizeOf48 (by rw [← ha18]; rfl) rfl (by omega) (by omega) (by omega))) ?_
   refine Tk 8 (tf 9 15) rfl (YI_v (v := .agg #[.int .i64 (((ga bs 0).1.getD ((i).toNat) pt0).at_), .int .i64 (((ga bs 0).1.getD ((i).toNat) pt0).sz), .bool (decide (((ga bs 0).1.getD ((i).toNat) pt0).sk = true)), .int .i64 (((ga bs 0).1.getD ((i).toNat) pt0).pl), .int .i64 (((ga bs 0).1.getD ((i).toNat) pt0).hd.1), .int .i64 (((ga bs 0).1.getD ((i).toNat) pt0).hd.2.1), .int .u32 (((ga bs 0).1.getD ((i).toNat) pt0).hd.2.2.1), .bool (decide (((ga bs 0).1.getD ((i).toNat) pt0).hd.2.2.2 = true)), .slice ba19 m6 bc19, .int .u32 (((ga bs 0).1.getD ((i).toNat) pt0).ck)]) rfl (fun w' hw' => r_loada (cs := [.int .i64 (((ga bs 0).1.getD ((i).toNat) pt0).at_), .int .i64 (((ga bs 0).1.getD ((i).toNat) pt0).sz), .bool (decide (((ga bs 0).1.getD ((i).toNat) pt0).sk = true)), .int .i64 (((ga bs 0).1.getD ((i).toNat) pt0).pl), .int .i64 (((ga bs 0).1.getD ((i).toNat) pt0).hd.1), .int .i64 (((ga bs 0).1.getD ((i).toNat) pt0).hd.2.1), .int .u32 (((ga bs 0).1.getD ((i).toNat) pt0).hd.2.2.1), .bool (decide (((ga bs 0).1.getD ((i).toNat) pt0).hd.2.2.2 = true)), .slice ba19 m6 bc19, .int .u32 (((ga bs 0).1.getD ((i).toNat) pt0).ck)]) isAgg48 sizeOf48 rfl rfl (hw'.cellsk rfl hc18))) ?_
   refine Tk 9 (tf 10 15) rfl (YI_c (v := .bool true) rfl (fun w' => r_call2 rfl call21 rfl rfl) (fun w' hw' => same44 w' ((hB6.upd0 hw').any) ((hB20.upd0 hw').any) (by omega))) ?_
   refine Tk 10 (tf 11 15) rfl (YI_v rfl (fun w' hw' => r_pick_t (v := .bool true) rfl rfl)) ?_
   refine Tk 11 (tf 12 15) rfl (YI_v (v := .bool true) rfl (fun w' hw' => r_mv (v := .bool true) rfl)) ?_
   refine Tk 12 (tf 13 15) rfl (YI_c (v := .bool true) rfl (fun w' => r_call0 rfl call10 ) (fun w' hw' => works44 w' (ht.upd0 hw'))) ?_
   refine Tk 13 (tf 14 15) rfl (YI_v rfl (fun w' hw' => r_pick_t (v := .bool true) rfl rfl)) ?_
   refine Tk 14 (tf 15 15) rfl (YI_v (v := .bool true) rfl (fun w' hw' => r_as (v := .bool true) rfl)) ?_
   intro w21 hU21
   have hzw21 := hU21.size
   replace HU := HU.trans0 hU21
   refine Wa_done (by kernel_rfl) ?_
   refine W_ret ?_
   refine ret_end (v := .bool true) rfl (res1 results8 rfl) ?_
   exact ⟨_, rfl, rfl, HU⟩
  refine Wl_call (r_call2 rfl call20 rfl rfl) (one_rng _ hs.any hb (by omega) q2 q3) ?_
  rintro v w22 ⟨rfl, hU22⟩
  have hzw22 := hU22.size
  replace ht := ht.upd0 hU22
  replace HU := HU.trans0 hU22
  replace hS3 := hS3.upd0 hU22
  replace hP3 := hP3.upd0 hU22
  replace hS5 := hS5.upd0 hU22
  replace hP5 := hP5.upd0 hU22
  refine Wmv (.tuple #[.agg #[.int .i64 0, .int .i64 0, .bool false, .int .i64 0, .int .i64 0, .int .i64 0, .int .u32 0, .bool false, .slice none 0 0, .int .u32 0], .int .i64 21]) ?_
  refine Wl_v (r_ext (v := .agg #[.int .i64 0, .int .i64 0, .bool false, .int .i64 0, .int .i64 0, .int .i64 0, .int .u32 0, .bool false, .slice none 0 0, .int .u32 0]) rfl rfl) ?_
  refine Wl_v (r_ext (v := .int .i64 21) rfl rfl) ?_
  refine Wl_alloc (cs := [.int .i64 0, .int .i64 0, .bool false, .int .i64 0, .int .i64 0, .int .i64 0, .int .u32 0, .bool false, .slice none 0 0, .int .u32 0]) zeroValue45 rfl ?_
  intro B23 w23 hB23 hU23 hzz23 hb23
  have hzw23 := hU23.size
  replace ht := ht.upd0 hU23
  replace HU := HU.trans0 hU23
  replace hS3 := hS3.upd0 hU23
  replace hP3 := hP3.upd0 hU23
  replace hS5 := hS5.upd0 hU23
  replace hP5 := hP5.upd0 hU23
  refine Wl_storea (off := 0) (vs := [.int .i64 0, .int .i64 0, .bool false, .int .i64 0, .int .i64 0, .int .i64 0, .int .u32 0, .bool false, .slice none 0 0, .int .u32 0]) (cs' := [.int .i64 0, .int .i64 0, .bool false, .int .i64 0, .int .i64 0, .int .i64 0, .int .u32 0, .bool false, .slice none 0 0, .int .u32 0]) sizeOf45 rfl rfl rfl (by simp only [List.mem_cons, List.not_mem_nil, or_false, forall_eq_or_imp, forall_eq]; exact ⟨rfl, rfl, rfl, rfl, rfl, rfl, rfl, rfl, rfl, rfl⟩) hb23 (by simp) rfl ?_
  intro w24 hU24 hzz24 hb23n
  replace hb23 := hb23n; clear hb23n
  have hzw24 := hU24.size
  replace ht := ht.upd1 hU24 (by omega)
  replace HU := HU.t1 hU24 (by omega)
  replace hS3 := hS3.upd1 hU24 (show ¬ ((w.heap.size ≤ B23 ∧ B23 < w2.heap.size)) by omega)
  replace hP3 := hP3.upd1 hU24 (by omega)
  replace hS5 := hS5.upd1 hU24 (show ¬ ((w2.heap.size ≤ B23 ∧ B23 < w4.heap.size)) by omega)
  replace hP5 := hP5.upd1 hU24 (by omega)
  refine Was (.int .i64 21) ?_
  refine Wl_nil (W_seq (W_seq (W_region ?_)))
  refine Wmv (.int .i64 0) ?_
  refine Wl_call (r_call1 rfl call13 rfl) (num44 _ ) ?_
  rintro v w25 ⟨rfl, hU25⟩
  have hzw25 := hU25.size
  replace ht := ht.upd0 hU25
  replace HU := HU.trans0 hU25
  replace hS3 := hS3.upd0 hU25
  replace hP3 := hP3.upd0 hU25
  replace hS5 := hS5.upd0 hU25
  replace hP5 := hP5.upd0 hU25
  replace hb23 := hb23.upd0 hU25
  refine Wmv (.int .i64 0) ?_
  refine Wl_v (v := .bool false) (r_ne (a := 0) (b := 0) rfl rfl) ?_
  refine Wl_nil ?_
  refine W_cond_f rfl ?_
  refine W_skip (W_seq (W_seq (W_region ?_)))
  refine Wmv (.int .i64 0) ?_
  refine Wl_v (v := .bool false) (r_ne (a := 0) (b := 0) rfl rfl) ?_
  refine Wl_nil ?_
  refine W_cond_f rfl ?_
  refine W_skip (W_seq (W_seq (W_region ?_)))
  refine Wmv (.slice a2 m2 c2) ?_
  refine Wl_v (r_len underlying57 rfl) ?_
  refine Wmv (.slice a4 m4 c4) ?_
  refine Wl_v (r_len underlying29 rfl) ?_
  refine Wl_v (r_ne rfl rfl) ?_
  refine Wl_nil ?_
  have q8 : ¬ (((m2 : Nat) : Int) ≠ ((m4 : Nat) : Int)) := (by omega)
  rw [decide_eq_false q8]
  refine W_cond_f rfl ?_
  refine W_skip (W_seq (W_seq (W_region ?_)))
  refine Was (.int .i64 0) ?_
  refine Wl_nil (W_block ?_)
  refine W_loop (fun mu ρ ds w' => ∃ (k : Nat), m2 - k = mu ∧ ds = [] ∧ Liv ρ [(1, .int .i64 i), (5, .slice a2 m2 c2), (7, .slice a4 m4 c4), (9, .pointer (some ⟨B23, 0, none⟩)), (10, .int .i64 21), (11, .int .i64 ((k : Nat) : Int))] ∧ k ≤ m2 ∧ Upd No w25 w') _ ⟨0, rfl, rfl, ⟨rfl, rfl, rfl, rfl, rfl, (by first | rfl | exact vint (by omega) | exact vint (by simp)), trivial⟩, (by omega), Upd.refl _ _⟩ ?_
  rintro m26 ρ26 ds26 w26 ⟨k, rfl, rfl, hl26, hk, hU26⟩
  obtain ⟨ρ26x, rfl⟩ : ∃ ρx, ρ26 = upds ρx [(1, .int .i64 i), (5, .slice a2 m2 c2), (7, .slice a4 m4 c4), (9, .pointer (some ⟨B23, 0, none⟩)), (10, .int .i64 21), (11, .int .i64 ((k : Nat) : Int))] := ⟨_, upds_self hl26⟩
  clear hl26
  have hzw26 := hU26.size
  replace ht := ht.upd0 hU26
  replace HU := HU.trans0 hU26
  replace hS3 := hS3.upd0 hU26
  replace hP3 := hP3.upd0 hU26
  replace hS5 := hS5.upd0 hU26
  replace hP5 := hP5.upd0 hU26
  replace hb23 := hb23.upd0 hU26
  have hoks := (ga_okd hb (by omega) k).2.2
  have hgn := ga_len hb (by omega)
  have HL26 := hU26
  refine W_seq (W_seq (W_region ?_))
  refine Wmv (.int .i64 ((k : Nat) : Int)) ?_
  refine Wmv (.slice a2 m2 c2) ?_
  refine Wl_v (r_len underlying57 rfl) ?_
  refine Wl_v (r_lt rfl rfl) ?_
  refine Wl_nil ?_
  by_cases q9 : ((k : Nat) : Int) < ((m2 : Nat) : Int)
  ·rw [decide_eq_true q9]
   refine W_cond_t rfl ?_
   refine W_skip (W_seq (W_block (W_seq ?_)))
   refine W_drawt rfl (l0 := tf 0 10) (by kernel_rfl) ?_
   refine Tk 0 (tf 1 10) rfl (YI_v (v := .slice a2 m2 c2) rfl (fun w' hw' => r_mv (v := .slice a2 m2 c2) rfl)) ?_
   refine Tk 1 (tf 2 10) rfl (YI_v (v := .int .i64 ((k : Nat) : Int)) rfl (fun w' hw' => r_mv (v := .int .i64 ((k : Nat) : Int)) rfl)) ?_
   obtain ⟨ib27, io27, ha27, hib27, hc27⟩ := Sl.rat pv0 encP_len (by decide) (hS3) (i := k) (by omega)
   obtain ⟨ba28, bm28, bc28, hbe28⟩ := gd_part (i := k) hv3
   rw [hbe28] at hc27
   have hB29 := hPget hP3 hbe28 (by omega)
   have hl_hB29 := rlen encK_len (by decide) hB29
   have hc_hB29 := hB29.cap.1
   refine Tk 2 (tf 3 10) rfl (YI_v (v := .pointer (some ⟨ib27, io27 + k * 10, none⟩)) rfl (fun w' hw' => r_idx (b := ib27) (off := io27) (m := m2) (c := c2) (o' := io27 + k * 10) underlying57 sizeOf45 (by rw [← ha27]; rfl) rfl (by omega) (by omega) (by omega))) ?_
   refine Tk 3 (tf 4 10) rfl (YI_v (v := .agg #[.int .i64 (((ga bs 0).1.getD k pt0).at_), .int .i64 (((ga bs 0).1.getD k pt0).sz), .bool (decide (((ga bs 0).1.getD k pt0).sk = true)), .int .i64 (((ga bs 0).1.getD k pt0).pl), .int .i64 (((ga bs 0).1.getD k pt0).hd.1), .int .i64 (((ga bs 0).1.getD k pt0).hd.2.1), .int .u32 (((ga bs 0).1.getD k pt0).hd.2.2.1), .bool (decide (((ga bs 0).1.getD k pt0).hd.2.2.2 = true)), .slice ba28 bm28 bc28, .int .u32 (((ga bs 0).1.getD k pt0).ck)]) rfl (fun w' hw' => r_loada (cs := [.int .i64 (((ga bs 0).1.getD k pt0).at_), .int .i64 (((ga bs 0).1.getD k pt0).sz), .bool (decide (((ga bs 0).1.getD k pt0).sk = true)), .int .i64 (((ga bs 0).1.getD k pt0).pl), .int .i64 (((ga bs 0).1.getD k pt0).hd.1), .int .i64 (((ga bs 0).1.getD k pt0).hd.2.1), .int .u32 (((ga bs 0).1.getD k pt0).hd.2.2.1), .bool (decide (((ga bs 0).1.getD k pt0).hd.2.2.2 = true)), .slice ba28 bm28 bc28, .int .u32 (((ga bs 0).1.getD k pt0).ck)]) isAgg45 sizeOf45 rfl rfl (hw'.cellsk rfl hc27))) ?_
   refine Tk 4 (tf 5 10) rfl (YI_v (v := .slice a4 m4 c4) rfl (fun w' hw' => r_mv (v := .slice a4 m4 c4) rfl)) ?_
   refine Tk 5 (tf 6 10) rfl (YI_v (v := .int .i64 ((k : Nat) : Int)) rfl (fun w' hw' => r_mv (v := .int .i64 ((k : Nat) : Int)) rfl)) ?_
   obtain ⟨ib30, io30, ha30, hib30, hc30⟩ := Sl.rat pv0 encP_len (by decide) (hS5) (i := k) (by omega)
   obtain ⟨ba31, bm31, bc31, hbe31⟩ := gd_part (i := k) hv5
   rw [hbe31] at hc30
   have hB32 := hPget hP5 hbe31 (by omega)
   have hl_hB32 := rlen encK_len (by decide) hB32
   have hc_hB32 := hB32.cap.1
   have hbq : bm28 = bm31 := by omega
   subst hbq
   refine Tk 6 (tf 7 10) rfl (YI_v (v := .pointer (some ⟨ib30, io30 + k * 10, none⟩)) rfl (fun w' hw' => r_idx (b := ib30) (off := io30) (m := m4) (c := c4) (o' := io30 + k * 10) underlying29 sizeOf48 (by rw [← ha30]; rfl) rfl (by omega) (by omega) (by omega))) ?_
   refine Tk 7 (tf 8 10) rfl (YI_v (v := .agg #[.int .i64 (((ga bs 0).1.getD k pt0).at_), .int .i64 (((ga bs 0).1.getD k pt0).sz), .bool (decide (((ga bs 0).1.getD k pt0).sk = true)), .int .i64 (((ga bs 0).1.getD k pt0).pl), .int .i64 (((ga bs 0).1.getD k pt0).hd.1), .int .i64 (((ga bs 0).1.getD k pt0).hd.2.1), .int .u32 (((ga bs 0).1.getD k pt0).hd.2.2.1), .bool (decide (((ga bs 0).1.getD k pt0).hd.2.2.2 = true)), .slice ba31 bm28 bc31, .int .u32 (((ga bs 0).1.getD k pt0).ck)]) rfl (fun w' hw' => r_loada (cs := [.int .i64 (((ga bs 0).1.getD k pt0).at_), .int .i64 (((ga bs 0).1.getD k pt0).sz), .bool (decide (((ga bs 0).1.getD k pt0).sk = true)), .int .i64 (((ga bs 0).1.getD k pt0).pl), .int .i64 (((ga bs 0).1.getD k pt0).hd.1), .int .i64 (((ga bs 0).1.getD k pt0).hd.2.1), .int .u32 (((ga bs 0).1.getD k pt0).hd.2.2.1), .bool (decide (((ga bs 0).1.getD k pt0).hd.2.2.2 = true)), .slice ba31 bm28 bc31, .int .u32 (((ga bs 0).1.getD k pt0).ck)]) isAgg48 sizeOf48 rfl rfl (hw'.cellsk rfl hc30))) ?_
   refine Tk 8 (tf 9 10) rfl (YI_c (v := .bool true) rfl (fun w' => r_call2 rfl call21 rfl rfl) (fun w' hw' => same44 w' ((hB29.upd0 hw').any) ((hB32.upd0 hw').any) (by omega))) ?_
   refine Tk 9 (tf 10 10) rfl (YI_v (v := .bool false) rfl (fun w' hw' => r_not (b := true) rfl)) ?_
   intro w33 hU33
   have hzw33 := hU33.size
   replace HL26 := HL26.trans0 hU33
   refine Wa_done (by kernel_rfl) ?_
   refine W_cond_f rfl ?_
   refine W_skip (W_region ?_)
   refine Wmv (.int .i64 ((k : Nat) : Int)) ?_
   refine Wl_v (r_add rfl rfl (wi64 (by omega) (by omega))) ?_
   refine Was (.int .i64 (((k : Nat) : Int) + 1)) ?_
   refine Wl_nil ?_
   refine ⟨_, ?_, (k + 1), rfl, rfl, ⟨rfl, rfl, rfl, rfl, rfl, (Eq.trans (b := .int .i64 (((k : Nat) : Int) + 1)) rfl (vint (by omega))), trivial⟩, (by omega), HL26⟩
   omega
  rw [decide_eq_false q9]
  refine W_cond_f rfl ?_
  refine W_exit ?_
  refine W_seq (W_seq (W_region ?_))
  refine Wmv (.int .i64 i) ?_
  refine Wl_v (r_lt rfl rfl) ?_
  refine Wmv (.bool (decide (i < 0))) ?_
  by_cases q10 : i < 0
  ·rw [decide_eq_true q10]
   refine Wl_guard_f rfl (Wl_guard_f rfl (Wl_guard_f rfl (Wl_guard_f rfl ?_)))
   refine Wl_v (r_pick_t (v := .bool true) rfl rfl) ?_
   refine Wl_nil ?_
   refine W_cond_t rfl ?_
   refine W_seq (W_region ?_)
   refine Wmv (.int .i64 21) ?_
   refine Wl_v (v := .bool true) (r_eq (a := 21) (b := 21) rfl rfl) ?_
   refine Wmv (.bool true) ?_
   refine Wl_guard_t rfl ?_
   refine Wl_v (r_loada (b := B23) (off := 0) (cs := [.int .i64 0, .int .i64 0, .bool false, .int .i64 0, .int .i64 0, .int .i64 0, .int .u32 0, .bool false, .slice none 0 0, .int .u32 0]) isAgg45 sizeOf45 rfl rfl (fun j hj => by rw [hb23.cell]; match j, hj with | 0, _ => rfl | 1, _ => rfl | 2, _ => rfl | 3, _ => rfl | 4, _ => rfl | 5, _ => rfl | 6, _ => rfl | 7, _ => rfl | 8, _ => rfl | 9, _ => rfl)) ?_
   refine Wl_guard_t rfl ?_
   refine Wl_v (r_build (pl := #[(0, 1), (1, 1), (2, 1), (3, 1), (4, 4), (8, 1), (9, 1)]) (pv := []) (cs := #[.int .i64 0, .int .i64 0, .bool false, .int .i64 0, .int .i64 0, .int .i64 0, .int .u32 0, .bool false, .slice none 0 0, .int .u32 0]) zeroValue48 underlying48 (fun w => by kernel_rfl) (by simp only [List.map_toArray, List.map_cons, List.map_nil] <;> rfl) (by kernel_rfl)) ?_
   refine Wl_guard_t rfl ?_
   refine Wl_call (r_call2 rfl call21 rfl rfl) (same44 (bl := []) (x3 := false) (h4 := false) _ (Sl.nil _ _ _) (Sl.nil _ _ _) (by omega)) ?_
   rintro v w34 ⟨rfl, hU34⟩
   have hzw34 := hU34.size
   replace ht := ht.upd0 hU34
   replace HU := HU.trans0 hU34
   refine Wl_v (r_pick_t (v := .bool true) rfl rfl) ?_
   refine Wmv (.bool true) ?_
   refine Wl_guard_t rfl ?_
   refine Wl_call (r_call0 rfl call10 ) (works44 _ ht) ?_
   rintro v w35 ⟨rfl, hU35⟩
   have hzw35 := hU35.size
   replace HU := HU.trans0 hU35
   refine Wl_v (r_pick_t (v := .bool true) rfl rfl) ?_
   refine Was (.bool true) ?_
   refine Wl_nil ?_
   refine W_ret ?_
   refine ret_end (v := .bool true) rfl (res1 results8 rfl) ?_
   exact ⟨_, rfl, rfl, HU⟩
  rw [decide_eq_false q10]
  refine Wl_guard_t rfl ?_
  refine Wmv (.int .i64 i) ?_
  refine Wl_guard_t rfl ?_
  refine Wmv (.slice a4 m4 c4) ?_
  refine Wl_guard_t rfl ?_
  refine Wl_v (r_len underlying29 rfl) ?_
  refine Wl_guard_t rfl ?_
  refine Wl_v (r_ge rfl rfl) ?_
  refine Wl_v (r_pick_f (v := .bool (decide (((m4 : Nat) : Int) ≤ i))) rfl rfl) ?_
  refine Wl_nil ?_
  have q11 : ((m4 : Nat) : Int) ≤ i := (by omega)
  rw [decide_eq_true q11]
  refine W_cond_t rfl ?_
  refine W_seq (W_region ?_)
  refine Wmv (.int .i64 21) ?_
  refine Wl_v (v := .bool true) (r_eq (a := 21) (b := 21) rfl rfl) ?_
  refine Wmv (.bool true) ?_
  refine Wl_guard_t rfl ?_
  refine Wl_v (r_loada (b := B23) (off := 0) (cs := [.int .i64 0, .int .i64 0, .bool false, .int .i64 0, .int .i64 0, .int .i64 0, .int .u32 0, .bool false, .slice none 0 0, .int .u32 0]) isAgg45 sizeOf45 rfl rfl (fun j hj => by rw [hb23.cell]; match j, hj with | 0, _ => rfl | 1, _ => rfl | 2, _ => rfl | 3, _ => rfl | 4, _ => rfl | 5, _ => rfl | 6, _ => rfl | 7, _ => rfl | 8, _ => rfl | 9, _ => rfl)) ?_
  refine Wl_guard_t rfl ?_
  refine Wl_v (r_build (pl := #[(0, 1), (1, 1), (2, 1), (3, 1), (4, 4), (8, 1), (9, 1)]) (pv := []) (cs := #[.int .i64 0, .int .i64 0, .bool false, .int .i64 0, .int .i64 0, .int .i64 0, .int .u32 0, .bool false, .slice none 0 0, .int .u32 0]) zeroValue48 underlying48 (fun w => by kernel_rfl) (by simp only [List.map_toArray, List.map_cons, List.map_nil] <;> rfl) (by kernel_rfl)) ?_
  refine Wl_guard_t rfl ?_
  refine Wl_call (r_call2 rfl call21 rfl rfl) (same44 (bl := []) (x3 := false) (h4 := false) _ (Sl.nil _ _ _) (Sl.nil _ _ _) (by omega)) ?_
  rintro v w36 ⟨rfl, hU36⟩
  have hzw36 := hU36.size
  replace ht := ht.upd0 hU36
  replace HU := HU.trans0 hU36
  refine Wl_v (r_pick_t (v := .bool true) rfl rfl) ?_
  refine Wmv (.bool true) ?_
  refine Wl_guard_t rfl ?_
  refine Wl_call (r_call0 rfl call10 ) (works44 _ ht) ?_
  rintro v w37 ⟨rfl, hU37⟩
  have hzw37 := hU37.size
  replace HU := HU.trans0 hU37
  refine Wl_v (r_pick_t (v := .bool true) rfl rfl) ?_
  refine Was (.bool true) ?_
  refine Wl_nil ?_
  refine W_ret ?_
  refine ret_end (v := .bool true) rfl (res1 results8 rfl) ?_
  exact ⟨_, rfl, rfl, HU⟩
 refine Wl_call (r_call1 rfl call19 rfl) (read_no _ hs.any hb (by omega) q2) ?_
 rintro v w38 ⟨rfl, hU38⟩
 have hzw38 := hU38.size
 replace ht := ht.upd0 hU38
 replace hs := hs.upd0 hU38
 replace HU := HU.trans0 hU38
 refine Wmv (.tuple #[.slice none 0 0, .int .i64 ((ga bs 0).2)]) ?_
 refine Wl_v (r_ext (v := .slice none 0 0) rfl rfl) ?_
 refine Wl_v (r_ext (v := .int .i64 ((ga bs 0).2)) rfl rfl) ?_
 refine Was (.slice none 0 0) ?_
 refine Was (.int .i64 ((ga bs 0).2)) ?_
 refine Wl_nil (W_seq (W_region ?_))
 refine Wmv (.slice a n c) ?_
 refine Wl_call (r_call1 rfl call12 rfl) (rread_spec _ hs.any hb (by omega)) ?_
 rintro v w39 ⟨a39, m39, c39, rfl, hT39, hU39⟩
 have hzw39 := hU39.size
 replace ht := ht.upd0 hU39
 replace hs := hs.upd0 hU39
 replace HU := HU.trans0 hU39
 refine Wmv (.tuple #[.slice a39 m39 c39, .int .i64 ((ga bs 0).2)]) ?_
 refine Wl_v (r_ext (v := .slice a39 m39 c39) rfl rfl) ?_
 refine Wl_v (r_ext (v := .int .i64 ((ga bs 0).2)) rfl rfl) ?_
 refine Was (.slice a39 m39 c39) ?_
 refine Was (.int .i64 ((ga bs 0).2)) ?_
 refine Wl_nil (W_seq (W_region ?_))
 refine Wmv (.slice a n c) ?_
 refine Wmv (.int .i64 i) ?_
 refine Wl_call (r_call2 rfl call20 rfl rfl) (one_no _ hs.any hb (by omega) q2) ?_
 rintro v w40 ⟨rfl, hU40⟩
 have hzw40 := hU40.size
 replace ht := ht.upd0 hU40
 replace HU := HU.trans0 hU40
 refine Wmv (.tuple #[.agg #[.int .i64 0, .int .i64 0, .bool false, .int .i64 0, .int .i64 0, .int .i64 0, .int .u32 0, .bool false, .slice none 0 0, .int .u32 0], .int .i64 ((ga bs 0).2)]) ?_
 refine Wl_v (r_ext (v := .agg #[.int .i64 0, .int .i64 0, .bool false, .int .i64 0, .int .i64 0, .int .i64 0, .int .u32 0, .bool false, .slice none 0 0, .int .u32 0]) rfl rfl) ?_
 refine Wl_v (r_ext (v := .int .i64 ((ga bs 0).2)) rfl rfl) ?_
 refine Wl_alloc (cs := [.int .i64 0, .int .i64 0, .bool false, .int .i64 0, .int .i64 0, .int .i64 0, .int .u32 0, .bool false, .slice none 0 0, .int .u32 0]) zeroValue45 rfl ?_
 intro B41 w41 hB41 hU41 hzz41 hb41
 have hzw41 := hU41.size
 replace ht := ht.upd0 hU41
 replace HU := HU.trans0 hU41
 refine Wl_storea (off := 0) (vs := [.int .i64 0, .int .i64 0, .bool false, .int .i64 0, .int .i64 0, .int .i64 0, .int .u32 0, .bool false, .slice none 0 0, .int .u32 0]) (cs' := [.int .i64 0, .int .i64 0, .bool false, .int .i64 0, .int .i64 0, .int .i64 0, .int .u32 0, .bool false, .slice none 0 0, .int .u32 0]) sizeOf45 rfl rfl rfl (by simp only [List.mem_cons, List.not_mem_nil, or_false, forall_eq_or_imp, forall_eq]; exact ⟨rfl, rfl, rfl, rfl, rfl, rfl, rfl, rfl, rfl, rfl⟩) hb41 (by simp) rfl ?_
 intro w42 hU42 hzz42 hb41n
 replace hb41 := hb41n; clear hb41n
 have hzw42 := hU42.size
 replace ht := ht.upd1 hU42 (by omega)
 replace HU := HU.t1 hU42 (by omega)
 refine Was (.int .i64 ((ga bs 0).2)) ?_
 refine Wl_nil (W_seq (W_seq (W_region ?_)))
 refine Wmv (.int .i64 ((ga bs 0).2)) ?_
 refine Wl_call (r_call1 rfl call13 rfl) (num44 _ ) ?_
 rintro v w43 ⟨rfl, hU43⟩
 have hzw43 := hU43.size
 replace ht := ht.upd0 hU43
 replace HU := HU.trans0 hU43
 replace hb41 := hb41.upd0 hU43
 refine Wmv (.int .i64 ((ga bs 0).2)) ?_
 refine Wl_v (r_ne rfl rfl) ?_
 refine Wl_nil ?_
 have q12 : ¬ (((ga bs 0).2) ≠ ((ga bs 0).2)) := (fun h => h rfl)
 rw [decide_eq_false q12]
 refine W_cond_f rfl ?_
 refine W_skip (W_seq (W_seq (W_region ?_)))
 refine Wmv (.int .i64 ((ga bs 0).2)) ?_
 refine Wl_v (r_ne rfl rfl) ?_
 refine Wl_nil ?_
 have q13 : ((ga bs 0).2) ≠ 0 := q2
 rw [decide_eq_true q13]
 refine W_cond_t rfl ?_
 refine W_seq (W_region ?_)
 refine Wmv (.slice none 0 0) ?_
 refine Wl_v (r_len underlying57 rfl) ?_
 refine Wl_v (v := .bool true) (r_eq (a := 0) (b := 0) rfl rfl) ?_
 refine Wmv (.bool true) ?_
 refine Wl_guard_t rfl ?_
 refine Wmv (.int .i64 ((ga bs 0).2)) ?_
 refine Wl_guard_t rfl ?_
 refine Wl_call (r_call1 rfl call13 rfl) (num44 _ ) ?_
 rintro v w44 ⟨rfl, hU44⟩
 have hzw44 := hU44.size
 replace ht := ht.upd0 hU44
 replace HU := HU.trans0 hU44
 replace hb41 := hb41.upd0 hU44
 refine Wl_guard_t rfl ?_
 refine Wmv (.int .i64 ((ga bs 0).2)) ?_
 refine Wl_guard_t rfl ?_
 refine Wl_v (r_eq rfl rfl) ?_
 refine Wl_v (r_pick_t (v := .bool (decide (((ga bs 0).2) = ((ga bs 0).2)))) rfl rfl) ?_
 refine Wmv (.bool (decide (((ga bs 0).2) = ((ga bs 0).2)))) ?_
 have q14 : ((ga bs 0).2) = ((ga bs 0).2) := (Classical.not_not.1 q12)
 rw [decide_eq_true q14]
 refine Wl_guard_t rfl ?_
 refine Wl_v (r_loada (b := B41) (off := 0) (cs := [.int .i64 0, .int .i64 0, .bool false, .int .i64 0, .int .i64 0, .int .i64 0, .int .u32 0, .bool false, .slice none 0 0, .int .u32 0]) isAgg45 sizeOf45 rfl rfl (fun j hj => by rw [hb41.cell]; match j, hj with | 0, _ => rfl | 1, _ => rfl | 2, _ => rfl | 3, _ => rfl | 4, _ => rfl | 5, _ => rfl | 6, _ => rfl | 7, _ => rfl | 8, _ => rfl | 9, _ => rfl)) ?_
 refine Wl_guard_t rfl ?_
 refine Wl_v (r_build (pl := #[(0, 1), (1, 1), (2, 1), (3, 1), (4, 4), (8, 1), (9, 1)]) (pv := []) (cs := #[.int .i64 0, .int .i64 0, .bool false, .int .i64 0, .int .i64 0, .int .i64 0, .int .u32 0, .bool false, .slice none 0 0, .int .u32 0]) zeroValue48 underlying48 (fun w => by kernel_rfl) (by simp only [List.map_toArray, List.map_cons, List.map_nil] <;> rfl) (by kernel_rfl)) ?_
 refine Wl_guard_t rfl ?_
 refine Wl_call (r_call2 rfl call21 rfl rfl) (same44 (bl := []) (x3 := false) (h4 := false) _ (Sl.nil _ _ _) (Sl.nil _ _ _) (by omega)) ?_
 rintro v w45 ⟨rfl, hU45⟩
 have hzw45 := hU45.size
 replace ht := ht.upd0 hU45
 replace HU := HU.trans0 hU45
 refine Wl_v (r_pick_t (v := .bool true) rfl rfl) ?_
 refine Wmv (.bool true) ?_
 refine Wl_guard_t rfl ?_
 refine Wl_call (r_call0 rfl call10 ) (works44 _ ht) ?_
 rintro v w46 ⟨rfl, hU46⟩
 have hzw46 := hU46.size
 replace HU := HU.trans0 hU46
 refine Wl_v (r_pick_t (v := .bool true) rfl rfl) ?_
 refine Was (.bool true) ?_
 refine Wl_nil ?_
 refine W_ret ?_
 refine ret_end (v := .bool true) rfl (res1 results8 rfl) ?_
 exact ⟨_, rfl, rfl, HU⟩
end Go.Proofs.YtbjjhfoeckkacaaDoor
