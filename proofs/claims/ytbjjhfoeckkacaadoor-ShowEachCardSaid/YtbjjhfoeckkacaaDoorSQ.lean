/-
  Several texts of this project, put together.
-/
import Derived.Test.YtbjjhfoeckkacaaDoorSO
import Derived.Test.YtbjjhfoeckkacaaDoorSA
set_option linter.unusedVariables false
set_option linter.unusedSimpArgs false
set_option linter.deprecated false
set_option maxRecDepth 100000
namespace Go.Proofs.YtbjjhfoeckkacaaDoor
open Go.Fw _root_.Go.Proofs.Tryd
def giv : List Int := [80, 77, 84, 30, 0, 0, 24, 0, 0, 97, 98, 99, 11, 0, 0, 120]
def skx : List Int := [80, 77, 84, 83, 1, 0, 0, 0, 255]
theorem giv_byt : Byt giv := byt_lit (by decide)
theorem giv_ga : ga giv 0 = ([⟨0, 16, false, 0, (1024, -1, 0, false), [(6, 0, 3, 3, false), (12, 1, 1, 1, true)], 0⟩], 0) := by kernel_rfl
theorem skx_ga : ga skx 0 = ([⟨0, 9, true, 1, hz, [], 0⟩], 0) := by kernel_rfl
theorem dg1 {u : Nat} (h : u < 10) : dig (u : Int) = [((48 + u : Nat) : Int)] := by rw [dig_pos (by omega), show ((u : Nat) : Int).toNat = u from by omega, digN_small h]
theorem dgN {u : Nat} : dig (u : Int) = digN u := by rw [dig_pos (by omega), show ((u : Nat) : Int).toNat = u from by omega]
theorem giv_txt : txt (ga giv 0).1 = [102, 114, 97, 109, 101, 32, 48, 32, 49, 54, 32, 119, 105, 110, 100, 111, 119, 32, 49, 48, 50, 52, 32, 114, 97, 119, 32, 51, 32, 114, 117, 110, 32, 49, 10] := by
 have d0 : dig 0 = [48] := dg1 (u := 0) (by decide)
 have d1 : dig 1 = [49] := dg1 (u := 1) (by decide)
 have d3 : dig 3 = [51] := dg1 (u := 3) (by decide)
 have d16 : dig 16 = [49, 54] := (dgN (u := 16)).trans (by rw [digN_big (by decide), digN_small (by decide)]; rfl)
 have d1024 : dig 1024 = [49, 48, 50, 52] := (dgN (u := 1024)).trans (by rw [digN_big (by decide), digN_big (by decide), digN_big (by decide), digN_small (by decide)]; rfl)
 rw [giv_ga]
 simp [txt, lin, wv5, wsz, wdi, wck, jnw, btx, wrd, d0, d1, d3, d16, d1024]
theorem skx_txt : txt (ga skx 0).1 = [115, 107, 105, 112, 32, 48, 32, 57, 32, 49, 10] := by
 have d0 : dig 0 = [48] := dg1 (u := 0) (by decide)
 have d1 : dig 1 = [49] := dg1 (u := 1) (by decide)
 have d9 : dig 9 = [57] := dg1 (u := 9) (by decide)
 rw [skx_ga]
 simp [txt, lin, jnw, d0, d1, d9]
theorem num44 {e : Int} (w : World)  :
  Calls Tryd.prog 13 #[.int .i64 e] w (Ret fun v w' => v = .int .i64 e ∧ Upd No w w') := by
 have HU := Upd.rno w
 refine calls_of_W func13 rfl ntmps13 (by simp) ?_
 refine W_seq (W_region ?_)
 refine Was (.int .i64 0) ?_
 refine Wl_nil (W_seq (W_region ?_))
 refine Wmv (.int .i64 e) ?_
 refine Was (.int .i64 e) ?_
 refine Wl_nil ?_
 refine W_ret ?_
 refine ret_end (v := .int .i64 e) rfl (res1 results13 rfl) ?_
 exact ⟨_, rfl, rfl, HU⟩
theorem given44  (w : World)  :
  Calls Tryd.prog 23 #[] w (Ret fun v w' => ∃ (a' : Option Addr) (c' : Nat), v = .slice a' 16 c' ∧ Sl w' (fun g => w.heap.size ≤ g) 1 (.slice a' 16 c') 16 (ints .u8 giv) ∧ Upd No w w') := by
 have HU := Upd.rno w
 refine calls_of_W func23 rfl ntmps23 (by simp) ?_
 refine W_seq (W_region ?_)
 refine Was (.slice none 0 0) ?_
 refine Wl_nil (W_seq (W_region ?_))
 refine Wl_lit (pv := [(0, .int .u8 80), (1, .int .u8 77), (2, .int .u8 84), (3, .int .u8 30), (4, .int .u8 0), (5, .int .u8 0), (6, .int .u8 24), (7, .int .u8 0), (8, .int .u8 0), (9, .int .u8 97), (10, .int .u8 98), (11, .int .u8 99), (12, .int .u8 11), (13, .int .u8 0), (14, .int .u8 0), (15, .int .u8 120)]) (cs := [.int .u8 80, .int .u8 77, .int .u8 84, .int .u8 30, .int .u8 0, .int .u8 0, .int .u8 24, .int .u8 0, .int .u8 0, .int .u8 97, .int .u8 98, .int .u8 99, .int .u8 11, .int .u8 0, .int .u8 0, .int .u8 120]) underlying22 sizeOf5 zeroValue5 (by decide) (by decide) (by simp only [List.map_toArray, List.map_cons, List.map_nil] <;> rfl) (by kernel_rfl) rfl (by decide) ?_
 intro B1 w1 hB1 hU1 hzz1 hs1
 have hzw1 := hU1.size
 replace HU := HU.trans0 hU1
 replace hs1 : Own w1 (Is B1) 5 1 (.slice (some ⟨B1, 0, none⟩) 16 16) 16 (ints .u8 [80, 77, 84, 30, 0, 0, 24, 0, 0, 97, 98, 99, 11, 0, 0, 120]) := hs1
 refine Wl_cvtsl underlying22 underlying5 rfl hs1 ?_
 intro w2 hU2 hzz2 hT2
 clear hs1
 have hzw2 := hU2.size
 replace HU := HU.t1 hU2 (by omega)
 refine Was (.slice (some ⟨B1, 0, none⟩) 16 16) ?_
 refine Wl_nil ?_
 refine W_ret ?_
 refine ret_end (v := .slice (some ⟨B1, 0, none⟩) 16 16) rfl (res1 results23 rfl) ?_
 exact ⟨_, rfl, (some ⟨B1, 0, none⟩), 16, rfl, (hT2.weak (by intro g hg; have h3 : g = B1 := hg; show w.heap.size ≤ g; omega)), HU⟩
set_option maxHeartbeats 4000000 in
theorem same44 {x1 x2 x4 h1 h2 h3 ck : Int} {x3 h4 : Bool} {a a2 : Option Addr} {n c c2 : Nat} {bl : List BK} (w : World) (hs : Sl w (fun g => g < w.heap.size) 5 (.slice a n c) n (rows encK bl)) (hs2 : Sl w (fun g => g < w.heap.size) 5 (.slice a2 n c2) n (rows encK bl)) (hn : n ≤ 1000000) :
  Calls Tryd.prog 21 #[.agg #[.int .i64 x1, .int .i64 x2, .bool (decide (x3 = true)), .int .i64 x4, .int .i64 h1, .int .i64 h2, .int .u32 h3, .bool (decide (h4 = true)), .slice a n c, .int .u32 ck], .agg #[.int .i64 x1, .int .i64 x2, .bool (decide (x3 = true)), .int .i64 x4, .int .i64 h1, .int .i64 h2, .int .u32 h3, .bool (decide (h4 = true)), .slice a2 n c2, .int .u32 ck]] w (Ret fun v w' => v = .bool true ∧ Upd No w w') := by
 have HU := Upd.rno w
 have hl_hs := rlen encK_len (by decide) hs
 have hc_hs := hs.cap.1
 have hl_hs2 := rlen encK_len (by decide) hs2
 have hc_hs2 := hs2.cap.1
 refine calls_of_W func21 rfl ntmps21 (by simp) ?_
 refine W_seq (W_region ?_)
 refine Wl_box (v := .agg #[.int .i64 x1, .int .i64 x2, .bool (decide (x3 = true)), .int .i64 x4, .int .i64 h1, .int .i64 h2, .int .u32 h3, .bool (decide (h4 = true)), .slice a n c, .int .u32 ck]) (cs := [.int .i64 x1, .int .i64 x2, .bool (decide (x3 = true)), .int .i64 x4, .int .i64 h1, .int .i64 h2, .int .u32 h3, .bool (decide (h4 = true)), .slice a n c, .int .u32 ck]) rfl rfl ?_
 intro B1 w1 hB1 hU1 hzz1 hb1
 have hzw1 := hU1.size
 replace hs := hs.upd0 hU1
 replace hs2 := hs2.upd0 hU1
 replace HU := HU.trans0 hU1
 refine Wl_box (v := .agg #[.int .i64 x1, .int .i64 x2, .bool (decide (x3 = true)), .int .i64 x4, .int .i64 h1, .int .i64 h2, .int .u32 h3, .bool (decide (h4 = true)), .slice a2 n c2, .int .u32 ck]) (cs := [.int .i64 x1, .int .i64 x2, .bool (decide (x3 = true)), .int .i64 x4, .int .i64 h1, .int .i64 h2, .int .u32 h3, .bool (decide (h4 = true)), .slice a2 n c2, .int .u32 ck]) rfl rfl ?_
 intro B2 w2 hB2 hU2 hzz2 hb2
 have hzw2 := hU2.size
 replace hs := hs.upd0 hU2
 replace hs2 := hs2.upd0 hU2
 replace HU := HU.trans0 hU2
 replace hb1 := hb1.upd0 hU2
 refine Was (.bool false) ?_
 refine Wl_nil (W_seq ?_)
 refine W_join (fun ρ ds w' => ds = [] ∧ Liv ρ [(2, .pointer (some ⟨B1, 0, none⟩)), (3, .pointer (some ⟨B2, 0, none⟩))] ∧ Upd No w2 w') ?_ ?_
 ·have HJ3 : Upd No w2 w2 := Upd.refl _ _
  refine W_seq (W_region ?_)
  refine Wl_v (r_fld underlying45 rfl sizeOf3 rfl rfl) ?_
  refine Wl_load (v := .int .i64 x1) isAgg3 rfl hb1 rfl ?_
  refine Wl_v (r_fld underlying48 rfl sizeOf3 rfl rfl) ?_
  refine Wl_load (v := .int .i64 x1) isAgg3 rfl hb2 rfl ?_
  refine Wl_v (r_ne rfl rfl) ?_
  refine Wmv (.bool (decide (x1 ≠ x1))) ?_
  have q1 : ¬ (x1 ≠ x1) := (fun h => h rfl)
  rw [decide_eq_false q1]
  refine Wl_guard_t rfl ?_
  refine Wl_v (r_fld underlying45 rfl sizeOf3 rfl rfl) ?_
  refine Wl_guard_t rfl ?_
  refine Wl_load (v := .int .i64 x2) isAgg3 rfl hb1 rfl ?_
  refine Wl_guard_t rfl ?_
  refine Wl_v (r_fld underlying48 rfl sizeOf3 rfl rfl) ?_
  refine Wl_guard_t rfl ?_
  refine Wl_load (v := .int .i64 x2) isAgg3 rfl hb2 rfl ?_
  refine Wl_guard_t rfl ?_
  refine Wl_v (r_ne rfl rfl) ?_
  refine Wl_v (r_pick_f (v := .bool (decide (x2 ≠ x2))) rfl rfl) ?_
  refine Wmv (.bool (decide (x2 ≠ x2))) ?_
  have q2 : ¬ (x2 ≠ x2) := (fun h => h rfl)
  rw [decide_eq_false q2]
  refine Wl_guard_t rfl ?_
  refine Wl_v (r_fld underlying45 rfl sizeOf4 rfl rfl) ?_
  refine Wl_guard_t rfl ?_
  refine Wl_load (v := .bool (decide (x3 = true))) isAgg4 rfl hb1 rfl ?_
  refine Wl_guard_t rfl ?_
  refine Wl_v (r_fld underlying48 rfl sizeOf4 rfl rfl) ?_
  refine Wl_guard_t rfl ?_
  refine Wl_load (v := .bool (decide (x3 = true))) isAgg4 rfl hb2 rfl ?_
  refine Wl_guard_t rfl ?_
  by_cases q3 : x3 = true
  ·rw [decide_eq_true q3]
   refine Wl_v (v := .bool false) (r_neb (a := true) (b := true) underlying4 rfl rfl) ?_
   refine Wl_v (r_pick_f (v := .bool false) rfl rfl) ?_
   refine Wmv (.bool false) ?_
   refine Wl_guard_t rfl ?_
   refine Wl_v (r_fld underlying45 rfl sizeOf3 rfl rfl) ?_
   refine Wl_guard_t rfl ?_
   refine Wl_load (v := .int .i64 x4) isAgg3 rfl hb1 rfl ?_
   refine Wl_guard_t rfl ?_
   refine Wl_v (r_fld underlying48 rfl sizeOf3 rfl rfl) ?_
   refine Wl_guard_t rfl ?_
   refine Wl_load (v := .int .i64 x4) isAgg3 rfl hb2 rfl ?_
   refine Wl_guard_t rfl ?_
   refine Wl_v (r_ne rfl rfl) ?_
   refine Wl_v (r_pick_f (v := .bool (decide (x4 ≠ x4))) rfl rfl) ?_
   refine Wmv (.bool (decide (x4 ≠ x4))) ?_
   have q4 : ¬ (x4 ≠ x4) := (fun h => h rfl)
   rw [decide_eq_false q4]
   refine Wl_guard_t rfl ?_
   refine Wl_v (r_fld underlying45 rfl sizeOf41 rfl rfl) ?_
   refine Wl_guard_t rfl ?_
   refine Wl_v (r_loada (b := B1) (off := 4) (cs := [.int .i64 h1, .int .i64 h2, .int .u32 h3, .bool (decide (h4 = true))]) isAgg41 sizeOf41 rfl rfl (fun j hj => by rw [hb1.cell]; match j, hj with | 0, _ => rfl | 1, _ => rfl | 2, _ => rfl | 3, _ => rfl)) ?_
   refine Wl_guard_t rfl ?_
   refine Wl_v (r_fld underlying48 rfl sizeOf41 rfl rfl) ?_
   refine Wl_guard_t rfl ?_
   refine Wl_v (r_loada (b := B2) (off := 4) (cs := [.int .i64 h1, .int .i64 h2, .int .u32 h3, .bool (decide (h4 = true))]) isAgg41 sizeOf41 rfl rfl (fun j hj => by rw [hb2.cell]; match j, hj with | 0, _ => rfl | 1, _ => rfl | 2, _ => rfl | 3, _ => rfl)) ?_
   refine Wl_guard_t rfl ?_
   refine Wl_v (r_neag (pp := h1 = h1 ∧ h2 = h2 ∧ h3 = h3 ∧ (decide (h4 = true)) = (decide (h4 = true))) underlying41 (by kernel_rfl) (by kernel_rfl) rfl rfl (fun w => eqf_int (by decide) underlying3 isAgg3 rfl rfl (fun w => eqf_int (by decide) underlying3 isAgg3 rfl rfl (fun w => eqf_int (by decide) underlying39 isAgg39 rfl rfl (fun w => eqf_bool (by decide) underlying4 isAgg4 rfl rfl (fun w => eqf_nil))))) (by simp [Bool.decide_and])) ?_
   refine Wl_v (r_pick_f (v := .bool (!decide (h1 = h1 ∧ h2 = h2 ∧ h3 = h3 ∧ (decide (h4 = true)) = (decide (h4 = true))))) rfl rfl) ?_
   refine Wmv (.bool (!decide (h1 = h1 ∧ h2 = h2 ∧ h3 = h3 ∧ (decide (h4 = true)) = (decide (h4 = true))))) ?_
   have q5 : h1 = h1 ∧ h2 = h2 ∧ h3 = h3 ∧ (decide (h4 = true)) = (decide (h4 = true)) := ⟨rfl, rfl, rfl, rfl⟩
   rw [decide_eq_true q5]
   simp only [Bool.not_true, Bool.not_false]
   refine Wl_guard_t rfl ?_
   refine Wl_v (r_fld underlying45 rfl sizeOf39 rfl rfl) ?_
   refine Wl_guard_t rfl ?_
   refine Wl_load (v := .int .u32 ck) isAgg39 rfl hb1 rfl ?_
   refine Wl_guard_t rfl ?_
   refine Wl_v (r_fld underlying48 rfl sizeOf39 rfl rfl) ?_
   refine Wl_guard_t rfl ?_
   refine Wl_load (v := .int .u32 ck) isAgg39 rfl hb2 rfl ?_
   refine Wl_guard_t rfl ?_
   refine Wl_v (r_ne rfl rfl) ?_
   refine Wl_v (r_pick_f (v := .bool (decide (ck ≠ ck))) rfl rfl) ?_
   refine Wmv (.bool (decide (ck ≠ ck))) ?_
   have q6 : ¬ (ck ≠ ck) := (fun h => h rfl)
   rw [decide_eq_false q6]
   refine Wl_guard_t rfl ?_
   refine Wl_v (r_fld underlying45 rfl sizeOf43 rfl rfl) ?_
   refine Wl_guard_t rfl ?_
   refine Wl_load (v := .slice a n c) isAgg43 rfl hb1 rfl ?_
   refine Wl_guard_t rfl ?_
   refine Wl_v (r_len underlying43 rfl) ?_
   refine Wl_guard_t rfl ?_
   refine Wl_v (r_fld underlying48 rfl sizeOf46 rfl rfl) ?_
   refine Wl_guard_t rfl ?_
   refine Wl_load (v := .slice a2 n c2) isAgg46 rfl hb2 rfl ?_
   refine Wl_guard_t rfl ?_
   refine Wl_v (r_len underlying46 rfl) ?_
   refine Wl_guard_t rfl ?_
   refine Wl_v (r_ne rfl rfl) ?_
   refine Wl_v (r_pick_f (v := .bool (decide (((n : Nat) : Int) ≠ ((n : Nat) : Int)))) rfl rfl) ?_
   refine Wl_nil ?_
   have q7 : ¬ (((n : Nat) : Int) ≠ ((n : Nat) : Int)) := (fun h => h rfl)
   rw [decide_eq_false q7]
   refine W_cond_f rfl ?_
   refine W_skip ?_
   exact ⟨rfl, ⟨rfl, rfl, trivial⟩, HJ3⟩
  rw [decide_eq_false q3]
  refine Wl_v (v := .bool false) (r_neb (a := false) (b := false) underlying4 rfl rfl) ?_
  refine Wl_v (r_pick_f (v := .bool false) rfl rfl) ?_
  refine Wmv (.bool false) ?_
  refine Wl_guard_t rfl ?_
  refine Wl_v (r_fld underlying45 rfl sizeOf3 rfl rfl) ?_
  refine Wl_guard_t rfl ?_
  refine Wl_load (v := .int .i64 x4) isAgg3 rfl hb1 rfl ?_
  refine Wl_guard_t rfl ?_
  refine Wl_v (r_fld underlying48 rfl sizeOf3 rfl rfl) ?_
  refine Wl_guard_t rfl ?_
  refine Wl_load (v := .int .i64 x4) isAgg3 rfl hb2 rfl ?_
  refine Wl_guard_t rfl ?_
  refine Wl_v (r_ne rfl rfl) ?_
  refine Wl_v (r_pick_f (v := .bool (decide (x4 ≠ x4))) rfl rfl) ?_
  refine Wmv (.bool (decide (x4 ≠ x4))) ?_
  have q8 : ¬ (x4 ≠ x4) := (fun h => h rfl)
  rw [decide_eq_false q8]
  refine Wl_guard_t rfl ?_
  refine Wl_v (r_fld underlying45 rfl sizeOf41 rfl rfl) ?_
  refine Wl_guard_t rfl ?_
  refine Wl_v (r_loada (b := B1) (off := 4) (cs := [.int .i64 h1, .int .i64 h2, .int .u32 h3, .bool (decide (h4 = true))]) isAgg41 sizeOf41 rfl rfl (fun j hj => by rw [hb1.cell]; match j, hj with | 0, _ => rfl | 1, _ => rfl | 2, _ => rfl | 3, _ => rfl)) ?_
  refine Wl_guard_t rfl ?_
  refine Wl_v (r_fld underlying48 rfl sizeOf41 rfl rfl) ?_
  refine Wl_guard_t rfl ?_
  refine Wl_v (r_loada (b := B2) (off := 4) (cs := [.int .i64 h1, .int .i64 h2, .int .u32 h3, .bool (decide (h4 = true))]) isAgg41 sizeOf41 rfl rfl (fun j hj => by rw [hb2.cell]; match j, hj with | 0, _ => rfl | 1, _ => rfl | 2, _ => rfl | 3, _ => rfl)) ?_
  refine Wl_guard_t rfl ?_
  refine Wl_v (r_neag (pp := h1 = h1 ∧ h2 = h2 ∧ h3 = h3 ∧ (decide (h4 = true)) = (decide (h4 = true))) underlying41 (by kernel_rfl) (by kernel_rfl) rfl rfl (fun w => eqf_int (by decide) underlying3 isAgg3 rfl rfl (fun w => eqf_int (by decide) underlying3 isAgg3 rfl rfl (fun w => eqf_int (by decide) underlying39 isAgg39 rfl rfl (fun w => eqf_bool (by decide) underlying4 isAgg4 rfl rfl (fun w => eqf_nil))))) (by simp [Bool.decide_and])) ?_
  refine Wl_v (r_pick_f (v := .bool (!decide (h1 = h1 ∧ h2 = h2 ∧ h3 = h3 ∧ (decide (h4 = true)) = (decide (h4 = true))))) rfl rfl) ?_
  refine Wmv (.bool (!decide (h1 = h1 ∧ h2 = h2 ∧ h3 = h3 ∧ (decide (h4 = true)) = (decide (h4 = true))))) ?_
  have q9 : h1 = h1 ∧ h2 = h2 ∧ h3 = h3 ∧ (decide (h4 = true)) = (decide (h4 = true)) := ⟨rfl, rfl, rfl, rfl⟩
  rw [decide_eq_true q9]
  simp only [Bool.not_true, Bool.not_false]
  refine Wl_guard_t rfl ?_
  refine Wl_v (r_fld underlying45 rfl sizeOf39 rfl rfl) ?_
  refine Wl_guard_t rfl ?_
  refine Wl_load (v := .int .u32 ck) isAgg39 rfl hb1 rfl ?_
  refine Wl_guard_t rfl ?_
  refine Wl_v (r_fld underlying48 rfl sizeOf39 rfl rfl) ?_
  refine Wl_guard_t rfl ?_
  refine Wl_load (v := .int .u32 ck) isAgg39 rfl hb2 rfl ?_
  refine Wl_guard_t rfl ?_
  refine Wl_v (r_ne rfl rfl) ?_
  refine Wl_v (r_pick_f (v := .bool (decide (ck ≠ ck))) rfl rfl) ?_
  refine Wmv (.bool (decide (ck ≠ ck))) ?_
  have q10 : ¬ (ck ≠ ck) := (fun h => h rfl)
  rw [decide_eq_false q10]
  refine Wl_guard_t rfl ?_
  refine Wl_v (r_fld underlying45 rfl sizeOf43 rfl rfl) ?_
  refine Wl_guard_t rfl ?_
  refine Wl_load (v := .slice a n c) isAgg43 rfl hb1 rfl ?_
  refine Wl_guard_t rfl ?_
  refine Wl_v (r_len underlying43 rfl) ?_
  refine Wl_guard_t rfl ?_
  refine Wl_v (r_fld underlying48 rfl sizeOf46 rfl rfl) ?_
  refine Wl_guard_t rfl ?_
  refine Wl_load (v := .slice a2 n c2) isAgg46 rfl hb2 rfl ?_
  refine Wl_guard_t rfl ?_
  refine Wl_v (r_len underlying46 rfl) ?_
  refine Wl_guard_t rfl ?_
  refine Wl_v (r_ne rfl rfl) ?_
  refine Wl_v (r_pick_f (v := .bool (decide (((n : Nat) : Int) ≠ ((n : Nat) : Int)))) rfl rfl) ?_
  refine Wl_nil ?_
  have q11 : ¬ (((n : Nat) : Int) ≠ ((n : Nat) : Int)) := (fun h => h rfl)
  rw [decide_eq_false q11]
  refine W_cond_f rfl ?_
  refine W_skip ?_
  exact ⟨rfl, ⟨rfl, rfl, trivial⟩, HJ3⟩
 rintro ρ4 ds4 w4 ⟨rfl, hl4, hU4⟩
 obtain ⟨ρ4x, rfl⟩ : ∃ ρx, ρ4 = upds ρx [(2, .pointer (some ⟨B1, 0, none⟩)), (3, .pointer (some ⟨B2, 0, none⟩))] := ⟨_, upds_self hl4⟩
 clear hl4
 have hzw4 := hU4.size
 replace hs := hs.upd0 hU4
 replace hs2 := hs2.upd0 hU4
 replace HU := HU.trans0 hU4
 replace hb1 := hb1.upd0 hU4
 replace hb2 := hb2.upd0 hU4
 refine W_seq (W_seq (W_region ?_))
 refine Was (.int .i64 0) ?_
 refine Wl_nil (W_block ?_)
 refine W_loop (fun mu ρ ds w' => ∃ (k : Nat), n - k = mu ∧ ds = [] ∧ Liv ρ [(2, .pointer (some ⟨B1, 0, none⟩)), (3, .pointer (some ⟨B2, 0, none⟩)), (5, .int .i64 ((k : Nat) : Int))] ∧ k ≤ n ∧ Upd No w4 w') _ ⟨0, rfl, rfl, ⟨rfl, rfl, (by first | rfl | exact vint (by omega) | exact vint (by simp)), trivial⟩, (by omega), Upd.refl _ _⟩ ?_
 rintro m5 ρ5 ds5 w5 ⟨k, rfl, rfl, hl5, hk, hU5⟩
 obtain ⟨ρ5x, rfl⟩ : ∃ ρx, ρ5 = upds ρx [(2, .pointer (some ⟨B1, 0, none⟩)), (3, .pointer (some ⟨B2, 0, none⟩)), (5, .int .i64 ((k : Nat) : Int))] := ⟨_, upds_self hl5⟩
 clear hl5
 have hzw5 := hU5.size
 replace hs := hs.upd0 hU5
 replace hs2 := hs2.upd0 hU5
 replace HU := HU.trans0 hU5
 replace hb1 := hb1.upd0 hU5
 replace hb2 := hb2.upd0 hU5
 have HL5 := hU5
 refine W_seq (W_seq (W_region ?_))
 refine Wmv (.int .i64 ((k : Nat) : Int)) ?_
 refine Wl_v (r_fld underlying45 rfl sizeOf43 rfl rfl) ?_
 refine Wl_load (v := .slice a n c) isAgg43 rfl hb1 rfl ?_
 refine Wl_v (r_len underlying43 rfl) ?_
 refine Wl_v (r_lt rfl rfl) ?_
 refine Wl_nil ?_
 by_cases q12 : ((k : Nat) : Int) < ((n : Nat) : Int)
 ·rw [decide_eq_true q12]
  refine W_cond_t rfl ?_
  refine W_skip (W_seq (W_block (W_seq ?_)))
  refine W_drawS (T := fun g => False) rfl (l0 := tf 0 14) (by kernel_rfl) ?_
  refine WtS_take (i := 0) (listed' := tf 1 14) (Upd.refl _ _) (by kernel_rfl) rfl (by kernel_rfl) (by kernel_rfl) (by kernel_rfl) (by kernel_rfl) (YS_v (v := .pointer (some ⟨B1, 8, none⟩)) rfl (fun w' hw' => r_fld underlying45 rfl sizeOf43 rfl rfl)) ?_
  refine WtS_take (i := 1) (listed' := tf 2 14) (Upd.refl _ _) (by kernel_rfl) rfl (by kernel_rfl) (by kernel_rfl) (by kernel_rfl) (by kernel_rfl) (YS_v (v := .slice a n c) rfl (fun w' hw' => r_load isAgg43 rfl (by rw [(hb1.upd0 hw').cell]; rfl))) ?_
  refine WtS_take (i := 2) (listed' := tf 3 14) (Upd.refl _ _) (by kernel_rfl) rfl (by kernel_rfl) (by kernel_rfl) (by kernel_rfl) (by kernel_rfl) (YS_v (v := .int .i64 ((k : Nat) : Int)) rfl (fun w' hw' => r_mv (v := .int .i64 ((k : Nat) : Int)) rfl)) ?_
  obtain ⟨ib6, io6, ha6, hib6, hc6⟩ := Sl.rat (0, 0, 0, 0, false) encK_len (by decide) (hs) (i := k) (by omega)
  refine WtS_take (i := 3) (listed' := tf 4 14) (Upd.refl _ _) (by kernel_rfl) rfl (by kernel_rfl) (by kernel_rfl) (by kernel_rfl) (by kernel_rfl) (YS_v (v := .pointer (some ⟨ib6, io6 + k * 5, none⟩)) rfl (fun w' hw' => r_idx (b := ib6) (off := io6) (m := n) (c := c) (o' := io6 + k * 5) underlying43 sizeOf51 (by rw [← ha6]; rfl) rfl (by omega) (by omega) (by omega))) ?_
  refine WtS_take (i := 4) (listed' := tf 5 14) (Upd.refl _ _) (by kernel_rfl) rfl (by kernel_rfl) (by kernel_rfl) (by kernel_rfl) (by kernel_rfl) (YS_v (v := .agg #[.int .i64 ((bl.getD k (0, 0, 0, 0, false)).1), .int .i64 ((bl.getD k (0, 0, 0, 0, false)).2.1), .int .i64 ((bl.getD k (0, 0, 0, 0, false)).2.2.1), .int .i64 ((bl.getD k (0, 0, 0, 0, false)).2.2.2.1), .bool (decide ((bl.getD k (0, 0, 0, 0, false)).2.2.2.2 = true))]) rfl (fun w' hw' => r_loada (cs := [.int .i64 ((bl.getD k (0, 0, 0, 0, false)).1), .int .i64 ((bl.getD k (0, 0, 0, 0, false)).2.1), .int .i64 ((bl.getD k (0, 0, 0, 0, false)).2.2.1), .int .i64 ((bl.getD k (0, 0, 0, 0, false)).2.2.2.1), .bool (decide ((bl.getD k (0, 0, 0, 0, false)).2.2.2.2 = true))]) isAgg51 sizeOf51 rfl rfl (hw'.cellsk rfl hc6))) ?_
  refine WtS_take (i := 5) (listed' := tf 6 14) (Upd.refl _ _) (by kernel_rfl) rfl (by kernel_rfl) (by kernel_rfl) (by kernel_rfl) (by kernel_rfl) (YS_v (v := .pointer (some ⟨B2, 8, none⟩)) rfl (fun w' hw' => r_fld underlying48 rfl sizeOf46 rfl rfl)) ?_
  refine WtS_take (i := 6) (listed' := tf 7 14) (Upd.refl _ _) (by kernel_rfl) rfl (by kernel_rfl) (by kernel_rfl) (by kernel_rfl) (by kernel_rfl) (YS_v (v := .slice a2 n c2) rfl (fun w' hw' => r_load isAgg46 rfl (by rw [(hb2.upd0 hw').cell]; rfl))) ?_
  refine WtS_take (i := 7) (listed' := tf 8 14) (Upd.refl _ _) (by kernel_rfl) rfl (by kernel_rfl) (by kernel_rfl) (by kernel_rfl) (by kernel_rfl) (YS_v (v := .int .i64 ((k : Nat) : Int)) rfl (fun w' hw' => r_mv (v := .int .i64 ((k : Nat) : Int)) rfl)) ?_
  obtain ⟨ib7, io7, ha7, hib7, hc7⟩ := Sl.rat (0, 0, 0, 0, false) encK_len (by decide) (hs2) (i := k) (by omega)
  refine WtS_take (i := 8) (listed' := tf 9 14) (Upd.refl _ _) (by kernel_rfl) rfl (by kernel_rfl) (by kernel_rfl) (by kernel_rfl) (by kernel_rfl) (YS_v (v := .pointer (some ⟨ib7, io7 + k * 5, none⟩)) rfl (fun w' hw' => r_idx (b := ib7) (off := io7) (m := n) (c := c2) (o' := io7 + k * 5) underlying46 sizeOf53 (by rw [← ha7]; rfl) rfl (by omega) (by omega) (by omega))) ?_
  refine WtS_take (i := 9) (listed' := tf 10 14) (Upd.refl _ _) (by kernel_rfl) rfl (by kernel_rfl) (by kernel_rfl) (by kernel_rfl) (by kernel_rfl) (YS_v (v := .agg #[.int .i64 ((bl.getD k (0, 0, 0, 0, false)).1), .int .i64 ((bl.getD k (0, 0, 0, 0, false)).2.1), .int .i64 ((bl.getD k (0, 0, 0, 0, false)).2.2.1), .int .i64 ((bl.getD k (0, 0, 0, 0, false)).2.2.2.1), .bool (decide ((bl.getD k (0, 0, 0, 0, false)).2.2.2.2 = true))]) rfl (fun w' hw' => r_loada (cs := [.int .i64 ((bl.getD k (0, 0, 0, 0, false)).1), .int .i64 ((bl.getD k (0, 0, 0, 0, false)).2.1), .int .i64 ((bl.getD k (0, 0, 0, 0, false)).2.2.1), .int .i64 ((bl.getD k (0, 0, 0, 0, false)).2.2.2.1), .bool (decide ((bl.getD k (0, 0, 0, 0, false)).2.2.2.2 = true))]) isAgg53 sizeOf53 rfl rfl (hw'.cellsk rfl hc7))) ?_
  intro w8 hU8
  have hzw8 := hU8.size
  replace HL5 := HL5.trans0 hU8
  refine Wa_two (i := 10) (j := 11) (li := tf 11 14) (lj := #[true, true, true, true, true, true, true, true, true, true, false, true, false, false]) (by kernel_rfl) rfl rfl (by kernel_rfl) (by kernel_rfl) ?_ ?_
  ·refine Ws_of_Wl ?_
   have hW : Upd (fun g => False) w5 w5 := (Upd.refl _ _)
   replace hW := hW.trans0 hU8
   refine Wl_alloc (cs := [.int .i64 0, .int .i64 0, .int .i64 0, .int .i64 0, .bool false]) zeroValue51 rfl ?_
   intro B9 w9 hB9 hU9 hzz9 hb9
   have hzw9 := hU9.size
   replace HL5 := HL5.trans0 hU9
   replace hW := hW.trans0 hU9
   refine Wl_nil ?_
   intro w10 hS10
   have hX10 : Upd _ w5 w10 := hW.trans0 hS10.upd
   refine ⟨fun _ => ⟨hX10, ?_⟩, fun h => absurd h (by rw [show barOp _ 10 = false from by kernel_rfl]; simp)⟩
   have hU10 := hS10.upd
   have hzw10 := hU10.size
   replace HL5 := HL5.trans0 hU10
   replace hb9 := hb9.upd0 hU10
   refine WtS_base ?_
   intro w11 hU11
   have hzw11 := hU11.size
   replace HL5 := HL5.trans0 hU11
   replace hb9 := hb9.upd0 hU11
   refine Wa_one (i := 11) (listed' := tf 12 14) (by kernel_rfl) rfl (by kernel_rfl) ?_
   refine Ws_of_Wl ?_
   have hW : Upd (fun g => False) w5 w10 := hX10
   replace hW := hW.trans0 hU11
   refine Wl_alloc (cs := [.int .i64 0, .int .i64 0, .int .i64 0, .int .i64 0, .bool false]) zeroValue53 rfl ?_
   intro B12 w12 hB12 hU12 hzz12 hb12
   have hzw12 := hU12.size
   replace HL5 := HL5.trans0 hU12
   replace hb9 := hb9.upd0 hU12
   replace hW := hW.trans0 hU12
   refine Wl_nil ?_
   intro w13 hS13
   have hX13 : Upd _ w5 w13 := hW.trans0 hS13.upd
   refine ⟨fun _ => ⟨hX13, ?_⟩, fun h => absurd h (by rw [show barOp _ 11 = false from by kernel_rfl]; simp)⟩
   have hU13 := hS13.upd
   have hzw13 := hU13.size
   replace HL5 := HL5.trans0 hU13
   replace hb9 := hb9.upd0 hU13
   replace hb12 := hb12.upd0 hU13
   refine WtS_base ?_
   intro w14 hU14
   have hzw14 := hU14.size
   replace HL5 := HL5.trans0 hU14
   replace hb9 := hb9.upd0 hU14
   replace hb12 := hb12.upd0 hU14
   refine Wa_one (i := 12) (listed' := tf 13 14) (by kernel_rfl) rfl (by kernel_rfl) ?_
   refine Ws_of_Wl ?_
   have hW : Upd (fun g => False) w5 w13 := hX13
   replace hW := hW.trans0 hU14
   refine Wl_storea (off := 0) (vs := [.int .i64 ((bl.getD k (0, 0, 0, 0, false)).1), .int .i64 ((bl.getD k (0, 0, 0, 0, false)).2.1), .int .i64 ((bl.getD k (0, 0, 0, 0, false)).2.2.1), .int .i64 ((bl.getD k (0, 0, 0, 0, false)).2.2.2.1), .bool (decide ((bl.getD k (0, 0, 0, 0, false)).2.2.2.2 = true))]) (cs' := [.int .i64 ((bl.getD k (0, 0, 0, 0, false)).1), .int .i64 ((bl.getD k (0, 0, 0, 0, false)).2.1), .int .i64 ((bl.getD k (0, 0, 0, 0, false)).2.2.1), .int .i64 ((bl.getD k (0, 0, 0, 0, false)).2.2.2.1), .bool (decide ((bl.getD k (0, 0, 0, 0, false)).2.2.2.2 = true))]) sizeOf51 rfl rfl rfl (by simp only [List.mem_cons, List.not_mem_nil, or_false, forall_eq_or_imp, forall_eq]; exact ⟨rfl, rfl, rfl, rfl, rfl⟩) hb9 (by simp) rfl ?_
   intro w15 hU15 hzz15 hb9n
   replace hb9 := hb9n; clear hb9n
   have hzw15 := hU15.size
   replace HL5 := HL5.trans1 hU15 (by show (False) ∨ w4.heap.size ≤ B9; omega)
   replace hb12 := hb12.upd1 hU15 (by omega)
   replace hW := hW.trans1 hU15 (by show (False) ∨ w5.heap.size ≤ B9; omega)
   refine Wl_nil ?_
   intro w16 hS16
   have hX16 : Upd _ w5 w16 := hW.trans0 hS16.upd
   refine ⟨fun _ => ⟨hX16, ?_⟩, fun h => absurd h (by rw [show barOp _ 12 = false from by kernel_rfl]; simp)⟩
   have hU16 := hS16.upd
   have hzw16 := hU16.size
   replace HL5 := HL5.trans0 hU16
   replace hb9 := hb9.upd0 hU16
   replace hb12 := hb12.upd0 hU16
   refine WtS_base ?_
   intro w17 hU17
   have hzw17 := hU17.size
   replace HL5 := HL5.trans0 hU17
   replace hb9 := hb9.upd0 hU17
   replace hb12 := hb12.upd0 hU17
   refine Wa_one (i := 13) (listed' := tf 14 14) (by kernel_rfl) rfl (by kernel_rfl) ?_
   refine Ws_of_Wl ?_
   have hW : Upd No w16 w17 := hU17
   refine Wl_storea (off := 0) (vs := [.int .i64 ((bl.getD k (0, 0, 0, 0, false)).1), .int .i64 ((bl.getD k (0, 0, 0, 0, false)).2.1), .int .i64 ((bl.getD k (0, 0, 0, 0, false)).2.2.1), .int .i64 ((bl.getD k (0, 0, 0, 0, false)).2.2.2.1), .bool (decide ((bl.getD k (0, 0, 0, 0, false)).2.2.2.2 = true))]) (cs' := [.int .i64 ((bl.getD k (0, 0, 0, 0, false)).1), .int .i64 ((bl.getD k (0, 0, 0, 0, false)).2.1), .int .i64 ((bl.getD k (0, 0, 0, 0, false)).2.2.1), .int .i64 ((bl.getD k (0, 0, 0, 0, false)).2.2.2.1), .bool (decide ((bl.getD k (0, 0, 0, 0, false)).2.2.2.2 = true))]) sizeOf53 rfl rfl rfl (by simp only [List.mem_cons, List.not_mem_nil, or_false, forall_eq_or_imp, forall_eq]; exact ⟨rfl, rfl, rfl, rfl, rfl⟩) hb12 (by simp) rfl ?_
   intro w18 hU18 hzz18 hb12n
   replace hb12 := hb12n; clear hb12n
   have hzw18 := hU18.size
   replace HL5 := HL5.trans1 hU18 (by show (False) ∨ w4.heap.size ≤ B12; omega)
   replace hb9 := hb9.upd1 hU18 (by omega)
   refine Wl_nil ?_
   intro w19 hS19
   refine ⟨fun h => absurd h (by rw [show barOp _ 13 = true from by kernel_rfl]; simp), fun _ => ⟨Upd No w19, ?_⟩⟩
   have hU19 := hS19.upd
   have hzw19 := hU19.size
   replace HL5 := HL5.trans0 hU19
   replace hb9 := hb9.upd0 hU19
   replace hb12 := hb12.upd0 hU19
   try replace hW := hW.trans0 hU19
   refine Wa_done (by kernel_rfl) ?_
   refine W_seq (W_region ?_)
   refine Wl_v (r_fld underlying51 rfl sizeOf3 rfl rfl) ?_
   refine Wl_load (v := .int .i64 ((bl.getD k (0, 0, 0, 0, false)).1)) isAgg3 rfl hb9 rfl ?_
   refine Wl_v (r_fld underlying53 rfl sizeOf3 rfl rfl) ?_
   refine Wl_load (v := .int .i64 ((bl.getD k (0, 0, 0, 0, false)).1)) isAgg3 rfl hb12 rfl ?_
   refine Wl_v (r_ne rfl rfl) ?_
   refine Wmv (.bool (decide (((bl.getD k (0, 0, 0, 0, false)).1) ≠ ((bl.getD k (0, 0, 0, 0, false)).1)))) ?_
   have q13 : ¬ (((bl.getD k (0, 0, 0, 0, false)).1) ≠ ((bl.getD k (0, 0, 0, 0, false)).1)) := (fun h => h rfl)
   rw [decide_eq_false q13]
   refine Wl_guard_t rfl ?_
   refine Wl_v (r_fld underlying51 rfl sizeOf49 rfl rfl) ?_
   refine Wl_guard_t rfl ?_
   refine Wl_load (v := .int .i64 ((bl.getD k (0, 0, 0, 0, false)).2.1)) isAgg49 rfl hb9 rfl ?_
   refine Wl_guard_t rfl ?_
   refine Wl_v (r_fld underlying53 rfl sizeOf3 rfl rfl) ?_
   refine Wl_guard_t rfl ?_
   refine Wl_load (v := .int .i64 ((bl.getD k (0, 0, 0, 0, false)).2.1)) isAgg3 rfl hb12 rfl ?_
   refine Wl_guard_t rfl ?_
   refine Wl_v (r_ne rfl rfl) ?_
   refine Wl_v (r_pick_f (v := .bool (decide (((bl.getD k (0, 0, 0, 0, false)).2.1) ≠ ((bl.getD k (0, 0, 0, 0, false)).2.1)))) rfl rfl) ?_
   refine Wmv (.bool (decide (((bl.getD k (0, 0, 0, 0, false)).2.1) ≠ ((bl.getD k (0, 0, 0, 0, false)).2.1)))) ?_
   have q14 : ¬ (((bl.getD k (0, 0, 0, 0, false)).2.1) ≠ ((bl.getD k (0, 0, 0, 0, false)).2.1)) := (fun h => h rfl)
   rw [decide_eq_false q14]
   refine Wl_guard_t rfl ?_
   refine Wl_v (r_fld underlying51 rfl sizeOf3 rfl rfl) ?_
   refine Wl_guard_t rfl ?_
   refine Wl_load (v := .int .i64 ((bl.getD k (0, 0, 0, 0, false)).2.2.1)) isAgg3 rfl hb9 rfl ?_
   refine Wl_guard_t rfl ?_
   refine Wl_v (r_fld underlying53 rfl sizeOf3 rfl rfl) ?_
   refine Wl_guard_t rfl ?_
   refine Wl_load (v := .int .i64 ((bl.getD k (0, 0, 0, 0, false)).2.2.1)) isAgg3 rfl hb12 rfl ?_
   refine Wl_guard_t rfl ?_
   refine Wl_v (r_ne rfl rfl) ?_
   refine Wl_v (r_pick_f (v := .bool (decide (((bl.getD k (0, 0, 0, 0, false)).2.2.1) ≠ ((bl.getD k (0, 0, 0, 0, false)).2.2.1)))) rfl rfl) ?_
   refine Wmv (.bool (decide (((bl.getD k (0, 0, 0, 0, false)).2.2.1) ≠ ((bl.getD k (0, 0, 0, 0, false)).2.2.1)))) ?_
   have q15 : ¬ (((bl.getD k (0, 0, 0, 0, false)).2.2.1) ≠ ((bl.getD k (0, 0, 0, 0, false)).2.2.1)) := (fun h => h rfl)
   rw [decide_eq_false q15]
   refine Wl_guard_t rfl ?_
   refine Wl_v (r_fld underlying51 rfl sizeOf3 rfl rfl) ?_
   refine Wl_guard_t rfl ?_
   refine Wl_load (v := .int .i64 ((bl.getD k (0, 0, 0, 0, false)).2.2.2.1)) isAgg3 rfl hb9 rfl ?_
   refine Wl_guard_t rfl ?_
   refine Wl_v (r_fld underlying53 rfl sizeOf3 rfl rfl) ?_
   refine Wl_guard_t rfl ?_
   refine Wl_load (v := .int .i64 ((bl.getD k (0, 0, 0, 0, false)).2.2.2.1)) isAgg3 rfl hb12 rfl ?_
   refine Wl_guard_t rfl ?_
   refine Wl_v (r_ne rfl rfl) ?_
   refine Wl_v (r_pick_f (v := .bool (decide (((bl.getD k (0, 0, 0, 0, false)).2.2.2.1) ≠ ((bl.getD k (0, 0, 0, 0, false)).2.2.2.1)))) rfl rfl) ?_
   refine Wmv (.bool (decide (((bl.getD k (0, 0, 0, 0, false)).2.2.2.1) ≠ ((bl.getD k (0, 0, 0, 0, false)).2.2.2.1)))) ?_
   have q16 : ¬ (((bl.getD k (0, 0, 0, 0, false)).2.2.2.1) ≠ ((bl.getD k (0, 0, 0, 0, false)).2.2.2.1)) := (fun h => h rfl)
   rw [decide_eq_false q16]
   refine Wl_guard_t rfl ?_
   refine Wl_v (r_fld underlying51 rfl sizeOf4 rfl rfl) ?_
   refine Wl_guard_t rfl ?_
   refine Wl_load (v := .bool (decide ((bl.getD k (0, 0, 0, 0, false)).2.2.2.2 = true))) isAgg4 rfl hb9 rfl ?_
   refine Wl_guard_t rfl ?_
   refine Wl_v (r_fld underlying53 rfl sizeOf4 rfl rfl) ?_
   refine Wl_guard_t rfl ?_
   refine Wl_load (v := .bool (decide ((bl.getD k (0, 0, 0, 0, false)).2.2.2.2 = true))) isAgg4 rfl hb12 rfl ?_
   refine Wl_guard_t rfl ?_
   by_cases q17 : (bl.getD k (0, 0, 0, 0, false)).2.2.2.2 = true
   ·rw [decide_eq_true q17]
    refine Wl_v (v := .bool false) (r_neb (a := true) (b := true) underlying4 rfl rfl) ?_
    refine Wl_v (r_pick_f (v := .bool false) rfl rfl) ?_
    refine Wl_nil ?_
    refine W_cond_f rfl ?_
    refine W_skip (W_region ?_)
    refine Wmv (.int .i64 ((k : Nat) : Int)) ?_
    refine Wl_v (r_add rfl rfl (wi64 (by omega) (by omega))) ?_
    refine Was (.int .i64 (((k : Nat) : Int) + 1)) ?_
    refine Wl_nil ?_
    refine ⟨_, ?_, (k + 1), rfl, rfl, ⟨rfl, rfl, (Eq.trans (b := .int .i64 (((k : Nat) : Int) + 1)) rfl (vint (by omega))), trivial⟩, (by omega), HL5⟩
    omega
   rw [decide_eq_false q17]
   refine Wl_v (v := .bool false) (r_neb (a := false) (b := false) underlying4 rfl rfl) ?_
   refine Wl_v (r_pick_f (v := .bool false) rfl rfl) ?_
   refine Wl_nil ?_
   refine W_cond_f rfl ?_
   refine W_skip (W_region ?_)
   refine Wmv (.int .i64 ((k : Nat) : Int)) ?_
   refine Wl_v (r_add rfl rfl (wi64 (by omega) (by omega))) ?_
   refine Was (.int .i64 (((k : Nat) : Int) + 1)) ?_
   refine Wl_nil ?_
   refine ⟨_, ?_, (k + 1), rfl, rfl, ⟨rfl, rfl, (Eq.trans (b := .int .i64 (((k : Nat) : Int) + 1)) rfl (vint (by omega))), trivial⟩, (by omega), HL5⟩
   omega
  refine Ws_of_Wl ?_
  have hW : Upd (fun g => False) w5 w5 := (Upd.refl _ _)
  replace hW := hW.trans0 hU8
  refine Wl_alloc (cs := [.int .i64 0, .int .i64 0, .int .i64 0, .int .i64 0, .bool false]) zeroValue53 rfl ?_
  intro B20 w20 hB20 hU20 hzz20 hb20
  have hzw20 := hU20.size
  replace HL5 := HL5.trans0 hU20
  replace hW := hW.trans0 hU20
  refine Wl_nil ?_
  intro w21 hS21
  have hX21 : Upd _ w5 w21 := hW.trans0 hS21.upd
  refine ⟨fun _ => ⟨hX21, ?_⟩, fun h => absurd h (by rw [show barOp _ 11 = false from by kernel_rfl]; simp)⟩
  have hU21 := hS21.upd
  have hzw21 := hU21.size
  replace HL5 := HL5.trans0 hU21
  replace hb20 := hb20.upd0 hU21
  refine WtS_base ?_
  intro w22 hU22
  have hzw22 := hU22.size
  replace HL5 := HL5.trans0 hU22
  replace hb20 := hb20.upd0 hU22
  refine Wa_one (i := 10) (listed' := tf 12 14) (by kernel_rfl) rfl (by kernel_rfl) ?_
  refine Ws_of_Wl ?_
  have hW : Upd (fun g => False) w5 w21 := hX21
  replace hW := hW.trans0 hU22
  refine Wl_alloc (cs := [.int .i64 0, .int .i64 0, .int .i64 0, .int .i64 0, .bool false]) zeroValue51 rfl ?_
  intro B23 w23 hB23 hU23 hzz23 hb23
  have hzw23 := hU23.size
  replace HL5 := HL5.trans0 hU23
  replace hb20 := hb20.upd0 hU23
  replace hW := hW.trans0 hU23
  refine Wl_nil ?_
  intro w24 hS24
  have hX24 : Upd _ w5 w24 := hW.trans0 hS24.upd
  refine ⟨fun _ => ⟨hX24, ?_⟩, fun h => absurd h (by rw [show barOp _ 10 = false from by kernel_rfl]; simp)⟩
  have hU24 := hS24.upd
  have hzw24 := hU24.size
  replace HL5 := HL5.trans0 hU24
  replace hb20 := hb20.upd0 hU24
  replace hb23 := hb23.upd0 hU24
  refine WtS_base ?_
  intro w25 hU25
  have hzw25 := hU25.size
  replace HL5 := HL5.trans0 hU25
  replace hb20 := hb20.upd0 hU25
  replace hb23 := hb23.upd0 hU25
  refine Wa_one (i := 12) (listed' := tf 13 14) (by kernel_rfl) rfl (by kernel_rfl) ?_
  refine Ws_of_Wl ?_
  have hW : Upd (fun g => False) w5 w24 := hX24
  replace hW := hW.trans0 hU25
  refine Wl_storea (off := 0) (vs := [.int .i64 ((bl.getD k (0, 0, 0, 0, false)).1), .int .i64 ((bl.getD k (0, 0, 0, 0, false)).2.1), .int .i64 ((bl.getD k (0, 0, 0, 0, false)).2.2.1), .int .i64 ((bl.getD k (0, 0, 0, 0, false)).2.2.2.1), .bool (decide ((bl.getD k (0, 0, 0, 0, false)).2.2.2.2 = true))]) (cs' := [.int .i64 ((bl.getD k (0, 0, 0, 0, false)).1), .int .i64 ((bl.getD k (0, 0, 0, 0, false)).2.1), .int .i64 ((bl.getD k (0, 0, 0, 0, false)).2.2.1), .int .i64 ((bl.getD k (0, 0, 0, 0, false)).2.2.2.1), .bool (decide ((bl.getD k (0, 0, 0, 0, false)).2.2.2.2 = true))]) sizeOf51 rfl rfl rfl (by simp only [List.mem_cons, List.not_mem_nil, or_false, forall_eq_or_imp, forall_eq]; exact ⟨rfl, rfl, rfl, rfl, rfl⟩) hb23 (by simp) rfl ?_
  intro w26 hU26 hzz26 hb23n
  replace hb23 := hb23n; clear hb23n
  have hzw26 := hU26.size
  replace HL5 := HL5.trans1 hU26 (by show (False) ∨ w4.heap.size ≤ B23; omega)
  replace hb20 := hb20.upd1 hU26 (by omega)
  replace hW := hW.trans1 hU26 (by show (False) ∨ w5.heap.size ≤ B23; omega)
  refine Wl_nil ?_
  intro w27 hS27
  have hX27 : Upd _ w5 w27 := hW.trans0 hS27.upd
  refine ⟨fun _ => ⟨hX27, ?_⟩, fun h => absurd h (by rw [show barOp _ 12 = false from by kernel_rfl]; simp)⟩
  have hU27 := hS27.upd
  have hzw27 := hU27.size
  replace HL5 := HL5.trans0 hU27
  replace hb20 := hb20.upd0 hU27
  replace hb23 := hb23.upd0 hU27
  refine WtS_base ?_
  intro w28 hU28
  have hzw28 := hU28.size
  replace HL5 := HL5.trans0 hU28
  replace hb20 := hb20.upd0 hU28
  replace hb23 := hb23.upd0 hU28
  refine Wa_one (i := 13) (listed' := tf 14 14) (by kernel_rfl) rfl (by kernel_rfl) ?_
  refine Ws_of_Wl ?_
  have hW : Upd No w27 w28 := hU28
  refine Wl_storea (off := 0) (vs := [.int .i64 ((bl.getD k (0, 0, 0, 0, false)).1), .int .i64 ((bl.getD k (0, 0, 0, 0, false)).2.1), .int .i64 ((bl.getD k (0, 0, 0, 0, false)).2.2.1), .int .i64 ((bl.getD k (0, 0, 0, 0, false)).2.2.2.1), .bool (decide ((bl.getD k (0, 0, 0, 0, false)).2.2.2.2 = true))]) (cs' := [.int .i64 ((bl.getD k (0, 0, 0, 0, false)).1), .int .i64 ((bl.getD k (0, 0, 0, 0, false)).2.1), .int .i64 ((bl.getD k (0, 0, 0, 0, false)).2.2.1), .int .i64 ((bl.getD k (0, 0, 0, 0, false)).2.2.2.1), .bool (decide ((bl.getD k (0, 0, 0, 0, false)).2.2.2.2 = true))]) sizeOf53 rfl rfl rfl (by simp only [List.mem_cons, List.not_mem_nil, or_false, forall_eq_or_imp, forall_eq]; exact ⟨rfl, rfl, rfl, rfl, rfl⟩) hb20 (by simp) rfl ?_
  intro w29 hU29 hzz29 hb20n
  replace hb20 := hb20n; clear hb20n
  have hzw29 := hU29.size
  replace HL5 := HL5.trans1 hU29 (by show (False) ∨ w4.heap.size ≤ B20; omega)
  replace hb23 := hb23.upd1 hU29 (by omega)
  refine Wl_nil ?_
  intro w30 hS30
  refine ⟨fun h => absurd h (by rw [show barOp _ 13 = true from by kernel_rfl]; simp), fun _ => ⟨Upd No w30, ?_⟩⟩
  have hU30 := hS30.upd
  have hzw30 := hU30.size
  replace HL5 := HL5.trans0 hU30
  replace hb20 := hb20.upd0 hU30
  replace hb23 := hb23.upd0 hU30
  try replace hW := hW.trans0 hU30
  refine Wa_done (by kernel_rfl) ?_
  refine W_seq (W_region ?_)
  refine Wl_v (r_fld underlying51 rfl sizeOf3 rfl rfl) ?_
  refine Wl_load (v := .int .i64 ((bl.getD k (0, 0, 0, 0, false)).1)) isAgg3 rfl hb23 rfl ?_
  refine Wl_v (r_fld underlying53 rfl sizeOf3 rfl rfl) ?_
  refine Wl_load (v := .int .i64 ((bl.getD k (0, 0, 0, 0, false)).1)) isAgg3 rfl hb20 rfl ?_
  refine Wl_v (r_ne rfl rfl) ?_
  refine Wmv (.bool (decide (((bl.getD k (0, 0, 0, 0, false)).1) ≠ ((bl.getD k (0, 0, 0, 0, false)).1)))) ?_
  have q18 : ¬ (((bl.getD k (0, 0, 0, 0, false)).1) ≠ ((bl.getD k (0, 0, 0, 0, false)).1)) := (fun h => h rfl)
  rw [decide_eq_false q18]
  refine Wl_guard_t rfl ?_
  refine Wl_v (r_fld underlying51 rfl sizeOf49 rfl rfl) ?_
  refine Wl_guard_t rfl ?_
  refine Wl_load (v := .int .i64 ((bl.getD k (0, 0, 0, 0, false)).2.1)) isAgg49 rfl hb23 rfl ?_
  refine Wl_guard_t rfl ?_
  refine Wl_v (r_fld underlying53 rfl sizeOf3 rfl rfl) ?_
  refine Wl_guard_t rfl ?_
  refine Wl_load (v := .int .i64 ((bl.getD k (0, 0, 0, 0, false)).2.1)) isAgg3 rfl hb20 rfl ?_
  refine Wl_guard_t rfl ?_
  refine Wl_v (r_ne rfl rfl) ?_
  refine Wl_v (r_pick_f (v := .bool (decide (((bl.getD k (0, 0, 0, 0, false)).2.1) ≠ ((bl.getD k (0, 0, 0, 0, false)).2.1)))) rfl rfl) ?_
  refine Wmv (.bool (decide (((bl.getD k (0, 0, 0, 0, false)).2.1) ≠ ((bl.getD k (0, 0, 0, 0, false)).2.1)))) ?_
  have q19 : ¬ (((bl.getD k (0, 0, 0, 0, false)).2.1) ≠ ((bl.getD k (0, 0, 0, 0, false)).2.1)) := (fun h => h rfl)
  rw [decide_eq_false q19]
  refine Wl_guard_t rfl ?_
  refine Wl_v (r_fld underlying51 rfl sizeOf3 rfl rfl) ?_
  refine Wl_guard_t rfl ?_
  refine Wl_load (v := .int .i64 ((bl.getD k (0, 0, 0, 0, false)).2.2.1)) isAgg3 rfl hb23 rfl ?_
  refine Wl_guard_t rfl ?_
  refine Wl_v (r_fld underlying53 rfl sizeOf3 rfl rfl) ?_
  refine Wl_guard_t rfl ?_
  refine Wl_load (v := .int .i64 ((bl.getD k (0, 0, 0, 0, false)).2.2.1)) isAgg3 rfl hb20 rfl ?_
  refine Wl_guard_t rfl ?_
  refine Wl_v (r_ne rfl rfl) ?_
  refine Wl_v (r_pick_f (v := .bool (decide (((bl.getD k (0, 0, 0, 0, false)).2.2.1) ≠ ((bl.getD k (0, 0, 0, 0, false)).2.2.1)))) rfl rfl) ?_
  refine Wmv (.bool (decide (((bl.getD k (0, 0, 0, 0, false)).2.2.1) ≠ ((bl.getD k (0, 0, 0, 0, false)).2.2.1)))) ?_
  have q20 : ¬ (((bl.getD k (0, 0, 0, 0, false)).2.2.1) ≠ ((bl.getD k (0, 0, 0, 0, false)).2.2.1)) := (fun h => h rfl)
  rw [decide_eq_false q20]
  refine Wl_guard_t rfl ?_
  refine Wl_v (r_fld underlying51 rfl sizeOf3 rfl rfl) ?_
  refine Wl_guard_t rfl ?_
  refine Wl_load (v := .int .i64 ((bl.getD k (0, 0, 0, 0, false)).2.2.2.1)) isAgg3 rfl hb23 rfl ?_
  refine Wl_guard_t rfl ?_
  refine Wl_v (r_fld underlying53 rfl sizeOf3 rfl rfl) ?_
  refine Wl_guard_t rfl ?_
  refine Wl_load (v := .int .i64 ((bl.getD k (0, 0, 0, 0, false)).2.2.2.1)) isAgg3 rfl hb20 rfl ?_
  refine Wl_guard_t rfl ?_
  refine Wl_v (r_ne rfl rfl) ?_
  refine Wl_v (r_pick_f (v := .bool (decide (((bl.getD k (0, 0, 0, 0, false)).2.2.2.1) ≠ ((bl.getD k (0, 0, 0, 0, false)).2.2.2.1)))) rfl rfl) ?_
  refine Wmv (.bool (decide (((bl.getD k (0, 0, 0, 0, false)).2.2.2.1) ≠ ((bl.getD k (0, 0, 0, 0, false)).2.2.2.1)))) ?_
  have q21 : ¬ (((bl.getD k (0, 0, 0, 0, false)).2.2.2.1) ≠ ((bl.getD k (0, 0, 0, 0, false)).2.2.2.1)) := (fun h => h rfl)
  rw [decide_eq_false q21]
  refine Wl_guard_t rfl ?_
  refine Wl_v (r_fld underlying51 rfl sizeOf4 rfl rfl) ?_
  refine Wl_guard_t rfl ?_
  refine Wl_load (v := .bool (decide ((bl.getD k (0, 0, 0, 0, false)).2.2.2.2 = true))) isAgg4 rfl hb23 rfl ?_
  refine Wl_guard_t rfl ?_
  refine Wl_v (r_fld underlying53 rfl sizeOf4 rfl rfl) ?_
  refine Wl_guard_t rfl ?_
  refine Wl_load (v := .bool (decide ((bl.getD k (0, 0, 0, 0, false)).2.2.2.2 = true))) isAgg4 rfl hb20 rfl ?_
  refine Wl_guard_t rfl ?_
  by_cases q22 : (bl.getD k (0, 0, 0, 0, false)).2.2.2.2 = true
  ·rw [decide_eq_true q22]
   refine Wl_v (v := .bool false) (r_neb (a := true) (b := true) underlying4 rfl rfl) ?_
   refine Wl_v (r_pick_f (v := .bool false) rfl rfl) ?_
   refine Wl_nil ?_
   refine W_cond_f rfl ?_
   refine W_skip (W_region ?_)
   refine Wmv (.int .i64 ((k : Nat) : Int)) ?_
   refine Wl_v (r_add rfl rfl (wi64 (by omega) (by omega))) ?_
   refine Was (.int .i64 (((k : Nat) : Int) + 1)) ?_
   refine Wl_nil ?_
   refine ⟨_, ?_, (k + 1), rfl, rfl, ⟨rfl, rfl, (Eq.trans (b := .int .i64 (((k : Nat) : Int) + 1)) rfl (vint (by omega))), trivial⟩, (by omega), HL5⟩
   omega
  rw [decide_eq_false q22]
  refine Wl_v (v := .bool false) (r_neb (a := false) (b := false) underlying4 rfl rfl) ?_
  refine Wl_v (r_pick_f (v := .bool false) rfl rfl) ?_
  refine Wl_nil ?_
  refine W_cond_f rfl ?_
  refine W_skip (W_region ?_)
  refine Wmv (.int .i64 ((k : Nat) : Int)) ?_
  refine Wl_v (r_add rfl rfl (wi64 (by omega) (by omega))) ?_
  refine Was (.int .i64 (((k : Nat) : Int) + 1)) ?_
  refine Wl_nil ?_
  refine ⟨_, ?_, (k + 1), rfl, rfl, ⟨rfl, rfl, (Eq.trans (b := .int .i64 (((k : Nat) : Int) + 1)) rfl (vint (by omega))), trivial⟩, (by omega), HL5⟩
  omega
 rw [decide_eq_false q12]
 refine W_cond_f rfl ?_
 refine W_exit ?_
 refine W_seq (W_region ?_)
 refine Was (.bool true) ?_
 refine Wl_nil ?_
 refine W_ret ?_
 refine ret_end (v := .bool true) rfl (res1 results21 rfl) ?_
 exact ⟨_, rfl, rfl, HU⟩
set_option maxHeartbeats 4000000 in
theorem works44 {g0 : Nat} (w : World) (ht : Tab w g0) :
  Calls Tryd.prog 10 #[] w (Ret fun v w' => v = .bool true ∧ Upd No w w') := by
 have HU := Upd.rno w
 have htl := ht.1
 refine calls_of_W func10 rfl ntmps10 (by simp) ?_
 refine W_seq (W_region ?_)
 refine Was (.bool false) ?_
 refine Wl_nil (W_seq (W_region ?_))
 refine Wl_call (r_call0 rfl call23 ) (given44 _ ) ?_
 rintro v w1 ⟨a1, c1, rfl, hO1, hU1⟩
 have hzw1 := hU1.size
 replace ht := ht.upd0 hU1
 replace HU := HU.trans0 hU1
 have hl_hO1 := ilen hO1
 have hc_hO1 := hO1.cap.1
 refine Wl_call (r_call1 rfl call15 rfl) (ttext_ok _ ht hO1.any giv_byt (by omega) (show (ga giv 0).2 = 0 from by rw [giv_ga])) ?_
 rintro v w2 ⟨rfl, hU2⟩
 have hzw2 := hU2.size
 replace ht := ht.upd0 hU2
 replace HU := HU.trans0 hU2
 refine Wmv (.tuple #[.string (strOfNums (txt (ga giv 0).1)), .int .i64 0]) ?_
 refine Wl_v (r_ext (v := .string (strOfNums (txt (ga giv 0).1))) rfl rfl) ?_
 refine Wl_v (r_ext (v := .int .i64 0) rfl rfl) ?_
 refine Was (.string (strOfNums (txt (ga giv 0).1))) ?_
 refine Was (.int .i64 0) ?_
 refine Wl_nil (W_seq (W_region ?_))
 refine Wl_call (r_call0 rfl call23 ) (given44 _ ) ?_
 rintro v w3 ⟨a3, c3, rfl, hO3, hU3⟩
 have hzw3 := hU3.size
 replace ht := ht.upd0 hU3
 replace HU := HU.trans0 hU3
 have hl_hO3 := ilen hO3
 have hc_hO3 := hO3.cap.1
 refine Wl_call (r_call1 rfl call11 rfl) (count_ok _ hO3.any giv_byt (by omega) (show (ga giv 0).2 = 0 from by rw [giv_ga])) ?_
 rintro v w4 ⟨rfl, hU4⟩
 have hzw4 := hU4.size
 replace ht := ht.upd0 hU4
 replace HU := HU.trans0 hU4
 refine Wmv (.tuple #[.agg #[.int .i64 ((cnts (ga giv 0).1).1), .int .i64 ((cnts (ga giv 0).1).2.1), .int .i64 ((cnts (ga giv 0).1).2.2.1), .int .i64 ((cnts (ga giv 0).1).2.2.2.1), .int .i64 ((cnts (ga giv 0).1).2.2.2.2.1), .int .i64 ((cnts (ga giv 0).1).2.2.2.2.2.1), .int .i64 ((cnts (ga giv 0).1).2.2.2.2.2.2)], .int .i64 0]) ?_
 refine Wl_v (r_ext (v := .agg #[.int .i64 ((cnts (ga giv 0).1).1), .int .i64 ((cnts (ga giv 0).1).2.1), .int .i64 ((cnts (ga giv 0).1).2.2.1), .int .i64 ((cnts (ga giv 0).1).2.2.2.1), .int .i64 ((cnts (ga giv 0).1).2.2.2.2.1), .int .i64 ((cnts (ga giv 0).1).2.2.2.2.2.1), .int .i64 ((cnts (ga giv 0).1).2.2.2.2.2.2)]) rfl rfl) ?_
 refine Wl_v (r_ext (v := .int .i64 0) rfl rfl) ?_
 refine Wl_alloc (cs := [.int .i64 0, .int .i64 0, .int .i64 0, .int .i64 0, .int .i64 0, .int .i64 0, .int .i64 0]) zeroValue25 rfl ?_
 intro B5 w5 hB5 hU5 hzz5 hb5
 have hzw5 := hU5.size
 replace ht := ht.upd0 hU5
 replace HU := HU.trans0 hU5
 refine Wl_storea (off := 0) (vs := [.int .i64 ((cnts (ga giv 0).1).1), .int .i64 ((cnts (ga giv 0).1).2.1), .int .i64 ((cnts (ga giv 0).1).2.2.1), .int .i64 ((cnts (ga giv 0).1).2.2.2.1), .int .i64 ((cnts (ga giv 0).1).2.2.2.2.1), .int .i64 ((cnts (ga giv 0).1).2.2.2.2.2.1), .int .i64 ((cnts (ga giv 0).1).2.2.2.2.2.2)]) (cs' := [.int .i64 ((cnts (ga giv 0).1).1), .int .i64 ((cnts (ga giv 0).1).2.1), .int .i64 ((cnts (ga giv 0).1).2.2.1), .int .i64 ((cnts (ga giv 0).1).2.2.2.1), .int .i64 ((cnts (ga giv 0).1).2.2.2.2.1), .int .i64 ((cnts (ga giv 0).1).2.2.2.2.2.1), .int .i64 ((cnts (ga giv 0).1).2.2.2.2.2.2)]) sizeOf25 rfl rfl rfl (by simp only [List.mem_cons, List.not_mem_nil, or_false, forall_eq_or_imp, forall_eq]; exact ⟨rfl, rfl, rfl, rfl, rfl, rfl, rfl⟩) hb5 (by simp) rfl ?_
 intro w6 hU6 hzz6 hb5n
 replace hb5 := hb5n; clear hb5n
 have hzw6 := hU6.size
 replace ht := ht.upd1 hU6 (by omega)
 replace HU := HU.t1 hU6 (by omega)
 refine Was (.int .i64 0) ?_
 refine Wl_nil (W_seq (W_region ?_))
 refine Wl_lit (pv := [(0, .int .u8 80), (1, .int .u8 77), (2, .int .u8 84), (3, .int .u8 83), (4, .int .u8 1), (5, .int .u8 0), (6, .int .u8 0), (7, .int .u8 0), (8, .int .u8 255)]) (cs := [.int .u8 80, .int .u8 77, .int .u8 84, .int .u8 83, .int .u8 1, .int .u8 0, .int .u8 0, .int .u8 0, .int .u8 255]) underlying22 sizeOf5 zeroValue5 (by decide) (by decide) (by simp only [List.map_toArray, List.map_cons, List.map_nil] <;> rfl) (by kernel_rfl) rfl (by decide) ?_
 intro B7 w7 hB7 hU7 hzz7 hs7
 have hzw7 := hU7.size
 replace ht := ht.upd0 hU7
 replace HU := HU.trans0 hU7
 replace hb5 := hb5.upd0 hU7
 replace hs7 : Own w7 (Is B7) 5 1 (.slice (some ⟨B7, 0, none⟩) 9 9) 9 (ints .u8 [80, 77, 84, 83, 1, 0, 0, 0, 255]) := hs7
 replace hs7 : Own w7 (Is B7) 5 1 (.slice (some ⟨B7, 0, none⟩) 9 9) 9 (ints .u8 [80, 77, 84, 83, 1, 0, 0, 0, 255]) := hs7
 refine Wl_cvtsl underlying22 underlying5 rfl hs7 ?_
 intro w8 hU8 hzz8 hT8
 clear hs7
 have hzw8 := hU8.size
 replace ht := ht.upd1 hU8 (by omega)
 replace HU := HU.t1 hU8 (by omega)
 replace hb5 := hb5.upd1 hU8 (by omega)
 refine Wl_call (r_call1 rfl call15 rfl) (ttext_ok _ ht hT8.any (by intro x hx; simp at hx; omega) (by omega) (show (ga skx 0).2 = 0 from by rw [skx_ga])) ?_
 rintro v w9 ⟨rfl, hU9⟩
 have hzw9 := hU9.size
 replace HU := HU.trans0 hU9
 replace hb5 := hb5.upd0 hU9
 refine Wmv (.tuple #[.string (strOfNums (txt (ga [80, 77, 84, 83, 1, 0, 0, 0, 255] 0).1)), .int .i64 0]) ?_
 refine Wl_v (r_ext (v := .string (strOfNums (txt (ga [80, 77, 84, 83, 1, 0, 0, 0, 255] 0).1))) rfl rfl) ?_
 refine Wl_v (r_ext (v := .int .i64 0) rfl rfl) ?_
 refine Was (.string (strOfNums (txt (ga [80, 77, 84, 83, 1, 0, 0, 0, 255] 0).1))) ?_
 refine Was (.int .i64 0) ?_
 refine Wl_nil (W_seq (W_region ?_))
 refine Wl_call (r_call1 rfl call19 rfl) (read_ok (bs := []) _ (Sl.nil _ _ _) byt_nil (by omega) rfl) ?_
 rintro v w10 ⟨a10, m10, c10, rfl, hT10, hU10⟩
 have hzw10 := hU10.size
 replace HU := HU.trans0 hU10
 replace hb5 := hb5.upd0 hU10
 refine Wmv (.tuple #[.slice a10 m10 c10, .int .i64 0]) ?_
 refine Wl_v (r_ext (v := .slice a10 m10 c10) rfl rfl) ?_
 refine Wl_v (r_ext (v := .int .i64 0) rfl rfl) ?_
 refine Was (.slice a10 m10 c10) ?_
 refine Was (.int .i64 0) ?_
 refine Wl_nil (W_seq (W_region ?_))
 refine Wl_call (r_call0 rfl call23 ) (given44 _ ) ?_
 rintro v w11 ⟨a11, c11, rfl, hO11, hU11⟩
 have hzw11 := hU11.size
 replace HU := HU.trans0 hU11
 replace hb5 := hb5.upd0 hU11
 replace hT10 := hT10.upd0 hU11
 have hl_hO11 := ilen hO11
 have hc_hO11 := hO11.cap.1
 refine Wl_v (r_slicehn (h' := 15) underlying22 sizeOf5 rfl rfl (by omega) (by omega)) ?_
 have hT12 := Sl.cuth (n := 15) hO11 (by omega)
 have hl_hT12 := ilen hT12
 have hc_hT12 := hT12.cap.1
 refine Wl_call (r_call1 rfl call19 rfl) (read_no _ hT12.any (byt_take giv_byt _) (by omega) (by decide +kernel)) ?_
 rintro v w13 ⟨rfl, hU13⟩
 have hzw13 := hU13.size
 replace HU := HU.trans0 hU13
 replace hb5 := hb5.upd0 hU13
 replace hT10 := hT10.upd0 hU13
 refine Wmv (.tuple #[.slice none 0 0, .int .i64 ((ga (giv.take 15) 0).2)]) ?_
 refine Wl_v (r_ext (v := .slice none 0 0) rfl rfl) ?_
 refine Wl_v (r_ext (v := .int .i64 ((ga (giv.take 15) 0).2)) rfl rfl) ?_
 refine Was (.slice none 0 0) ?_
 refine Was (.int .i64 ((ga (giv.take 15) 0).2)) ?_
 refine Wl_nil (W_seq (W_region ?_))
 refine Wl_lit (pv := [(0, .int .u8 80), (1, .int .u8 77), (2, .int .u8 84), (3, .int .u8 30), (4, .int .u8 0), (5, .int .u8 0), (6, .int .u8 7), (7, .int .u8 0), (8, .int .u8 0)]) (cs := [.int .u8 80, .int .u8 77, .int .u8 84, .int .u8 30, .int .u8 0, .int .u8 0, .int .u8 7, .int .u8 0, .int .u8 0]) underlying22 sizeOf5 zeroValue5 (by decide) (by decide) (by simp only [List.map_toArray, List.map_cons, List.map_nil] <;> rfl) (by kernel_rfl) rfl (by decide) ?_
 intro B14 w14 hB14 hU14 hzz14 hs14
 have hzw14 := hU14.size
 replace HU := HU.trans0 hU14
 replace hb5 := hb5.upd0 hU14
 replace hT10 := hT10.upd0 hU14
 replace hs14 : Own w14 (Is B14) 5 1 (.slice (some ⟨B14, 0, none⟩) 9 9) 9 (ints .u8 [80, 77, 84, 30, 0, 0, 7, 0, 0]) := hs14
 replace hs14 : Own w14 (Is B14) 5 1 (.slice (some ⟨B14, 0, none⟩) 9 9) 9 (ints .u8 [80, 77, 84, 30, 0, 0, 7, 0, 0]) := hs14
 refine Wl_cvtsl underlying22 underlying5 rfl hs14 ?_
 intro w15 hU15 hzz15 hT15
 clear hs14
 have hzw15 := hU15.size
 replace HU := HU.t1 hU15 (by omega)
 replace hb5 := hb5.upd1 hU15 (by omega)
 replace hT10 := hT10.upd1 hU15 (by omega)
 refine Wl_call (r_call1 rfl call19 rfl) (read_no _ hT15.any (by intro x hx; simp at hx; omega) (by omega) (by decide +kernel)) ?_
 rintro v w16 ⟨rfl, hU16⟩
 have hzw16 := hU16.size
 replace HU := HU.trans0 hU16
 replace hb5 := hb5.upd0 hU16
 replace hT10 := hT10.upd0 hU16
 refine Wmv (.tuple #[.slice none 0 0, .int .i64 ((ga [80, 77, 84, 30, 0, 0, 7, 0, 0] 0).2)]) ?_
 refine Wl_v (r_ext (v := .slice none 0 0) rfl rfl) ?_
 refine Wl_v (r_ext (v := .int .i64 ((ga [80, 77, 84, 30, 0, 0, 7, 0, 0] 0).2)) rfl rfl) ?_
 refine Was (.slice none 0 0) ?_
 refine Was (.int .i64 ((ga [80, 77, 84, 30, 0, 0, 7, 0, 0] 0).2)) ?_
 refine Wl_nil (W_seq (W_region ?_))
 refine Wmv (.int .i64 0) ?_
 refine Wl_call (r_call1 rfl call13 rfl) (num44 _ ) ?_
 rintro v w17 ⟨rfl, hU17⟩
 have hzw17 := hU17.size
 replace HU := HU.trans0 hU17
 replace hb5 := hb5.upd0 hU17
 replace hT10 := hT10.upd0 hU17
 refine Wmv (.int .i64 0) ?_
 refine Wl_call (r_call1 rfl call13 rfl) (num44 _ ) ?_
 rintro v w18 ⟨rfl, hU18⟩
 have hzw18 := hU18.size
 replace HU := HU.trans0 hU18
 replace hb5 := hb5.upd0 hU18
 replace hT10 := hT10.upd0 hU18
 refine Wl_v (r_add rfl rfl (show _ = (0 : Int) from by decide)) ?_
 refine Wmv (.int .i64 0) ?_
 refine Wl_call (r_call1 rfl call13 rfl) (num44 _ ) ?_
 rintro v w19 ⟨rfl, hU19⟩
 have hzw19 := hU19.size
 replace HU := HU.trans0 hU19
 replace hb5 := hb5.upd0 hU19
 replace hT10 := hT10.upd0 hU19
 refine Wl_v (r_add rfl rfl (show _ = (0 : Int) from by decide)) ?_
 refine Wmv (.int .i64 0) ?_
 refine Wl_call (r_call1 rfl call13 rfl) (num44 _ ) ?_
 rintro v w20 ⟨rfl, hU20⟩
 have hzw20 := hU20.size
 replace HU := HU.trans0 hU20
 replace hb5 := hb5.upd0 hU20
 replace hT10 := hT10.upd0 hU20
 refine Wl_v (r_add rfl rfl (show _ = (0 : Int) from by decide)) ?_
 refine Wl_v (v := .bool true) (r_eq (a := 0) (b := 0) rfl rfl) ?_
 refine Wmv (.bool true) ?_
 refine Wl_guard_t rfl ?_
 refine Wmv (.string (strOfNums (txt (ga giv 0).1))) ?_
 refine Wl_guard_t rfl ?_
 refine Wl_v (r_eqstr (show Byt (txt (ga giv 0).1) from (by rw [giv_txt]; exact byt_lit (by decide))) (show Byt [102, 114, 97, 109, 101, 32, 48, 32, 49, 54, 32, 119, 105, 110, 100, 111, 119, 32, 49, 48, 50, 52, 32, 114, 97, 119, 32, 51, 32, 114, 117, 110, 32, 49, 10] from (by intro x hx; simp at hx; omega)) rfl rfl) ?_
 refine Wl_v (r_pick_t (v := .bool (decide ((txt (ga giv 0).1) = [102, 114, 97, 109, 101, 32, 48, 32, 49, 54, 32, 119, 105, 110, 100, 111, 119, 32, 49, 48, 50, 52, 32, 114, 97, 119, 32, 51, 32, 114, 117, 110, 32, 49, 10]))) rfl rfl) ?_
 refine Wmv (.bool (decide ((txt (ga giv 0).1) = [102, 114, 97, 109, 101, 32, 48, 32, 49, 54, 32, 119, 105, 110, 100, 111, 119, 32, 49, 48, 50, 52, 32, 114, 97, 119, 32, 51, 32, 114, 117, 110, 32, 49, 10]))) ?_
 have q1 : (txt (ga giv 0).1) = [102, 114, 97, 109, 101, 32, 48, 32, 49, 54, 32, 119, 105, 110, 100, 111, 119, 32, 49, 48, 50, 52, 32, 114, 97, 119, 32, 51, 32, 114, 117, 110, 32, 49, 10] := giv_txt
 rw [decide_eq_true q1]
 refine Wl_guard_t rfl ?_
 refine Wl_v (r_loada (b := B5) (off := 0) (cs := [.int .i64 ((cnts (ga giv 0).1).1), .int .i64 ((cnts (ga giv 0).1).2.1), .int .i64 ((cnts (ga giv 0).1).2.2.1), .int .i64 ((cnts (ga giv 0).1).2.2.2.1), .int .i64 ((cnts (ga giv 0).1).2.2.2.2.1), .int .i64 ((cnts (ga giv 0).1).2.2.2.2.2.1), .int .i64 ((cnts (ga giv 0).1).2.2.2.2.2.2)]) isAgg25 sizeOf25 rfl rfl (fun j hj => by rw [hb5.cell]; match j, hj with | 0, _ => rfl | 1, _ => rfl | 2, _ => rfl | 3, _ => rfl | 4, _ => rfl | 5, _ => rfl | 6, _ => rfl)) ?_
 refine Wl_guard_t rfl ?_
 refine Wl_v (r_build (pl := #[(0, 1), (1, 1), (2, 1), (3, 1), (4, 1), (5, 1), (6, 1)]) (pv := [(0, .int .i64 1), (2, .int .i64 1), (3, .int .i64 1), (5, .int .i64 4), (6, .int .i64 4)]) (cs := #[.int .i64 1, .int .i64 0, .int .i64 1, .int .i64 1, .int .i64 0, .int .i64 4, .int .i64 4]) zeroValue25 underlying25 (fun w => by kernel_rfl) (by simp only [List.map_toArray, List.map_cons, List.map_nil] <;> rfl) (by kernel_rfl)) ?_
 refine Wl_guard_t rfl ?_
 refine Wl_v (r_eqag (pp := ((cnts (ga giv 0).1).1) = 1 ∧ ((cnts (ga giv 0).1).2.1) = 0 ∧ ((cnts (ga giv 0).1).2.2.1) = 1 ∧ ((cnts (ga giv 0).1).2.2.2.1) = 1 ∧ ((cnts (ga giv 0).1).2.2.2.2.1) = 0 ∧ ((cnts (ga giv 0).1).2.2.2.2.2.1) = 4 ∧ ((cnts (ga giv 0).1).2.2.2.2.2.2) = 4) underlying25 (by kernel_rfl) (by kernel_rfl) rfl rfl (fun w => eqf_int (by decide) underlying3 isAgg3 rfl rfl (fun w => eqf_int (by decide) underlying3 isAgg3 rfl rfl (fun w => eqf_int (by decide) underlying3 isAgg3 rfl rfl (fun w => eqf_int (by decide) underlying3 isAgg3 rfl rfl (fun w => eqf_int (by decide) underlying3 isAgg3 rfl rfl (fun w => eqf_int (by decide) underlying3 isAgg3 rfl rfl (fun w => eqf_int (by decide) underlying3 isAgg3 rfl rfl (fun w => eqf_nil)))))))) (by simp [Bool.decide_and])) ?_
 refine Wl_v (r_pick_t (v := .bool (decide (((cnts (ga giv 0).1).1) = 1 ∧ ((cnts (ga giv 0).1).2.1) = 0 ∧ ((cnts (ga giv 0).1).2.2.1) = 1 ∧ ((cnts (ga giv 0).1).2.2.2.1) = 1 ∧ ((cnts (ga giv 0).1).2.2.2.2.1) = 0 ∧ ((cnts (ga giv 0).1).2.2.2.2.2.1) = 4 ∧ ((cnts (ga giv 0).1).2.2.2.2.2.2) = 4))) rfl rfl) ?_
 refine Wmv (.bool (decide (((cnts (ga giv 0).1).1) = 1 ∧ ((cnts (ga giv 0).1).2.1) = 0 ∧ ((cnts (ga giv 0).1).2.2.1) = 1 ∧ ((cnts (ga giv 0).1).2.2.2.1) = 1 ∧ ((cnts (ga giv 0).1).2.2.2.2.1) = 0 ∧ ((cnts (ga giv 0).1).2.2.2.2.2.1) = 4 ∧ ((cnts (ga giv 0).1).2.2.2.2.2.2) = 4))) ?_
 have q2 : ((cnts (ga giv 0).1).1) = 1 ∧ ((cnts (ga giv 0).1).2.1) = 0 ∧ ((cnts (ga giv 0).1).2.2.1) = 1 ∧ ((cnts (ga giv 0).1).2.2.2.1) = 1 ∧ ((cnts (ga giv 0).1).2.2.2.2.1) = 0 ∧ ((cnts (ga giv 0).1).2.2.2.2.2.1) = 4 ∧ ((cnts (ga giv 0).1).2.2.2.2.2.2) = 4 := (by decide +kernel)
 rw [decide_eq_true q2]
 refine Wl_guard_t rfl ?_
 refine Wmv (.string (strOfNums (txt (ga [80, 77, 84, 83, 1, 0, 0, 0, 255] 0).1))) ?_
 refine Wl_guard_t rfl ?_
 refine Wl_v (r_eqstr (show Byt (txt (ga [80, 77, 84, 83, 1, 0, 0, 0, 255] 0).1) from (by rw [show txt (ga [80, 77, 84, 83, 1, 0, 0, 0, 255] 0).1 = _ from skx_txt]; exact byt_lit (by decide))) (show Byt [115, 107, 105, 112, 32, 48, 32, 57, 32, 49, 10] from (by intro x hx; simp at hx; omega)) rfl rfl) ?_
 refine Wl_v (r_pick_t (v := .bool (decide ((txt (ga [80, 77, 84, 83, 1, 0, 0, 0, 255] 0).1) = [115, 107, 105, 112, 32, 48, 32, 57, 32, 49, 10]))) rfl rfl) ?_
 refine Wmv (.bool (decide ((txt (ga [80, 77, 84, 83, 1, 0, 0, 0, 255] 0).1) = [115, 107, 105, 112, 32, 48, 32, 57, 32, 49, 10]))) ?_
 have q3 : (txt (ga [80, 77, 84, 83, 1, 0, 0, 0, 255] 0).1) = [115, 107, 105, 112, 32, 48, 32, 57, 32, 49, 10] := skx_txt
 rw [decide_eq_true q3]
 refine Wl_guard_t rfl ?_
 refine Wmv (.slice a10 m10 c10) ?_
 refine Wl_guard_t rfl ?_
 refine Wl_v (r_len underlying57 rfl) ?_
 refine Wl_guard_t rfl ?_
 refine Wl_v (r_eq rfl rfl) ?_
 refine Wl_v (r_pick_t (v := .bool (decide (((m10 : Nat) : Int) = 0))) rfl rfl) ?_
 refine Wmv (.bool (decide (((m10 : Nat) : Int) = 0))) ?_
 have q4 : ((m10 : Nat) : Int) = 0 := (by have h9 := hT10.len; rw [show (ga [] 0).1.length = 0 from rfl] at h9; omega)
 rw [decide_eq_true q4]
 refine Wl_guard_t rfl ?_
 refine Wmv (.int .i64 ((ga (giv.take 15) 0).2)) ?_
 refine Wl_guard_t rfl ?_
 refine Wl_v (r_eq rfl rfl) ?_
 refine Wl_v (r_pick_t (v := .bool (decide (((ga (giv.take 15) 0).2) = 3))) rfl rfl) ?_
 refine Wmv (.bool (decide (((ga (giv.take 15) 0).2) = 3))) ?_
 have q5 : ((ga (giv.take 15) 0).2) = 3 := (by decide +kernel)
 rw [decide_eq_true q5]
 refine Wl_guard_t rfl ?_
 refine Wmv (.int .i64 ((ga [80, 77, 84, 30, 0, 0, 7, 0, 0] 0).2)) ?_
 refine Wl_guard_t rfl ?_
 refine Wl_v (r_eq rfl rfl) ?_
 refine Wl_v (r_pick_t (v := .bool (decide (((ga [80, 77, 84, 30, 0, 0, 7, 0, 0] 0).2) = 10))) rfl rfl) ?_
 refine Was (.bool (decide (((ga [80, 77, 84, 30, 0, 0, 7, 0, 0] 0).2) = 10))) ?_
 refine Wl_nil ?_
 refine W_ret ?_
 refine ret_end (v := .bool (decide (((ga [80, 77, 84, 30, 0, 0, 7, 0, 0] 0).2) = 10))) rfl (res1 results10 rfl) ?_
 exact ⟨_, rfl, (by rw [decide_eq_true (show ((ga [80, 77, 84, 30, 0, 0, 7, 0, 0] 0).2) = 10 from (by decide +kernel))]), HU⟩
end Go.Proofs.YtbjjhfoeckkacaaDoor
