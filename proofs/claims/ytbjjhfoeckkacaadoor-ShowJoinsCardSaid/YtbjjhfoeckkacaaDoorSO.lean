/-
  Several texts of this project, put together.
-/
import Derived.Test.YtbjjhfoeckkacaaDoorSM
import Derived.Test.YtbjjhfoeckkacaaDoorSA
set_option linter.unusedVariables false
set_option linter.unusedSimpArgs false
set_option linter.deprecated false
set_option maxRecDepth 100000
namespace Go.Proofs.YtbjjhfoeckkacaaDoor
open Go.Fw _root_.Go.Proofs.Tryd
set_option maxHeartbeats 4000000 in
theorem rline_spec {p : PT} {ba : Option Addr} {bm bc : Nat} (w : World) (hok : okP p) (hB : Sl w (fun g => g < w.heap.size) 5 (.slice ba bm bc) bm (rows encK p.bl)) :
  Calls Tryd.prog 18 #[.agg #[.int .i64 p.at_, .int .i64 p.sz, .bool (decide (p.sk = true)), .int .i64 p.pl, .int .i64 p.hd.1, .int .i64 p.hd.2.1, .int .u32 p.hd.2.2.1, .bool (decide (p.hd.2.2.2 = true)), .slice ba bm bc, .int .u32 p.ck]] w (Ret fun v w' => v = .string (strOfNums (lin p)) ∧ Upd No w w') := by
 have HU := Upd.rno w
 have hl_hB := rlen encK_len (by decide) hB
 have hc_hB := hB.cap.1
 have h38 := hok.h3
 have h39 := hok.ck
 have hd1 := dig_len hok.at_
 have hd2 := dig_len hok.sz
 have hd3 := dig_len hok.pl
 have hd4 := dig_len hok.h1
 have hd5 := dig_len hok.h2
 have hd6 := digN_len (u := p.hd.2.2.1.toNat) (by have := hok.h3; omega)
 have hd7 := digN_len (u := p.ck.toNat) (by have := hok.ck; omega)
 have hd8 : (l5 p).length ≤ 100 := by rw [l5_eq]; simp only [List.length_append, List.length_cons, List.length_nil]; omega
 have hd9 : (jt (wsz p)).length ≤ 100 := by unfold wsz; split <;> simp [jt] <;> omega
 have hda : (jt (wdi p)).length ≤ 100 := by unfold wdi; split <;> simp [jt] <;> omega
 have hdb : (jt (wck p)).length ≤ 100 := by unfold wck; split <;> simp [jt] <;> omega
 refine calls_of_W func18 rfl ntmps18 (by simp) ?_
 refine W_seq (W_region ?_)
 refine Wl_box (v := .agg #[.int .i64 p.at_, .int .i64 p.sz, .bool (decide (p.sk = true)), .int .i64 p.pl, .int .i64 p.hd.1, .int .i64 p.hd.2.1, .int .u32 p.hd.2.2.1, .bool (decide (p.hd.2.2.2 = true)), .slice ba bm bc, .int .u32 p.ck]) (cs := [.int .i64 p.at_, .int .i64 p.sz, .bool (decide (p.sk = true)), .int .i64 p.pl, .int .i64 p.hd.1, .int .i64 p.hd.2.1, .int .u32 p.hd.2.2.1, .bool (decide (p.hd.2.2.2 = true)), .slice ba bm bc, .int .u32 p.ck]) rfl rfl ?_
 intro B1 w1 hB1 hU1 hzz1 hb1
 have hzw1 := hU1.size
 replace hB := hB.upd0 hU1
 replace HU := HU.trans0 hU1
 refine Was (.string (strOfNums [])) ?_
 refine Wl_nil (W_seq (W_seq (W_region ?_)))
 refine Wl_v (r_fld underlying48 rfl sizeOf4 rfl rfl) ?_
 refine Wl_load (v := .bool (decide (p.sk = true))) isAgg4 rfl hb1 rfl ?_
 refine Wl_nil ?_
 by_cases q1 : p.sk = true
 ·rw [decide_eq_true q1]
  refine W_cond_t rfl ?_
  refine W_seq ?_
  refine W_drawt rfl (l0 := tf 0 15) (by kernel_rfl) ?_
  refine Tk 0 (tf 1 15) rfl (YI_v (v := .pointer (some ⟨B1, 0, none⟩)) rfl (fun w' hw' => r_fld underlying48 rfl sizeOf3 rfl rfl)) ?_
  refine Tk 1 (tf 2 15) rfl (YI_v (v := .int .i64 p.at_) rfl (fun w' hw' => r_load isAgg3 rfl (by rw [(hb1.upd0 hw').cell]; rfl))) ?_
  refine Tk 2 (tf 3 15) rfl (YI_c (v := .string (strOfNums (dig p.at_))) rfl (fun w' => r_call1 rfl call34 rfl) (fun w' hw' => digits_spec w' hok.at_)) ?_
  refine Tk 3 (tf 4 15) rfl (YI_v (v := .string (strOfNums ([115, 107, 105, 112, 32] ++ (dig p.at_)))) rfl (fun w' hw' => r_addstr (a := [115, 107, 105, 112, 32]) (b := dig p.at_) rfl rfl (by simp only [List.length_append, List.length_cons, List.length_nil]; omega))) ?_
  refine Tk 4 (tf 5 15) rfl (YI_v (v := .string (strOfNums ([115, 107, 105, 112, 32] ++ (dig p.at_) ++ [32]))) rfl (fun w' hw' => r_addstr (a := [115, 107, 105, 112, 32] ++ (dig p.at_)) (b := [32]) rfl rfl (by simp only [List.length_append, List.length_cons, List.length_nil]; omega))) ?_
  refine Tk 5 (tf 6 15) rfl (YI_v (v := .pointer (some ⟨B1, 1, none⟩)) rfl (fun w' hw' => r_fld underlying48 rfl sizeOf3 rfl rfl)) ?_
  refine Tk 6 (tf 7 15) rfl (YI_v (v := .int .i64 p.sz) rfl (fun w' hw' => r_load isAgg3 rfl (by rw [(hb1.upd0 hw').cell]; rfl))) ?_
  refine Tk 7 (tf 8 15) rfl (YI_c (v := .string (strOfNums (dig p.sz))) rfl (fun w' => r_call1 rfl call34 rfl) (fun w' hw' => digits_spec w' hok.sz)) ?_
  refine Tk 8 (tf 9 15) rfl (YI_v (v := .string (strOfNums ([115, 107, 105, 112, 32] ++ (dig p.at_) ++ [32] ++ (dig p.sz)))) rfl (fun w' hw' => r_addstr (a := [115, 107, 105, 112, 32] ++ (dig p.at_) ++ [32]) (b := dig p.sz) rfl rfl (by simp only [List.length_append, List.length_cons, List.length_nil]; omega))) ?_
  refine Tk 9 (tf 10 15) rfl (YI_v (v := .string (strOfNums ([115, 107, 105, 112, 32] ++ (dig p.at_) ++ [32] ++ (dig p.sz) ++ [32]))) rfl (fun w' hw' => r_addstr (a := [115, 107, 105, 112, 32] ++ (dig p.at_) ++ [32] ++ (dig p.sz)) (b := [32]) rfl rfl (by simp only [List.length_append, List.length_cons, List.length_nil]; omega))) ?_
  refine Tk 10 (tf 11 15) rfl (YI_v (v := .pointer (some ⟨B1, 3, none⟩)) rfl (fun w' hw' => r_fld underlying48 rfl sizeOf3 rfl rfl)) ?_
  refine Tk 11 (tf 12 15) rfl (YI_v (v := .int .i64 p.pl) rfl (fun w' hw' => r_load isAgg3 rfl (by rw [(hb1.upd0 hw').cell]; rfl))) ?_
  refine Tk 12 (tf 13 15) rfl (YI_c (v := .string (strOfNums (dig p.pl))) rfl (fun w' => r_call1 rfl call34 rfl) (fun w' hw' => digits_spec w' hok.pl)) ?_
  refine Tk 13 (tf 14 15) rfl (YI_v (v := .string (strOfNums ([115, 107, 105, 112, 32] ++ (dig p.at_) ++ [32] ++ (dig p.sz) ++ [32] ++ (dig p.pl)))) rfl (fun w' hw' => r_addstr (a := [115, 107, 105, 112, 32] ++ (dig p.at_) ++ [32] ++ (dig p.sz) ++ [32]) (b := dig p.pl) rfl rfl (by simp only [List.length_append, List.length_cons, List.length_nil]; omega))) ?_
  refine Tk 14 (tf 15 15) rfl (YI_v (v := .string (strOfNums ([115, 107, 105, 112, 32] ++ (dig p.at_) ++ [32] ++ (dig p.sz) ++ [32] ++ (dig p.pl)))) rfl (fun w' hw' => r_as (v := .string (strOfNums ([115, 107, 105, 112, 32] ++ (dig p.at_) ++ [32] ++ (dig p.sz) ++ [32] ++ (dig p.pl)))) rfl)) ?_
  intro w2 hU2
  have hzw2 := hU2.size
  replace HU := HU.trans0 hU2
  refine Wa_done (by kernel_rfl) ?_
  refine W_ret ?_
  refine ret_end (v := .string (strOfNums ([115, 107, 105, 112, 32] ++ (dig p.at_) ++ [32] ++ (dig p.sz) ++ [32] ++ (dig p.pl)))) rfl (res1 results18 rfl) ?_
  exact ⟨_, rfl, (vstr (by rw [lin_skip q1]; simp [jnw])), HU⟩
 rw [decide_eq_false q1]
 refine W_cond_f rfl ?_
 refine W_skip (W_seq ?_)
 refine W_drawt rfl (l0 := tf 0 16) (by kernel_rfl) ?_
 refine Tk 0 (tf 1 16) rfl (YI_v (v := .pointer (some ⟨B1, 0, none⟩)) rfl (fun w' hw' => r_fld underlying48 rfl sizeOf3 rfl rfl)) ?_
 refine Tk 1 (tf 2 16) rfl (YI_v (v := .int .i64 p.at_) rfl (fun w' hw' => r_load isAgg3 rfl (by rw [(hb1.upd0 hw').cell]; rfl))) ?_
 refine Tk 2 (tf 3 16) rfl (YI_c (v := .string (strOfNums (dig p.at_))) rfl (fun w' => r_call1 rfl call34 rfl) (fun w' hw' => digits_spec w' hok.at_)) ?_
 refine Tk 3 (tf 4 16) rfl (YI_v (v := .string (strOfNums ([102, 114, 97, 109, 101, 32] ++ (dig p.at_)))) rfl (fun w' hw' => r_addstr (a := [102, 114, 97, 109, 101, 32]) (b := dig p.at_) rfl rfl (by simp only [List.length_append, List.length_cons, List.length_nil]; omega))) ?_
 refine Tk 4 (tf 5 16) rfl (YI_v (v := .string (strOfNums ([102, 114, 97, 109, 101, 32] ++ (dig p.at_) ++ [32]))) rfl (fun w' hw' => r_addstr (a := [102, 114, 97, 109, 101, 32] ++ (dig p.at_)) (b := [32]) rfl rfl (by simp only [List.length_append, List.length_cons, List.length_nil]; omega))) ?_
 refine Tk 5 (tf 6 16) rfl (YI_v (v := .pointer (some ⟨B1, 1, none⟩)) rfl (fun w' hw' => r_fld underlying48 rfl sizeOf3 rfl rfl)) ?_
 refine Tk 6 (tf 7 16) rfl (YI_v (v := .int .i64 p.sz) rfl (fun w' hw' => r_load isAgg3 rfl (by rw [(hb1.upd0 hw').cell]; rfl))) ?_
 refine Tk 7 (tf 8 16) rfl (YI_c (v := .string (strOfNums (dig p.sz))) rfl (fun w' => r_call1 rfl call34 rfl) (fun w' hw' => digits_spec w' hok.sz)) ?_
 refine Tk 8 (tf 9 16) rfl (YI_v (v := .string (strOfNums ([102, 114, 97, 109, 101, 32] ++ (dig p.at_) ++ [32] ++ (dig p.sz)))) rfl (fun w' hw' => r_addstr (a := [102, 114, 97, 109, 101, 32] ++ (dig p.at_) ++ [32]) (b := dig p.sz) rfl rfl (by simp only [List.length_append, List.length_cons, List.length_nil]; omega))) ?_
 refine Tk 9 (tf 10 16) rfl (YI_v (v := .string (strOfNums ([102, 114, 97, 109, 101, 32] ++ (dig p.at_) ++ [32] ++ (dig p.sz) ++ [32, 119, 105, 110, 100, 111, 119, 32]))) rfl (fun w' hw' => r_addstr (a := [102, 114, 97, 109, 101, 32] ++ (dig p.at_) ++ [32] ++ (dig p.sz)) (b := [32, 119, 105, 110, 100, 111, 119, 32]) rfl rfl (by simp only [List.length_append, List.length_cons, List.length_nil]; omega))) ?_
 refine Tk 10 (tf 11 16) rfl (YI_v (v := .pointer (some ⟨B1, 4, none⟩)) rfl (fun w' hw' => r_fld underlying48 rfl sizeOf41 rfl rfl)) ?_
 refine Tk 11 (tf 12 16) rfl (YI_v (v := .pointer (some ⟨B1, 4, none⟩)) rfl (fun w' hw' => r_fld underlying41 rfl sizeOf3 rfl rfl)) ?_
 refine Tk 12 (tf 13 16) rfl (YI_v (v := .int .i64 p.hd.1) rfl (fun w' hw' => r_load isAgg3 rfl (by rw [(hb1.upd0 hw').cell]; rfl))) ?_
 refine Tk 13 (tf 14 16) rfl (YI_c (v := .string (strOfNums (dig p.hd.1))) rfl (fun w' => r_call1 rfl call34 rfl) (fun w' hw' => digits_spec w' hok.h1)) ?_
 refine Tk 14 (tf 15 16) rfl (YI_v (v := .string (strOfNums ([102, 114, 97, 109, 101, 32] ++ (dig p.at_) ++ [32] ++ (dig p.sz) ++ [32, 119, 105, 110, 100, 111, 119, 32] ++ (dig p.hd.1)))) rfl (fun w' hw' => r_addstr (a := [102, 114, 97, 109, 101, 32] ++ (dig p.at_) ++ [32] ++ (dig p.sz) ++ [32, 119, 105, 110, 100, 111, 119, 32]) (b := dig p.hd.1) rfl rfl (by simp only [List.length_append, List.length_cons, List.length_nil]; omega))) ?_
 refine Tk 15 (tf 16 16) rfl (YI_v (v := .string (strOfNums ([102, 114, 97, 109, 101, 32] ++ (dig p.at_) ++ [32] ++ (dig p.sz) ++ [32, 119, 105, 110, 100, 111, 119, 32] ++ (dig p.hd.1)))) rfl (fun w' hw' => r_as (v := .string (strOfNums ([102, 114, 97, 109, 101, 32] ++ (dig p.at_) ++ [32] ++ (dig p.sz) ++ [32, 119, 105, 110, 100, 111, 119, 32] ++ (dig p.hd.1)))) rfl)) ?_
 intro w3 hU3
 have hzw3 := hU3.size
 replace hB := hB.upd0 hU3
 replace HU := HU.trans0 hU3
 replace hb1 := hb1.upd0 hU3
 refine Wa_done (by kernel_rfl) ?_
 refine W_seq ?_
 refine W_join (fun ρ ds w' => ds = [] ∧ Liv ρ [(1, .pointer (some ⟨B1, 0, none⟩)), (3, .string (strOfNums (l5 p ++ jt (wsz p))))] ∧ Upd No w3 w') ?_ ?_
 ·have HJ4 : Upd No w3 w3 := Upd.refl _ _
  refine W_seq (W_region ?_)
  refine Wl_v (r_fld underlying48 rfl sizeOf41 rfl rfl) ?_
  refine Wl_v (r_fld underlying41 rfl sizeOf3 rfl rfl) ?_
  refine Wl_load (v := .int .i64 p.hd.2.1) isAgg3 rfl hb1 rfl ?_
  refine Wl_v (r_ge rfl rfl) ?_
  refine Wl_nil ?_
  by_cases q2 : 0 ≤ p.hd.2.1
  ·rw [decide_eq_true q2]
   refine W_cond_t rfl ?_
   refine W_region ?_
   refine Wmv (.string (strOfNums ([102, 114, 97, 109, 101, 32] ++ (dig p.at_) ++ [32] ++ (dig p.sz) ++ [32, 119, 105, 110, 100, 111, 119, 32] ++ (dig p.hd.1)))) ?_
   refine Wl_v (r_addstr (a := [102, 114, 97, 109, 101, 32] ++ (dig p.at_) ++ [32] ++ (dig p.sz) ++ [32, 119, 105, 110, 100, 111, 119, 32] ++ (dig p.hd.1)) (b := [32, 99, 111, 110, 116, 101, 110, 116, 32]) rfl rfl (by simp only [List.length_append, List.length_cons, List.length_nil]; omega)) ?_
   refine Wl_v (r_fld underlying48 rfl sizeOf41 rfl rfl) ?_
   refine Wl_v (r_fld underlying41 rfl sizeOf3 rfl rfl) ?_
   refine Wl_load (v := .int .i64 p.hd.2.1) isAgg3 rfl hb1 rfl ?_
   refine Wl_call (r_call1 rfl call34 rfl) (digits_spec _ hok.h2) ?_
   rintro v w5 ⟨rfl, hU5⟩
   have hzw5 := hU5.size
   replace HJ4 := HJ4.trans0 hU5
   refine Wl_v (r_addstr (a := [102, 114, 97, 109, 101, 32] ++ (dig p.at_) ++ [32] ++ (dig p.sz) ++ [32, 119, 105, 110, 100, 111, 119, 32] ++ (dig p.hd.1) ++ [32, 99, 111, 110, 116, 101, 110, 116, 32]) (b := dig p.hd.2.1) rfl rfl (by simp only [List.length_append, List.length_cons, List.length_nil]; omega)) ?_
   refine Was (.string (strOfNums ([102, 114, 97, 109, 101, 32] ++ (dig p.at_) ++ [32] ++ (dig p.sz) ++ [32, 119, 105, 110, 100, 111, 119, 32] ++ (dig p.hd.1) ++ [32, 99, 111, 110, 116, 101, 110, 116, 32] ++ (dig p.hd.2.1)))) ?_
   refine Wl_nil ?_
   exact ⟨rfl, ⟨rfl, (Eq.trans (b := .string (strOfNums ([102, 114, 97, 109, 101, 32] ++ (dig p.at_) ++ [32] ++ (dig p.sz) ++ [32, 119, 105, 110, 100, 111, 119, 32] ++ (dig p.hd.1) ++ [32, 99, 111, 110, 116, 101, 110, 116, 32] ++ (dig p.hd.2.1)))) rfl (vstr (by rw [l5_eq, wsz_t q2, jt_two]; simp only [List.append_assoc, List.cons_append, List.nil_append]))), trivial⟩, HJ4⟩
  rw [decide_eq_false q2]
  refine W_cond_f rfl ?_
  refine W_skip ?_
  exact ⟨rfl, ⟨rfl, (Eq.trans (b := .string (strOfNums ([102, 114, 97, 109, 101, 32] ++ (dig p.at_) ++ [32] ++ (dig p.sz) ++ [32, 119, 105, 110, 100, 111, 119, 32] ++ (dig p.hd.1)))) rfl (vstr (by rw [l5_eq, wsz_f q2, jt_nil, List.append_nil]))), trivial⟩, HJ4⟩
 rintro ρ6 ds6 w6 ⟨rfl, hl6, hU6⟩
 obtain ⟨ρ6x, rfl⟩ : ∃ ρx, ρ6 = upds ρx [(1, .pointer (some ⟨B1, 0, none⟩)), (3, .string (strOfNums (l5 p ++ jt (wsz p))))] := ⟨_, upds_self hl6⟩
 clear hl6
 have hzw6 := hU6.size
 replace hB := hB.upd0 hU6
 replace HU := HU.trans0 hU6
 replace hb1 := hb1.upd0 hU6
 refine W_seq ?_
 refine W_join (fun ρ ds w' => ds = [] ∧ Liv ρ [(1, .pointer (some ⟨B1, 0, none⟩)), (3, .string (strOfNums (l5 p ++ jt (wsz p) ++ jt (wdi p))))] ∧ Upd No w6 w') ?_ ?_
 ·have HJ7 : Upd No w6 w6 := Upd.refl _ _
  refine W_seq (W_region ?_)
  refine Wl_v (r_fld underlying48 rfl sizeOf41 rfl rfl) ?_
  refine Wl_v (r_fld underlying41 rfl sizeOf39 rfl rfl) ?_
  refine Wl_load (v := .int .u32 p.hd.2.2.1) isAgg39 rfl hb1 rfl ?_
  refine Wl_v (r_ne rfl rfl) ?_
  refine Wl_nil ?_
  by_cases q3 : p.hd.2.2.1 ≠ 0
  ·rw [decide_eq_true q3]
   refine W_cond_t rfl ?_
   refine W_region ?_
   refine Wmv (.string (strOfNums (l5 p ++ jt (wsz p)))) ?_
   refine Wl_v (r_addstr (a := l5 p ++ jt (wsz p)) (b := [32, 100, 105, 99, 116, 105, 111, 110, 97, 114, 121, 32]) rfl rfl (by simp only [List.length_append, List.length_cons, List.length_nil]; omega)) ?_
   refine Wl_v (r_fld underlying48 rfl sizeOf41 rfl rfl) ?_
   refine Wl_v (r_fld underlying41 rfl sizeOf39 rfl rfl) ?_
   refine Wl_load (v := .int .u32 p.hd.2.2.1) isAgg39 rfl hb1 rfl ?_
   refine Wl_v (r_cvt underlying39 underlying93 rfl (wu64 (by omega) (by omega))) ?_
   refine Wl_call (r_call1 rfl call35 (v0 := .int .u64 ((p.hd.2.2.1.toNat : Nat) : Int)) (Eq.trans (b := .int .u64 p.hd.2.2.1) rfl (vint (by have h8 := hok.h3; have h9 := hok.ck; omega)))) (natural_spec _ (by omega)) ?_
   rintro v w8 ⟨rfl, hU8⟩
   have hzw8 := hU8.size
   replace HJ7 := HJ7.trans0 hU8
   refine Wl_v (r_addstr (a := l5 p ++ jt (wsz p) ++ [32, 100, 105, 99, 116, 105, 111, 110, 97, 114, 121, 32]) (b := digN p.hd.2.2.1.toNat) rfl rfl (by simp only [List.length_append, List.length_cons, List.length_nil]; omega)) ?_
   refine Was (.string (strOfNums (l5 p ++ jt (wsz p) ++ [32, 100, 105, 99, 116, 105, 111, 110, 97, 114, 121, 32] ++ (digN p.hd.2.2.1.toNat)))) ?_
   refine Wl_nil ?_
   exact ⟨rfl, ⟨rfl, (Eq.trans (b := .string (strOfNums (l5 p ++ jt (wsz p) ++ [32, 100, 105, 99, 116, 105, 111, 110, 97, 114, 121, 32] ++ (digN p.hd.2.2.1.toNat)))) rfl (vstr (by rw [wdi_t (fun h2 => q3 h2), jt_two]; simp only [List.append_assoc, List.cons_append, List.nil_append]))), trivial⟩, HJ7⟩
  rw [decide_eq_false q3]
  refine W_cond_f rfl ?_
  refine W_skip ?_
  exact ⟨rfl, ⟨rfl, (Eq.trans (b := .string (strOfNums (l5 p ++ jt (wsz p)))) rfl (vstr (by rw [wdi_f (Classical.not_not.1 q3), jt_nil, List.append_nil]))), trivial⟩, HJ7⟩
 rintro ρ9 ds9 w9 ⟨rfl, hl9, hU9⟩
 obtain ⟨ρ9x, rfl⟩ : ∃ ρx, ρ9 = upds ρx [(1, .pointer (some ⟨B1, 0, none⟩)), (3, .string (strOfNums (l5 p ++ jt (wsz p) ++ jt (wdi p))))] := ⟨_, upds_self hl9⟩
 clear hl9
 have hzw9 := hU9.size
 replace hB := hB.upd0 hU9
 replace HU := HU.trans0 hU9
 replace hb1 := hb1.upd0 hU9
 refine W_seq ?_
 refine W_join (fun ρ ds w' => ds = [] ∧ Liv ρ [(1, .pointer (some ⟨B1, 0, none⟩)), (3, .string (strOfNums (l5 p ++ jt (wsz p) ++ jt (wdi p) ++ jt (wck p))))] ∧ Upd No w9 w') ?_ ?_
 ·have HJ10 : Upd No w9 w9 := Upd.refl _ _
  refine W_seq (W_region ?_)
  refine Wl_v (r_fld underlying48 rfl sizeOf41 rfl rfl) ?_
  refine Wl_v (r_fld underlying41 rfl sizeOf4 rfl rfl) ?_
  refine Wl_load (v := .bool (decide (p.hd.2.2.2 = true))) isAgg4 rfl hb1 rfl ?_
  refine Wl_nil ?_
  by_cases q4 : p.hd.2.2.2 = true
  ·rw [decide_eq_true q4]
   refine W_cond_t rfl ?_
   refine W_region ?_
   refine Wmv (.string (strOfNums (l5 p ++ jt (wsz p) ++ jt (wdi p)))) ?_
   refine Wl_v (r_addstr (a := l5 p ++ jt (wsz p) ++ jt (wdi p)) (b := [32, 99, 104, 101, 99, 107, 32]) rfl rfl (by simp only [List.length_append, List.length_cons, List.length_nil]; omega)) ?_
   refine Wl_v (r_fld underlying48 rfl sizeOf39 rfl rfl) ?_
   refine Wl_load (v := .int .u32 p.ck) isAgg39 rfl hb1 rfl ?_
   refine Wl_v (r_cvt underlying39 underlying93 rfl (wu64 (by omega) (by omega))) ?_
   refine Wl_call (r_call1 rfl call35 (v0 := .int .u64 ((p.ck.toNat : Nat) : Int)) (Eq.trans (b := .int .u64 p.ck) rfl (vint (by have h8 := hok.h3; have h9 := hok.ck; omega)))) (natural_spec _ (by omega)) ?_
   rintro v w11 ⟨rfl, hU11⟩
   have hzw11 := hU11.size
   replace HJ10 := HJ10.trans0 hU11
   refine Wl_v (r_addstr (a := l5 p ++ jt (wsz p) ++ jt (wdi p) ++ [32, 99, 104, 101, 99, 107, 32]) (b := digN p.ck.toNat) rfl rfl (by simp only [List.length_append, List.length_cons, List.length_nil]; omega)) ?_
   refine Was (.string (strOfNums (l5 p ++ jt (wsz p) ++ jt (wdi p) ++ [32, 99, 104, 101, 99, 107, 32] ++ (digN p.ck.toNat)))) ?_
   refine Wl_nil ?_
   exact ⟨rfl, ⟨rfl, (Eq.trans (b := .string (strOfNums (l5 p ++ jt (wsz p) ++ jt (wdi p) ++ [32, 99, 104, 101, 99, 107, 32] ++ (digN p.ck.toNat)))) rfl (vstr (by rw [wck_t q4, jt_two]; simp only [List.append_assoc, List.cons_append, List.nil_append]))), trivial⟩, HJ10⟩
  rw [decide_eq_false q4]
  refine W_cond_f rfl ?_
  refine W_skip ?_
  exact ⟨rfl, ⟨rfl, (Eq.trans (b := .string (strOfNums (l5 p ++ jt (wsz p) ++ jt (wdi p)))) rfl (vstr (by rw [wck_f q4, jt_nil, List.append_nil]))), trivial⟩, HJ10⟩
 rintro ρ12 ds12 w12 ⟨rfl, hl12, hU12⟩
 obtain ⟨ρ12x, rfl⟩ : ∃ ρx, ρ12 = upds ρx [(1, .pointer (some ⟨B1, 0, none⟩)), (3, .string (strOfNums (l5 p ++ jt (wsz p) ++ jt (wdi p) ++ jt (wck p))))] := ⟨_, upds_self hl12⟩
 clear hl12
 have hzw12 := hU12.size
 replace hB := hB.upd0 hU12
 replace HU := HU.trans0 hU12
 replace hb1 := hb1.upd0 hU12
 refine W_seq (W_seq (W_region ?_))
 refine Was (.int .i64 0) ?_
 refine Wl_nil (W_block ?_)
 refine W_loop (fun mu ρ ds w' => ∃ (k : Nat), bm - k = mu ∧ ds = [] ∧ Liv ρ [(1, .pointer (some ⟨B1, 0, none⟩)), (3, .string (strOfNums (lq p k))), (4, .int .i64 ((k : Nat) : Int))] ∧ k ≤ bm ∧ Upd No w12 w') _ ⟨0, rfl, rfl, ⟨rfl, (Eq.trans (b := .string (strOfNums (l5 p ++ jt (wsz p) ++ jt (wdi p) ++ jt (wck p)))) rfl (vstr (lq_0 p).symm)), (by first | rfl | exact vint (by omega) | exact vint (by simp)), trivial⟩, (by omega), Upd.refl _ _⟩ ?_
 rintro m13 ρ13 ds13 w13 ⟨k, rfl, rfl, hl13, hk, hU13⟩
 obtain ⟨ρ13x, rfl⟩ : ∃ ρx, ρ13 = upds ρx [(1, .pointer (some ⟨B1, 0, none⟩)), (3, .string (strOfNums (lq p k))), (4, .int .i64 ((k : Nat) : Int))] := ⟨_, upds_self hl13⟩
 clear hl13
 have hzw13 := hU13.size
 replace hB := hB.upd0 hU13
 replace HU := HU.trans0 hU13
 replace hb1 := hb1.upd0 hU13
 have hlq := lq_len hok k
 have hkb := ok_gd hok k
 have hk1 := dig_len hkb.2.1
 have hk2 := dig_len hkb.2.2
 have hwl := wrd_len (p.bl.getD k (0, 0, 0, 0, false)).2.1
 have hbn := hok.bn
 have HL13 := hU13
 refine W_seq (W_seq (W_region ?_))
 refine Wmv (.int .i64 ((k : Nat) : Int)) ?_
 refine Wl_v (r_fld underlying48 rfl sizeOf46 rfl rfl) ?_
 refine Wl_load (v := .slice ba bm bc) isAgg46 rfl hb1 rfl ?_
 refine Wl_v (r_len underlying46 rfl) ?_
 refine Wl_v (r_lt rfl rfl) ?_
 refine Wl_nil ?_
 by_cases q5 : ((k : Nat) : Int) < ((bm : Nat) : Int)
 ·rw [decide_eq_true q5]
  refine W_cond_t rfl ?_
  refine W_skip (W_seq (W_block (W_seq (W_region ?_))))
  refine Wl_v (r_fld underlying48 rfl sizeOf46 rfl rfl) ?_
  refine Wl_load (v := .slice ba bm bc) isAgg46 rfl hb1 rfl ?_
  refine Wmv (.int .i64 ((k : Nat) : Int)) ?_
  refine Wl_idxr (0, 0, 0, 0, false) encK_len (by decide) underlying46 sizeOf53 rfl rfl hB (by omega) (by omega) ?_
  intro ib14 io14 hc14
  try rw [Int.toNat_natCast] at hc14
  refine Wl_v (r_loada (cs := [.int .i64 ((p.bl.getD k (0, 0, 0, 0, false)).1), .int .i64 ((p.bl.getD k (0, 0, 0, 0, false)).2.1), .int .i64 ((p.bl.getD k (0, 0, 0, 0, false)).2.2.1), .int .i64 ((p.bl.getD k (0, 0, 0, 0, false)).2.2.2.1), .bool (decide ((p.bl.getD k (0, 0, 0, 0, false)).2.2.2.2 = true))]) isAgg53 sizeOf53 rfl rfl hc14) ?_
  refine Wl_alloc (cs := [.int .i64 0, .int .i64 0, .int .i64 0, .int .i64 0, .bool false]) zeroValue53 rfl ?_
  intro B15 w15 hB15 hU15 hzz15 hb15
  have hzw15 := hU15.size
  replace HL13 := HL13.trans0 hU15
  refine Wl_storea (off := 0) (vs := [.int .i64 ((p.bl.getD k (0, 0, 0, 0, false)).1), .int .i64 ((p.bl.getD k (0, 0, 0, 0, false)).2.1), .int .i64 ((p.bl.getD k (0, 0, 0, 0, false)).2.2.1), .int .i64 ((p.bl.getD k (0, 0, 0, 0, false)).2.2.2.1), .bool (decide ((p.bl.getD k (0, 0, 0, 0, false)).2.2.2.2 = true))]) (cs' := [.int .i64 ((p.bl.getD k (0, 0, 0, 0, false)).1), .int .i64 ((p.bl.getD k (0, 0, 0, 0, false)).2.1), .int .i64 ((p.bl.getD k (0, 0, 0, 0, false)).2.2.1), .int .i64 ((p.bl.getD k (0, 0, 0, 0, false)).2.2.2.1), .bool (decide ((p.bl.getD k (0, 0, 0, 0, false)).2.2.2.2 = true))]) sizeOf53 rfl rfl rfl (by simp only [List.mem_cons, List.not_mem_nil, or_false, forall_eq_or_imp, forall_eq]; exact ⟨rfl, rfl, rfl, rfl, rfl⟩) hb15 (by simp) rfl ?_
  intro w16 hU16 hzz16 hb15n
  replace hb15 := hb15n; clear hb15n
  have hzw16 := hU16.size
  replace HL13 := HL13.trans1 hU16 (by show (False) ∨ w12.heap.size ≤ B15; omega)
  refine Wl_nil (W_seq (W_region ?_))
  refine Was (.string (strOfNums [110, 111, 110, 101])) ?_
  refine Wl_nil (W_seq (W_seq (W_region ?_)))
  refine Wl_v (r_fld underlying53 rfl sizeOf3 rfl rfl) ?_
  refine Wl_load (v := .int .i64 ((p.bl.getD k (0, 0, 0, 0, false)).2.1)) isAgg3 rfl hb15 rfl ?_
  refine Wl_v (r_ge rfl rfl) ?_
  refine Wmv (.bool (decide (0 ≤ ((p.bl.getD k (0, 0, 0, 0, false)).2.1)))) ?_
  by_cases q6 : 0 ≤ ((p.bl.getD k (0, 0, 0, 0, false)).2.1)
  ·rw [decide_eq_true q6]
   refine Wl_guard_t rfl ?_
   refine Wl_v (r_fld underlying53 rfl sizeOf3 rfl rfl) ?_
   refine Wl_guard_t rfl ?_
   refine Wl_load (v := .int .i64 ((p.bl.getD k (0, 0, 0, 0, false)).2.1)) isAgg3 rfl hb15 rfl ?_
   refine Wl_guard_t rfl ?_
   refine Wl_v (r_lt rfl rfl) ?_
   refine Wl_v (r_pick_t (v := .bool (decide (((p.bl.getD k (0, 0, 0, 0, false)).2.1) < 3))) rfl rfl) ?_
   refine Wl_nil ?_
   by_cases q7 : ((p.bl.getD k (0, 0, 0, 0, false)).2.1) < 3
   ·rw [decide_eq_true q7]
    refine W_cond_t rfl ?_
    refine W_region ?_
    refine Wl_lit (pv := [(0, .string (strOfNums [114, 97, 119])), (1, .string (strOfNums [114, 117, 110])), (2, .string (strOfNums [99, 111, 100, 101, 100]))]) (cs := [.string (strOfNums [114, 97, 119]), .string (strOfNums [114, 117, 110]), .string (strOfNums [99, 111, 100, 101, 100])]) underlying86 sizeOf9 zeroValue9 (by decide) (by decide) (by simp only [List.map_toArray, List.map_cons, List.map_nil] <;> rfl) (by kernel_rfl) rfl (by decide) ?_
    intro B17 w17 hB17 hU17 hzz17 hs17
    have hzw17 := hU17.size
    replace HL13 := HL13.trans0 hU17
    replace hb15 := hb15.upd0 hU17
    replace hs17 : Own w17 (Is B17) 9 1 (.slice (some ⟨B17, 0, none⟩) 3 3) 3 (rows encS [([114, 97, 119]), ([114, 117, 110]), ([99, 111, 100, 101, 100])]) := hs17
    refine Wl_v (r_fld underlying53 rfl sizeOf3 rfl rfl) ?_
    refine Wl_load (v := .int .i64 ((p.bl.getD k (0, 0, 0, 0, false)).2.1)) isAgg3 rfl hb15 rfl ?_
    refine Wl_idxr [] encS_len (by decide) underlying86 sizeOf9 rfl rfl hs17.sl (by omega) (by omega) ?_
    intro ib18 io18 hc18
    rw [show [([114, 97, 119]), ([114, 117, 110]), ([99, 111, 100, 101, 100])].getD ((p.bl.getD k (0, 0, 0, 0, false)).2.1).toNat [] = wrd (p.bl.getD k (0, 0, 0, 0, false)).2.1 from wrd_gd (by omega) (by omega)] at hc18
    refine Wl_loadc (v := .string (strOfNums (wrd (p.bl.getD k (0, 0, 0, 0, false)).2.1))) isAgg9 rfl (hc18 0 (by decide)) ?_
    refine Was (.string (strOfNums (wrd (p.bl.getD k (0, 0, 0, 0, false)).2.1))) ?_
    refine Wl_nil (W_seq (W_region ?_))
    refine Wmv (.string (strOfNums (lq p k))) ?_
    refine Wl_v (r_addstr (a := lq p k) (b := [32]) rfl rfl (by simp only [List.length_append, List.length_cons, List.length_nil]; omega)) ?_
    refine Wmv (.string (strOfNums (wrd (p.bl.getD k (0, 0, 0, 0, false)).2.1))) ?_
    refine Wl_v (r_addstr (a := (lq p k) ++ [32]) (b := wrd (p.bl.getD k (0, 0, 0, 0, false)).2.1) rfl rfl (by simp only [List.length_append, List.length_cons, List.length_nil]; omega)) ?_
    refine Wl_v (r_addstr (a := (lq p k) ++ [32] ++ (wrd (p.bl.getD k (0, 0, 0, 0, false)).2.1)) (b := [32]) rfl rfl (by simp only [List.length_append, List.length_cons, List.length_nil]; omega)) ?_
    refine Wl_v (r_fld underlying53 rfl sizeOf3 rfl rfl) ?_
    refine Wl_load (v := .int .i64 ((p.bl.getD k (0, 0, 0, 0, false)).2.2.1)) isAgg3 rfl hb15 rfl ?_
    refine Wl_call (r_call1 rfl call34 rfl) (digits_spec _ (show rg ((p.bl.getD k (0, 0, 0, 0, false)).2.2.1) from hkb.2.1)) ?_
    rintro v w19 ⟨rfl, hU19⟩
    have hzw19 := hU19.size
    replace HL13 := HL13.trans0 hU19
    replace hb15 := hb15.upd0 hU19
    refine Wl_v (r_addstr (a := (lq p k) ++ [32] ++ (wrd (p.bl.getD k (0, 0, 0, 0, false)).2.1) ++ [32]) (b := dig ((p.bl.getD k (0, 0, 0, 0, false)).2.2.1)) rfl rfl (by simp only [List.length_append, List.length_cons, List.length_nil]; omega)) ?_
    refine Was (.string (strOfNums ((lq p k) ++ [32] ++ (wrd (p.bl.getD k (0, 0, 0, 0, false)).2.1) ++ [32] ++ (dig ((p.bl.getD k (0, 0, 0, 0, false)).2.2.1))))) ?_
    refine Wl_nil (W_seq (W_region ?_))
    refine Wl_v (r_fld underlying53 rfl sizeOf3 rfl rfl) ?_
    refine Wl_load (v := .int .i64 ((p.bl.getD k (0, 0, 0, 0, false)).2.2.2.1)) isAgg3 rfl hb15 rfl ?_
    refine Wl_v (r_fld underlying53 rfl sizeOf3 rfl rfl) ?_
    refine Wl_load (v := .int .i64 ((p.bl.getD k (0, 0, 0, 0, false)).2.2.1)) isAgg3 rfl hb15 rfl ?_
    refine Wl_v (r_ne rfl rfl) ?_
    refine Wmv (.bool (decide (((p.bl.getD k (0, 0, 0, 0, false)).2.2.2.1) ≠ ((p.bl.getD k (0, 0, 0, 0, false)).2.2.1)))) ?_
    by_cases q8 : ((p.bl.getD k (0, 0, 0, 0, false)).2.2.2.1) ≠ ((p.bl.getD k (0, 0, 0, 0, false)).2.2.1)
    ·rw [decide_eq_true q8]
     refine Wl_guard_t rfl ?_
     refine Wmv (.string (strOfNums (wrd (p.bl.getD k (0, 0, 0, 0, false)).2.1))) ?_
     refine Wl_guard_t rfl ?_
     refine Wl_v (r_nestr (show Byt (wrd (p.bl.getD k (0, 0, 0, 0, false)).2.1) from (wrd_byt _)) (show Byt [110, 111, 110, 101] from (by intro x hx; simp at hx; omega)) rfl rfl) ?_
     refine Wl_v (r_pick_t (v := .bool (!decide ((wrd (p.bl.getD k (0, 0, 0, 0, false)).2.1) = [110, 111, 110, 101]))) rfl rfl) ?_
     refine Wl_nil ?_
     have q9 : ¬ ((wrd (p.bl.getD k (0, 0, 0, 0, false)).2.1) = [110, 111, 110, 101]) := (wrd_none _)
     rw [decide_eq_false q9]
     simp only [Bool.not_true, Bool.not_false]
     refine W_cond_t rfl ?_
     refine W_region ?_
     refine Wmv (.string (strOfNums ((lq p k) ++ [32] ++ (wrd (p.bl.getD k (0, 0, 0, 0, false)).2.1) ++ [32] ++ (dig ((p.bl.getD k (0, 0, 0, 0, false)).2.2.1))))) ?_
     refine Wl_v (r_addstr (a := (lq p k) ++ [32] ++ (wrd (p.bl.getD k (0, 0, 0, 0, false)).2.1) ++ [32] ++ (dig ((p.bl.getD k (0, 0, 0, 0, false)).2.2.1))) (b := [47]) rfl rfl (by simp only [List.length_append, List.length_cons, List.length_nil]; omega)) ?_
     refine Wl_v (r_fld underlying53 rfl sizeOf3 rfl rfl) ?_
     refine Wl_load (v := .int .i64 ((p.bl.getD k (0, 0, 0, 0, false)).2.2.2.1)) isAgg3 rfl hb15 rfl ?_
     refine Wl_call (r_call1 rfl call34 rfl) (digits_spec _ (show rg ((p.bl.getD k (0, 0, 0, 0, false)).2.2.2.1) from hkb.2.2)) ?_
     rintro v w20 ⟨rfl, hU20⟩
     have hzw20 := hU20.size
     replace HL13 := HL13.trans0 hU20
     refine Wl_v (r_addstr (a := (lq p k) ++ [32] ++ (wrd (p.bl.getD k (0, 0, 0, 0, false)).2.1) ++ [32] ++ (dig ((p.bl.getD k (0, 0, 0, 0, false)).2.2.1)) ++ [47]) (b := dig ((p.bl.getD k (0, 0, 0, 0, false)).2.2.2.1)) rfl rfl (by simp only [List.length_append, List.length_cons, List.length_nil]; omega)) ?_
     refine Was (.string (strOfNums ((lq p k) ++ [32] ++ (wrd (p.bl.getD k (0, 0, 0, 0, false)).2.1) ++ [32] ++ (dig ((p.bl.getD k (0, 0, 0, 0, false)).2.2.1)) ++ [47] ++ (dig ((p.bl.getD k (0, 0, 0, 0, false)).2.2.2.1))))) ?_
     refine Wl_nil (W_region ?_)
     refine Wmv (.int .i64 ((k : Nat) : Int)) ?_
     refine Wl_v (r_add rfl rfl (wi64 (by omega) (by omega))) ?_
     refine Was (.int .i64 (((k : Nat) : Int) + 1)) ?_
     refine Wl_nil ?_
     refine ⟨_, ?_, (k + 1), rfl, rfl, ⟨rfl, (Eq.trans (b := .string (strOfNums ((lq p k) ++ [32] ++ (wrd (p.bl.getD k (0, 0, 0, 0, false)).2.1) ++ [32] ++ (dig ((p.bl.getD k (0, 0, 0, 0, false)).2.2.1)) ++ [47] ++ (dig ((p.bl.getD k (0, 0, 0, 0, false)).2.2.2.1))))) rfl (vstr (by rw [lq_snoc (by omega), btx_other (by omega) (by omega) q8]; simp only [List.append_assoc, List.cons_append, List.nil_append]))), (by first | rfl | exact vint (by omega) | exact vint (by simp)), trivial⟩, (by omega), HL13⟩
     omega
    rw [decide_eq_false q8]
    refine Wl_guard_f rfl (Wl_guard_f rfl ?_)
    refine Wl_v (r_pick_f (v := .bool false) rfl rfl) ?_
    refine Wl_nil ?_
    refine W_cond_f rfl ?_
    refine W_skip (W_region ?_)
    refine Wmv (.int .i64 ((k : Nat) : Int)) ?_
    refine Wl_v (r_add rfl rfl (wi64 (by omega) (by omega))) ?_
    refine Was (.int .i64 (((k : Nat) : Int) + 1)) ?_
    refine Wl_nil ?_
    refine ⟨_, ?_, (k + 1), rfl, rfl, ⟨rfl, (Eq.trans (b := .string (strOfNums ((lq p k) ++ [32] ++ (wrd (p.bl.getD k (0, 0, 0, 0, false)).2.1) ++ [32] ++ (dig ((p.bl.getD k (0, 0, 0, 0, false)).2.2.1))))) rfl (vstr (by rw [lq_snoc (by omega), btx_same (by omega) (by omega) (Classical.not_not.1 q8)]; simp only [List.append_assoc, List.cons_append, List.nil_append]))), (by first | rfl | exact vint (by omega) | exact vint (by simp)), trivial⟩, (by omega), HL13⟩
    omega
   rw [decide_eq_false q7]
   refine W_cond_f rfl ?_
   refine W_skip (W_seq (W_region ?_))
   refine Wmv (.string (strOfNums (lq p k))) ?_
   refine Wl_v (r_addstr (a := lq p k) (b := [32]) rfl rfl (by simp only [List.length_append, List.length_cons, List.length_nil]; omega)) ?_
   refine Wmv (.string (strOfNums [110, 111, 110, 101])) ?_
   refine Wl_v (r_addstr (a := (lq p k) ++ [32]) (b := [110, 111, 110, 101]) rfl rfl (by simp only [List.length_append, List.length_cons, List.length_nil]; omega)) ?_
   refine Wl_v (r_addstr (a := (lq p k) ++ [32] ++ [110, 111, 110, 101]) (b := [32]) rfl rfl (by simp only [List.length_append, List.length_cons, List.length_nil]; omega)) ?_
   refine Wl_v (r_fld underlying53 rfl sizeOf3 rfl rfl) ?_
   refine Wl_load (v := .int .i64 ((p.bl.getD k (0, 0, 0, 0, false)).2.2.1)) isAgg3 rfl hb15 rfl ?_
   refine Wl_call (r_call1 rfl call34 rfl) (digits_spec _ (show rg ((p.bl.getD k (0, 0, 0, 0, false)).2.2.1) from hkb.2.1)) ?_
   rintro v w21 ⟨rfl, hU21⟩
   have hzw21 := hU21.size
   replace HL13 := HL13.trans0 hU21
   replace hb15 := hb15.upd0 hU21
   refine Wl_v (r_addstr (a := (lq p k) ++ [32] ++ [110, 111, 110, 101] ++ [32]) (b := dig ((p.bl.getD k (0, 0, 0, 0, false)).2.2.1)) rfl rfl (by simp only [List.length_append, List.length_cons, List.length_nil]; omega)) ?_
   refine Was (.string (strOfNums ((lq p k) ++ [32] ++ [110, 111, 110, 101] ++ [32] ++ (dig ((p.bl.getD k (0, 0, 0, 0, false)).2.2.1))))) ?_
   refine Wl_nil (W_seq (W_region ?_))
   refine Wl_v (r_fld underlying53 rfl sizeOf3 rfl rfl) ?_
   refine Wl_load (v := .int .i64 ((p.bl.getD k (0, 0, 0, 0, false)).2.2.2.1)) isAgg3 rfl hb15 rfl ?_
   refine Wl_v (r_fld underlying53 rfl sizeOf3 rfl rfl) ?_
   refine Wl_load (v := .int .i64 ((p.bl.getD k (0, 0, 0, 0, false)).2.2.1)) isAgg3 rfl hb15 rfl ?_
   refine Wl_v (r_ne rfl rfl) ?_
   refine Wmv (.bool (decide (((p.bl.getD k (0, 0, 0, 0, false)).2.2.2.1) ≠ ((p.bl.getD k (0, 0, 0, 0, false)).2.2.1)))) ?_
   by_cases q10 : ((p.bl.getD k (0, 0, 0, 0, false)).2.2.2.1) ≠ ((p.bl.getD k (0, 0, 0, 0, false)).2.2.1)
   ·rw [decide_eq_true q10]
    refine Wl_guard_t rfl ?_
    refine Wmv (.string (strOfNums [110, 111, 110, 101])) ?_
    refine Wl_guard_t rfl ?_
    refine Wl_v (r_nestr (show Byt [110, 111, 110, 101] from (by intro x hx; simp at hx; omega)) (show Byt [110, 111, 110, 101] from (by intro x hx; simp at hx; omega)) rfl rfl) ?_
    refine Wl_v (r_pick_t (v := .bool (!decide (([110, 111, 110, 101] : List Int) = [110, 111, 110, 101]))) rfl rfl) ?_
    refine Wl_nil ?_
    have q11 : ([110, 111, 110, 101] : List Int) = [110, 111, 110, 101] := rfl
    rw [decide_eq_true q11]
    simp only [Bool.not_true, Bool.not_false]
    refine W_cond_f rfl ?_
    refine W_skip (W_region ?_)
    refine Wmv (.int .i64 ((k : Nat) : Int)) ?_
    refine Wl_v (r_add rfl rfl (wi64 (by omega) (by omega))) ?_
    refine Was (.int .i64 (((k : Nat) : Int) + 1)) ?_
    refine Wl_nil ?_
    refine ⟨_, ?_, (k + 1), rfl, rfl, ⟨rfl, (Eq.trans (b := .string (strOfNums ((lq p k) ++ [32] ++ [110, 111, 110, 101] ++ [32] ++ (dig ((p.bl.getD k (0, 0, 0, 0, false)).2.2.1))))) rfl (vstr (by rw [lq_snoc (by omega), btx_none (by omega)]; simp only [List.append_assoc, List.cons_append, List.nil_append]))), (by first | rfl | exact vint (by omega) | exact vint (by simp)), trivial⟩, (by omega), HL13⟩
    omega
   rw [decide_eq_false q10]
   refine Wl_guard_f rfl (Wl_guard_f rfl ?_)
   refine Wl_v (r_pick_f (v := .bool false) rfl rfl) ?_
   refine Wl_nil ?_
   refine W_cond_f rfl ?_
   refine W_skip (W_region ?_)
   refine Wmv (.int .i64 ((k : Nat) : Int)) ?_
   refine Wl_v (r_add rfl rfl (wi64 (by omega) (by omega))) ?_
   refine Was (.int .i64 (((k : Nat) : Int) + 1)) ?_
   refine Wl_nil ?_
   refine ⟨_, ?_, (k + 1), rfl, rfl, ⟨rfl, (Eq.trans (b := .string (strOfNums ((lq p k) ++ [32] ++ [110, 111, 110, 101] ++ [32] ++ (dig ((p.bl.getD k (0, 0, 0, 0, false)).2.2.1))))) rfl (vstr (by rw [lq_snoc (by omega), btx_none (by omega)]; simp only [List.append_assoc, List.cons_append, List.nil_append]))), (by first | rfl | exact vint (by omega) | exact vint (by simp)), trivial⟩, (by omega), HL13⟩
   omega
  rw [decide_eq_false q6]
  refine Wl_guard_f rfl (Wl_guard_f rfl (Wl_guard_f rfl ?_))
  refine Wl_v (r_pick_f (v := .bool false) rfl rfl) ?_
  refine Wl_nil ?_
  refine W_cond_f rfl ?_
  refine W_skip (W_seq (W_region ?_))
  refine Wmv (.string (strOfNums (lq p k))) ?_
  refine Wl_v (r_addstr (a := lq p k) (b := [32]) rfl rfl (by simp only [List.length_append, List.length_cons, List.length_nil]; omega)) ?_
  refine Wmv (.string (strOfNums [110, 111, 110, 101])) ?_
  refine Wl_v (r_addstr (a := (lq p k) ++ [32]) (b := [110, 111, 110, 101]) rfl rfl (by simp only [List.length_append, List.length_cons, List.length_nil]; omega)) ?_
  refine Wl_v (r_addstr (a := (lq p k) ++ [32] ++ [110, 111, 110, 101]) (b := [32]) rfl rfl (by simp only [List.length_append, List.length_cons, List.length_nil]; omega)) ?_
  refine Wl_v (r_fld underlying53 rfl sizeOf3 rfl rfl) ?_
  refine Wl_load (v := .int .i64 ((p.bl.getD k (0, 0, 0, 0, false)).2.2.1)) isAgg3 rfl hb15 rfl ?_
  refine Wl_call (r_call1 rfl call34 rfl) (digits_spec _ (show rg ((p.bl.getD k (0, 0, 0, 0, false)).2.2.1) from hkb.2.1)) ?_
  rintro v w22 ⟨rfl, hU22⟩
  have hzw22 := hU22.size
  replace HL13 := HL13.trans0 hU22
  replace hb15 := hb15.upd0 hU22
  refine Wl_v (r_addstr (a := (lq p k) ++ [32] ++ [110, 111, 110, 101] ++ [32]) (b := dig ((p.bl.getD k (0, 0, 0, 0, false)).2.2.1)) rfl rfl (by simp only [List.length_append, List.length_cons, List.length_nil]; omega)) ?_
  refine Was (.string (strOfNums ((lq p k) ++ [32] ++ [110, 111, 110, 101] ++ [32] ++ (dig ((p.bl.getD k (0, 0, 0, 0, false)).2.2.1))))) ?_
  refine Wl_nil (W_seq (W_region ?_))
  refine Wl_v (r_fld underlying53 rfl sizeOf3 rfl rfl) ?_
  refine Wl_load (v := .int .i64 ((p.bl.getD k (0, 0, 0, 0, false)).2.2.2.1)) isAgg3 rfl hb15 rfl ?_
  refine Wl_v (r_fld underlying53 rfl sizeOf3 rfl rfl) ?_
  refine Wl_load (v := .int .i64 ((p.bl.getD k (0, 0, 0, 0, false)).2.2.1)) isAgg3 rfl hb15 rfl ?_
  refine Wl_v (r_ne rfl rfl) ?_
  refine Wmv (.bool (decide (((p.bl.getD k (0, 0, 0, 0, false)).2.2.2.1) ≠ ((p.bl.getD k (0, 0, 0, 0, false)).2.2.1)))) ?_
  by_cases q12 : ((p.bl.getD k (0, 0, 0, 0, false)).2.2.2.1) ≠ ((p.bl.getD k (0, 0, 0, 0, false)).2.2.1)
  ·rw [decide_eq_true q12]
   refine Wl_guard_t rfl ?_
   refine Wmv (.string (strOfNums [110, 111, 110, 101])) ?_
   refine Wl_guard_t rfl ?_
   refine Wl_v (r_nestr (show Byt [110, 111, 110, 101] from (by intro x hx; simp at hx; omega)) (show Byt [110, 111, 110, 101] from (by intro x hx; simp at hx; omega)) rfl rfl) ?_
   refine Wl_v (r_pick_t (v := .bool (!decide (([110, 111, 110, 101] : List Int) = [110, 111, 110, 101]))) rfl rfl) ?_
   refine Wl_nil ?_
   have q13 : ([110, 111, 110, 101] : List Int) = [110, 111, 110, 101] := rfl
   rw [decide_eq_true q13]
   simp only [Bool.not_true, Bool.not_false]
   refine W_cond_f rfl ?_
   refine W_skip (W_region ?_)
   refine Wmv (.int .i64 ((k : Nat) : Int)) ?_
   refine Wl_v (r_add rfl rfl (wi64 (by omega) (by omega))) ?_
   refine Was (.int .i64 (((k : Nat) : Int) + 1)) ?_
   refine Wl_nil ?_
   refine ⟨_, ?_, (k + 1), rfl, rfl, ⟨rfl, (Eq.trans (b := .string (strOfNums ((lq p k) ++ [32] ++ [110, 111, 110, 101] ++ [32] ++ (dig ((p.bl.getD k (0, 0, 0, 0, false)).2.2.1))))) rfl (vstr (by rw [lq_snoc (by omega), btx_none (by omega)]; simp only [List.append_assoc, List.cons_append, List.nil_append]))), (by first | rfl | exact vint (by omega) | exact vint (by simp)), trivial⟩, (by omega), HL13⟩
   omega
  rw [decide_eq_false q12]
  refine Wl_guard_f rfl (Wl_guard_f rfl ?_)
  refine Wl_v (r_pick_f (v := .bool false) rfl rfl) ?_
  refine Wl_nil ?_
  refine W_cond_f rfl ?_
  refine W_skip (W_region ?_)
  refine Wmv (.int .i64 ((k : Nat) : Int)) ?_
  refine Wl_v (r_add rfl rfl (wi64 (by omega) (by omega))) ?_
  refine Was (.int .i64 (((k : Nat) : Int) + 1)) ?_
  refine Wl_nil ?_
  refine ⟨_, ?_, (k + 1), rfl, rfl, ⟨rfl, (Eq.trans (b := .string (strOfNums ((lq p k) ++ [32] ++ [110, 111, 110, 101] ++ [32] ++ (dig ((p.bl.getD k (0, 0, 0, 0, false)).2.2.1))))) rfl (vstr (by rw [lq_snoc (by omega), btx_none (by omega)]; simp only [List.append_assoc, List.cons_append, List.nil_append]))), (by first | rfl | exact vint (by omega) | exact vint (by simp)), trivial⟩, (by omega), HL13⟩
  omega
 rw [decide_eq_false q5]
 refine W_cond_f rfl ?_
 refine W_exit ?_
 refine W_seq (W_region ?_)
 refine Wmv (.string (strOfNums (lq p k))) ?_
 refine Was (.string (strOfNums (lq p k))) ?_
 refine Wl_nil ?_
 refine W_ret ?_
 refine ret_end (v := .string (strOfNums (lq p k))) rfl (res1 results18 rfl) ?_
 exact ⟨_, rfl, (vstr (lq_lin q1 (by omega))), HU⟩
set_option maxHeartbeats 2000000 in
theorem rtext_spec {a : Option Addr} {n c lo hi : Nat} {bs : List Int} (w : World) (hT : Pts w lo hi a n c ((ga bs 0).1)) (hh : hi ≤ w.heap.size) (hb : Byt bs) (hm : bs.length ≤ 100000) :
  Calls Tryd.prog 16 #[.slice a n c] w (Ret fun v w' => v = .string (strOfNums (txt (ga bs 0).1)) ∧ Upd No w w') := by
 have HU := Upd.rno w
 have hn0 := hT.len
 refine calls_of_W func16 rfl ntmps16 (by simp) ?_
 obtain ⟨vs1, hv1, hS1, hP1⟩ := hT
 have hl_hS1 := rlen encP_len (by decide) hS1
 have hc_hS1 := hS1.cap.1
 have hlm1 : (ga bs 0).1.length = n := by rw [← hv1, List.length_map]; exact hl_hS1
 refine W_seq (W_region ?_)
 refine Was (.string (strOfNums [])) ?_
 refine Wl_nil (W_seq (W_region ?_))
 refine Was (.string (strOfNums [])) ?_
 refine Wl_nil (W_seq (W_seq (W_region ?_)))
 refine Was (.int .i64 0) ?_
 refine Wl_nil (W_block ?_)
 refine W_loop (fun mu ρ ds w' => ∃ (k : Nat), n - k = mu ∧ ds = [] ∧ Liv ρ [(0, .slice a n c), (3, .string (strOfNums (txt ((ga bs 0).1.take k)))), (4, .int .i64 ((k : Nat) : Int))] ∧ k ≤ n ∧ Upd No w w') _ ⟨0, rfl, rfl, ⟨rfl, rfl, (by first | rfl | exact vint (by omega) | exact vint (by simp)), trivial⟩, (by omega), Upd.refl _ _⟩ ?_
 rintro m2 ρ2 ds2 w2 ⟨k, rfl, rfl, hl2, hk, hU2⟩
 obtain ⟨ρ2x, rfl⟩ : ∃ ρx, ρ2 = upds ρx [(0, .slice a n c), (3, .string (strOfNums (txt ((ga bs 0).1.take k)))), (4, .int .i64 ((k : Nat) : Int))] := ⟨_, upds_self hl2⟩
 clear hl2
 have hzw2 := hU2.size
 replace HU := HU.trans0 hU2
 replace hS1 := hS1.upd0 hU2
 replace hP1 := hP1.upd0 hU2
 have htx := txt_gal hb (by omega) k
 have hlx := lin_len (ga_okd hb (by omega) k).1
 have hgn := ga_len hb (by omega)
 have HL2 := hU2
 refine W_seq (W_seq (W_region ?_))
 refine Wmv (.int .i64 ((k : Nat) : Int)) ?_
 refine Wmv (.slice a n c) ?_
 refine Wl_v (r_len underlying29 rfl) ?_
 refine Wl_v (r_lt rfl rfl) ?_
 refine Wl_nil ?_
 by_cases q1 : ((k : Nat) : Int) < ((n : Nat) : Int)
 ·rw [decide_eq_true q1]
  refine W_cond_t rfl ?_
  refine W_skip (W_seq (W_block (W_region ?_)))
  refine Wmv (.string (strOfNums (txt ((ga bs 0).1.take k)))) ?_
  refine Wmv (.slice a n c) ?_
  refine Wmv (.int .i64 ((k : Nat) : Int)) ?_
  refine Wl_idxr pv0 encP_len (by decide) underlying29 sizeOf48 rfl rfl hS1 (by omega) (by omega) ?_
  intro ib3 io3 hc3
  try rw [Int.toNat_natCast] at hc3
  obtain ⟨ba4, bm4, bc4, hbe4⟩ := gd_part (i := k) hv1
  rw [hbe4] at hc3
  have hB5 := hPget hP1 hbe4 (by omega)
  have hl_hB5 := rlen encK_len (by decide) hB5
  have hc_hB5 := hB5.cap.1
  refine Wl_v (r_loada (cs := [.int .i64 (((ga bs 0).1.getD k pt0).at_), .int .i64 (((ga bs 0).1.getD k pt0).sz), .bool (decide (((ga bs 0).1.getD k pt0).sk = true)), .int .i64 (((ga bs 0).1.getD k pt0).pl), .int .i64 (((ga bs 0).1.getD k pt0).hd.1), .int .i64 (((ga bs 0).1.getD k pt0).hd.2.1), .int .u32 (((ga bs 0).1.getD k pt0).hd.2.2.1), .bool (decide (((ga bs 0).1.getD k pt0).hd.2.2.2 = true)), .slice ba4 bm4 bc4, .int .u32 (((ga bs 0).1.getD k pt0).ck)]) isAgg48 sizeOf48 rfl rfl hc3) ?_
  refine Wl_call (r_call1 rfl call18 rfl) (rline_spec _ (ga_okd hb (by omega) k).1 hB5.any) ?_
  rintro v w6 ⟨rfl, hU6⟩
  have hzw6 := hU6.size
  replace HL2 := HL2.trans0 hU6
  refine Wl_v (r_addstr (a := txt ((ga bs 0).1.take k)) (b := lin ((ga bs 0).1.getD k pt0)) rfl rfl (by omega)) ?_
  refine Wl_v (r_addstr (a := (txt ((ga bs 0).1.take k)) ++ (lin ((ga bs 0).1.getD k pt0))) (b := [10]) rfl rfl (by simp only [List.length_append, List.length_cons, List.length_nil]; omega)) ?_
  refine Was (.string (strOfNums ((txt ((ga bs 0).1.take k)) ++ (lin ((ga bs 0).1.getD k pt0)) ++ [10]))) ?_
  refine Wl_nil (W_region ?_)
  refine Wmv (.int .i64 ((k : Nat) : Int)) ?_
  refine Wl_v (r_add rfl rfl (wi64 (by omega) (by omega))) ?_
  refine Was (.int .i64 (((k : Nat) : Int) + 1)) ?_
  refine Wl_nil ?_
  refine ⟨_, ?_, (k + 1), rfl, rfl, ⟨rfl, (Eq.trans (b := .string (strOfNums ((txt ((ga bs 0).1.take k)) ++ (lin ((ga bs 0).1.getD k pt0)) ++ [10]))) rfl (vstr (by rw [txt_step (by omega)]; simp only [List.append_assoc, List.cons_append, List.nil_append]))), (by first | rfl | exact vint (by omega) | exact vint (by simp)), trivial⟩, (by omega), HL2⟩
  omega
 rw [decide_eq_false q1]
 refine W_cond_f rfl ?_
 refine W_exit ?_
 refine W_seq (W_region ?_)
 refine Wmv (.string (strOfNums (txt ((ga bs 0).1.take k)))) ?_
 refine Was (.string (strOfNums (txt ((ga bs 0).1.take k)))) ?_
 refine Wl_nil ?_
 refine W_ret ?_
 refine ret_end (v := .string (strOfNums (txt ((ga bs 0).1.take k)))) rfl (res1 results16 rfl) ?_
 exact ⟨_, rfl, (vstr (by rw [show k = (ga bs 0).1.length from by omega, List.take_length])), HU⟩
theorem wstr_spec {B hi : Nat} {l s : List Int} (w : World) (hb : Bld w 78 5 B hi l) (hs : Byt s) (hlen : l.length + s.length ≤ 140737488355328) :
  Calls Tryd.prog 28 #[.pointer (some ⟨B, 0, none⟩), .string (strOfNums s)] w (Ret fun v w' => v = .tuple #[.int .i64 ((s.length : Nat) : Int), .nilIface] ∧ Bld w' 78 5 B w'.heap.size (l ++ s) ∧ Upd (fun g => B ≤ g) w w') := by
 refine (Tryd.Builder_WriteString B B _ (strOfNums s) w hb.here (by rw [strOfNums_size, ints, List.length_map]; exact hlen) (Nat.le_trans hb.1 hb.2.1)).mono ?_
 rintro e w' ⟨rfl, h, hw⟩
 refine ⟨_, rfl, by rw [strOfNums_size], Bld.of (Nat.le_trans (Nat.le_trans hb.1 hb.2.1) hw.size) (byt_app hb.2.2.1 hs) (.inr ?_), upd_of_belowS hw⟩
 rw [Lib.strCells_eq, ints_bytes hs] at h
 rw [show ints .u8 (l ++ s) = ints .u8 l ++ ints .u8 s from by simp [ints]]
 exact h
theorem bstr_spec {B hi : Nat} {l : List Int} (w : World) (hb : Bld w 78 5 B hi l) :
  Calls Tryd.prog 29 #[.pointer (some ⟨B, 0, none⟩)] w (Ret fun v w' => v = .string (strOfNums l) ∧ Upd (fun g => B ≤ g) w w') := by
 refine (Tryd.Builder_String_any B B ((strOfNums l).data.toList) w (by rw [ints_bytes hb.2.2.1]; exact hb.here) (Nat.le_trans hb.1 hb.2.1)).mono ?_
 rintro e w' ⟨rfl, hw⟩
 exact ⟨_, rfl, by rw [ba_nums, strOfNums_nums hb.2.2.1], upd_of_belowS hw⟩
theorem ttext_no {a : Option Addr} {n c : Nat} {bs : List Int} {g0 : Nat} (w : World) (ht : Tab w g0) (hs : Sl w (fun g => g < w.heap.size) 1 (.slice a n c) n (ints .u8 bs)) (hb : Byt bs) (hm : n ≤ 100000) (he : ¬ (ga bs 0).2 = 0) :
  Calls Tryd.prog 15 #[.slice a n c] w (Ret fun v w' => v = .tuple #[.string (strOfNums []), .int .i64 ((ga bs 0).2)] ∧ Upd No w w') := by
 have HU := Upd.rno w
 have hl_hs := ilen hs
 have hc_hs := hs.cap.1
 have htl := ht.1
 refine calls_of_W func15 rfl ntmps15 (by simp) ?_
 refine W_seq (W_region ?_)
 refine Was (.string (strOfNums [])) ?_
 refine Was (.int .i64 0) ?_
 refine Wl_nil (W_seq (W_region ?_))
 refine Wmv (.slice a n c) ?_
 refine Wl_call (r_call1 rfl call19 rfl) (read_no _ hs.any hb (by omega) (by omega)) ?_
 rintro v w1 ⟨rfl, hU1⟩
 have hzw1 := hU1.size
 replace HU := HU.trans0 hU1
 refine Wmv (.tuple #[.slice none 0 0, .int .i64 ((ga bs 0).2)]) ?_
 refine Wl_v (r_ext (v := .slice none 0 0) rfl rfl) ?_
 refine Wl_v (r_ext (v := .int .i64 ((ga bs 0).2)) rfl rfl) ?_
 refine Was (.slice none 0 0) ?_
 refine Was (.int .i64 ((ga bs 0).2)) ?_
 refine Wl_nil (W_seq (W_seq (W_region ?_)))
 refine Wmv (.int .i64 ((ga bs 0).2)) ?_
 refine Wl_v (r_ne rfl rfl) ?_
 refine Wl_nil ?_
 have q1 : ((ga bs 0).2) ≠ 0 := he
 rw [decide_eq_true q1]
 refine W_cond_t rfl ?_
 refine W_seq (W_region ?_)
 refine Wmv (.int .i64 ((ga bs 0).2)) ?_
 refine Was (.string (strOfNums [])) ?_
 refine Was (.int .i64 ((ga bs 0).2)) ?_
 refine Wl_nil ?_
 refine W_ret ?_
 refine ret_end (v := .tuple #[.string (strOfNums []), .int .i64 ((ga bs 0).2)]) rfl (res2 results15 rfl rfl) ?_
 exact ⟨_, rfl, rfl, HU⟩
set_option maxHeartbeats 4000000 in
theorem ttext_ok {a : Option Addr} {n c : Nat} {bs : List Int} {g0 : Nat} (w : World) (ht : Tab w g0) (hs : Sl w (fun g => g < w.heap.size) 1 (.slice a n c) n (ints .u8 bs)) (hb : Byt bs) (hm : n ≤ 100000) (he : (ga bs 0).2 = 0) :
  Calls Tryd.prog 15 #[.slice a n c] w (Ret fun v w' => v = .tuple #[.string (strOfNums (txt (ga bs 0).1)), .int .i64 0] ∧ Upd No w w') := by
 have HU := Upd.rno w
 have hl_hs := ilen hs
 have hc_hs := hs.cap.1
 have htl := ht.1
 refine calls_of_W func15 rfl ntmps15 (by simp) ?_
 refine W_seq (W_region ?_)
 refine Was (.string (strOfNums [])) ?_
 refine Was (.int .i64 0) ?_
 refine Wl_nil (W_seq (W_region ?_))
 refine Wmv (.slice a n c) ?_
 refine Wl_call (r_call1 rfl call19 rfl) (read_ok _ hs.any hb (by omega) (by omega)) ?_
 rintro v w1 ⟨a1, m1, c1, rfl, hT1, hU1⟩
 have hzw1 := hU1.size
 replace ht := ht.upd0 hU1
 replace HU := HU.trans0 hU1
 obtain ⟨vs2, hv2, hS2, hP2⟩ := hT1
 have hl_hS2 := rlen encP_len (by decide) hS2
 have hc_hS2 := hS2.cap.1
 have hlm2 : (ga bs 0).1.length = m1 := by rw [← hv2, List.length_map]; exact hl_hS2
 refine Wmv (.tuple #[.slice a1 m1 c1, .int .i64 0]) ?_
 refine Wl_v (r_ext (v := .slice a1 m1 c1) rfl rfl) ?_
 refine Wl_v (r_ext (v := .int .i64 0) rfl rfl) ?_
 refine Was (.slice a1 m1 c1) ?_
 refine Was (.int .i64 0) ?_
 refine Wl_nil (W_seq (W_seq (W_region ?_)))
 refine Wmv (.int .i64 0) ?_
 refine Wl_v (v := .bool false) (r_ne (a := 0) (b := 0) rfl rfl) ?_
 refine Wl_nil ?_
 refine W_cond_f rfl ?_
 refine W_skip (W_seq (W_region ?_))
 refine Wl_allocT (cs := [.pointer none, .slice none 0 0]) zeroValue78 rfl ?_
 intro B3 w3 hB3 hU3 hzz3 hA3
 have hBd := Bld.fresh (e := 5) hA3
 have hzw3 := hU3.size
 replace ht := ht.upd0 hU3
 replace HU := HU.trans0 hU3
 replace hS2 := hS2.upd0 hU3
 replace hP2 := hP2.upd0 hU3
 refine Wl_nil (W_seq (W_seq (W_region ?_)))
 refine Wmv (.slice a1 m1 c1) ?_
 refine Wl_v (r_len underlying57 rfl) ?_
 refine Wmv (.int .i64 0) ?_
 refine Wl_nil (W_block ?_)
 refine W_loop (fun mu ρ ds w' => ∃ (k : Nat) (hi : Nat), m1 - k = mu ∧ ds = [] ∧ Liv ρ [(6, .pointer (some ⟨B3, 0, none⟩)), (17, .slice a1 m1 c1), (18, .int .i64 ((m1 : Nat) : Int)), (19, .int .i64 ((k : Nat) : Int))] ∧ k ≤ m1 ∧ Bld w' 78 5 B3 hi (txt ((ga bs 0).1.take k)) ∧ Upd (fun g => B3 ≤ g) w3 w') _ ⟨0, w3.heap.size, rfl, rfl, ⟨rfl, rfl, rfl, (by first | rfl | exact vint (by omega) | exact vint (by simp)), trivial⟩, (by omega), (by exact hBd), Upd.refl _ _⟩ ?_
 rintro m4 ρ4 ds4 w4 ⟨k, hi, rfl, rfl, hl4, hk, hBd, hU4⟩
 obtain ⟨ρ4x, rfl⟩ : ∃ ρx, ρ4 = upds ρx [(6, .pointer (some ⟨B3, 0, none⟩)), (17, .slice a1 m1 c1), (18, .int .i64 ((m1 : Nat) : Int)), (19, .int .i64 ((k : Nat) : Int))] := ⟨_, upds_self hl4⟩
 clear hl4
 have hzw4 := hU4.size
 replace ht := ht.upd hU4 (by intro x hx; have hx2 : B3 ≤ x := hx; omega)
 replace HU := HU.trans hU4 (by intro x hx; have hx2 : B3 ≤ x := hx; show (False) ∨ w.heap.size ≤ x; omega)
 replace hS2 := hS2.upd hU4 (by intro x h1 h2; have h3 : (w.heap.size ≤ x ∧ x < w1.heap.size) := h1; have h4 : B3 ≤ x := h2; omega)
 replace hP2 := hP2.upd hU4 (by intro x hx; have hx2 : B3 ≤ x := hx; omega)
 have htx := txt_gal hb (by omega) k
 have hlx := lin_len (ga_okd hb (by omega) k).1
 have hly := lin_byt (ga_okd hb (by omega) k).1
 have hgn := ga_len hb (by omega)
 have hbh := hBd.2.1
 have hbl := hBd.1
 have HL4 := hU4
 refine W_seq (W_region ?_)
 refine Wl_v (r_lt rfl rfl) ?_
 refine Wl_nil (W_seq ?_)
 by_cases q1 : ((k : Nat) : Int) < ((m1 : Nat) : Int)
 ·rw [decide_eq_true q1]
  refine W_cond_t rfl ?_
  refine W_skip (W_seq (W_block (W_seq (W_region ?_))))
  refine Wl_idxr pv0 encP_len (by decide) underlying57 sizeOf45 rfl rfl hS2 (by omega) (by omega) ?_
  intro ib5 io5 hc5
  try rw [Int.toNat_natCast] at hc5
  obtain ⟨ba6, bm6, bc6, hbe6⟩ := gd_part (i := k) hv2
  rw [hbe6] at hc5
  have hB7 := hPget hP2 hbe6 (by omega)
  have hl_hB7 := rlen encK_len (by decide) hB7
  have hc_hB7 := hB7.cap.1
  refine Wl_v (r_loada (cs := [.int .i64 (((ga bs 0).1.getD k pt0).at_), .int .i64 (((ga bs 0).1.getD k pt0).sz), .bool (decide (((ga bs 0).1.getD k pt0).sk = true)), .int .i64 (((ga bs 0).1.getD k pt0).pl), .int .i64 (((ga bs 0).1.getD k pt0).hd.1), .int .i64 (((ga bs 0).1.getD k pt0).hd.2.1), .int .u32 (((ga bs 0).1.getD k pt0).hd.2.2.1), .bool (decide (((ga bs 0).1.getD k pt0).hd.2.2.2 = true)), .slice ba6 bm6 bc6, .int .u32 (((ga bs 0).1.getD k pt0).ck)]) isAgg45 sizeOf45 rfl rfl hc5) ?_
  refine Wl_alloc (cs := [.int .i64 0, .int .i64 0, .bool false, .int .i64 0, .int .i64 0, .int .i64 0, .int .u32 0, .bool false, .slice none 0 0, .int .u32 0]) zeroValue45 rfl ?_
  intro B8 w8 hB8 hU8 hzz8 hb8
  have hzw8 := hU8.size
  replace ht := ht.upd0 hU8
  replace hBd := hBd.upd0 hU8
  replace HL4 := HL4.trans0 hU8
  replace hB7 := hB7.upd0 hU8
  refine Wl_storea (off := 0) (vs := [.int .i64 (((ga bs 0).1.getD k pt0).at_), .int .i64 (((ga bs 0).1.getD k pt0).sz), .bool (decide (((ga bs 0).1.getD k pt0).sk = true)), .int .i64 (((ga bs 0).1.getD k pt0).pl), .int .i64 (((ga bs 0).1.getD k pt0).hd.1), .int .i64 (((ga bs 0).1.getD k pt0).hd.2.1), .int .u32 (((ga bs 0).1.getD k pt0).hd.2.2.1), .bool (decide (((ga bs 0).1.getD k pt0).hd.2.2.2 = true)), .slice ba6 bm6 bc6, .int .u32 (((ga bs 0).1.getD k pt0).ck)]) (cs' := [.int .i64 (((ga bs 0).1.getD k pt0).at_), .int .i64 (((ga bs 0).1.getD k pt0).sz), .bool (decide (((ga bs 0).1.getD k pt0).sk = true)), .int .i64 (((ga bs 0).1.getD k pt0).pl), .int .i64 (((ga bs 0).1.getD k pt0).hd.1), .int .i64 (((ga bs 0).1.getD k pt0).hd.2.1), .int .u32 (((ga bs 0).1.getD k pt0).hd.2.2.1), .bool (decide (((ga bs 0).1.getD k pt0).hd.2.2.2 = true)), .slice ba6 bm6 bc6, .int .u32 (((ga bs 0).1.getD k pt0).ck)]) sizeOf45 rfl rfl rfl (by simp only [List.mem_cons, List.not_mem_nil, or_false, forall_eq_or_imp, forall_eq]; exact ⟨rfl, rfl, rfl, rfl, rfl, rfl, rfl, rfl, rfl, rfl⟩) hb8 (by simp) rfl ?_
  intro w9 hU9 hzz9 hb8n
  replace hb8 := hb8n; clear hb8n
  have hzw9 := hU9.size
  replace ht := ht.upd1 hU9 (by omega)
  replace hBd := hBd.upd1 hU9 (by omega)
  replace HL4 := HL4.trans1 hU9 (by show (B3 ≤ B8) ∨ w3.heap.size ≤ B8; omega)
  replace hB7 := hB7.upd1 hU9 (show ¬ ((w.heap.size ≤ B8 ∧ B8 < w1.heap.size ∧ B8 ≠ w1.heap.size)) by omega)
  refine Wl_nil (W_region ?_)
  refine Wl_v (r_loada (b := B8) (off := 0) (cs := [.int .i64 (((ga bs 0).1.getD k pt0).at_), .int .i64 (((ga bs 0).1.getD k pt0).sz), .bool (decide (((ga bs 0).1.getD k pt0).sk = true)), .int .i64 (((ga bs 0).1.getD k pt0).pl), .int .i64 (((ga bs 0).1.getD k pt0).hd.1), .int .i64 (((ga bs 0).1.getD k pt0).hd.2.1), .int .u32 (((ga bs 0).1.getD k pt0).hd.2.2.1), .bool (decide (((ga bs 0).1.getD k pt0).hd.2.2.2 = true)), .slice ba6 bm6 bc6, .int .u32 (((ga bs 0).1.getD k pt0).ck)]) isAgg45 sizeOf45 rfl rfl (fun j hj => by rw [hb8.cell]; match j, hj with | 0, _ => rfl | 1, _ => rfl | 2, _ => rfl | 3, _ => rfl | 4, _ => rfl | 5, _ => rfl | 6, _ => rfl | 7, _ => rfl | 8, _ => rfl | 9, _ => rfl)) ?_
  refine Wl_call (r_call1 rfl call17 rfl) (line_spec _ ht (ga_okd hb (by omega) k).1 hB7.any) ?_
  rintro v w10 ⟨rfl, hU10⟩
  have hzw10 := hU10.size
  replace hBd := hBd.upd0 hU10
  replace HL4 := HL4.trans0 hU10
  refine Wl_v (r_addstr (a := lin ((ga bs 0).1.getD k pt0)) (b := [10]) rfl rfl (by simp only [List.length_append, List.length_cons, List.length_nil]; omega)) ?_
  refine Wl_call (r_call2 rfl call28 rfl rfl) (wstr_spec _ hBd (byt_app hly (byt_lit (by decide))) (by simp only [List.length_append, List.length_cons, List.length_nil]; omega)) ?_
  rintro v w11 ⟨rfl, hb11, hU11⟩
  have hzw11 := hU11.size
  replace HL4 := HL4.trans hU11 (by intro x hx; have hx2 : B3 ≤ x := hx; show (B3 ≤ x) ∨ w3.heap.size ≤ x; omega)
  refine Wl_nil (W_region ?_)
  refine Wl_v (r_add rfl rfl (wi64 (by omega) (by omega))) ?_
  refine Wmv (.int .i64 (((k : Nat) : Int) + 1)) ?_
  refine Wl_nil ?_
  refine ⟨_, ?_, (k + 1), w11.heap.size, rfl, rfl, ⟨rfl, rfl, rfl, (by first | rfl | exact vint (by omega) | exact vint (by simp)), trivial⟩, (by omega), (by rw [txt_step (by omega)]; exact hb11), HL4⟩
  omega
 rw [decide_eq_false q1]
 refine W_cond_f rfl ?_
 refine W_exit ?_
 refine W_seq (W_region ?_)
 refine Wl_call (r_call1 rfl call29 rfl) (bstr_spec _ hBd) ?_
 rintro v w12 ⟨rfl, hU12⟩
 have hzw12 := hU12.size
 replace HU := HU.trans hU12 (by intro x hx; have hx2 : B3 ≤ x := hx; show (False) ∨ w.heap.size ≤ x; omega)
 refine Was (.string (strOfNums (txt ((ga bs 0).1.take k)))) ?_
 refine Was (.int .i64 0) ?_
 refine Wl_nil ?_
 refine W_ret ?_
 refine ret_end (v := .tuple #[.string (strOfNums (txt ((ga bs 0).1.take k))), .int .i64 0]) rfl (res2 results15 rfl rfl) ?_
 exact ⟨_, rfl, (vtup2 (vstr (by rw [show k = (ga bs 0).1.length from by omega, List.take_length])) rfl), HU⟩
end Go.Proofs.YtbjjhfoeckkacaaDoor
