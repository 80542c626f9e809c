/-
 Walks, printed by a small program of this project (gen.py).
-/
import Derived.Test.YtilegaokfamfnaaZf
set_option linter.unusedVariables false
set_option linter.unusedSimpArgs false
namespace Go.Proofs.Ytilegaokfamfnaa
open Go.Fw

set_option maxRecDepth 100000 in
theorem oall_spec {a a2 : Option Addr} {n c m d : Nat} {l b : List Int} (w : World) (hs : Sl w (fun g => g < w.heap.size) 1 (.slice a n c) n (ints .i64 l)) (hn : n ≤ 1000) (hsb : Sl w (fun g => g < w.heap.size) 1 (.slice a2 m d) m (ints .u8 b)) (hm : m ≤ 100000) :
  Calls Try.prog 29 #[.slice a n c, .slice a2 m d] w (Ret fun v w' => ∃ (Bl : Nat) (Bb : Nat) (a' : Option Addr) (c' : Nat) (e' : Option Addr) (f' : Nat), v = .func (.func 61) #[] #[.pointer (some ⟨Bl, 0, none⟩), .pointer (some ⟨Bb, 0, none⟩)] ∧ Blk w' Bl [.slice a' n c'] ∧ Blk w' Bb [.slice e' m f'] ∧ Own w' (fun g => w.heap.size ≤ g) 3 1 (.slice a' n c') n (ints .i64 l) ∧ Own w' (fun g => w.heap.size ≤ g) 5 1 (.slice e' m f') m (ints .u8 b) ∧ (w.heap.size ≤ Bl ∧ w.heap.size ≤ Bb ∧ Bl ≠ Bb) ∧ Upd No w w') := by
 have HU : Upd (fun b => False) w w := Upd.refl _ _
 have hl_hs := ilen hs
 have hc_hs := hs.cap.1
 have hl_hsb := ilen hsb
 have hc_hsb := hsb.cap.1
 refine calls_of_W Try.func29 rfl Try.ntmps29 (by simp) ?_
 refine W_seq ?_
 refine W_region ?_
 refine Wl_v (r_as (v := .nilFunc) rfl) ?_
 refine Wl_nil ?_
 refine W_seq ?_
 refine W_region ?_
 refine Wl_v (r_mv (v := .slice a n c) rfl) ?_
 refine Wl_call (r_call1 rfl Try.call59 rfl) (iclone _ hs.any (by omega)) ?_
 rintro v w1 ⟨a1, c1, rfl, hO1, hU1⟩
 have hzw1 := hU1.size
 replace hsb := hsb.upd0 hU1
 replace HU := HU.trans0 hU1
 replace hO1 := hO1.tight
 have hl_hO1 := ilen hO1.sl
 have hc_hO1 := hO1.sl.cap.1
 refine Wl_v (r_mv (v := .slice a2 m d) rfl) ?_
 refine Wl_call (r_call1 rfl Try.call60 rfl) (bclone _ hsb.any (by omega)) ?_
 rintro v w2 ⟨a2x, c2, rfl, hO2, hU2⟩
 have hzw2 := hU2.size
 replace HU := HU.trans0 hU2
 replace hO1 := hO1.upd0 hU2
 replace hO2 := hO2.tight
 have hl_hO2 := ilen hO2.sl
 have hc_hO2 := hO2.sl.cap.1
 refine Wl_alloc (cs := [.slice none 0 0]) Try.zeroValue22 rfl ?_
 intro B3 w3 hB3 hU3 hzz3 hb3
 have hzw3 := hU3.size
 replace HU := HU.trans0 hU3
 replace hO1 := hO1.upd0 hU3
 replace hO2 := hO2.upd0 hU3
 refine Wl_alloc (cs := [.slice none 0 0]) Try.zeroValue23 rfl ?_
 intro B4 w4 hB4 hU4 hzz4 hb4
 have hzw4 := hU4.size
 replace HU := HU.trans0 hU4
 replace hO1 := hO1.upd0 hU4
 replace hO2 := hO2.upd0 hU4
 replace hb3 := hb3.upd0 hU4
 refine Wl_store (v := .slice a1 n c1) (cs' := [.slice a1 n c1]) Try.sizeOf22 rfl rfl rfl rfl hb3 rfl rfl ?_
 intro w5 hU5 hzz5 hb3n
 replace hb3 := hb3n; clear hb3n
 have hzw5 := hU5.size
 replace HU := HU.trans1 hU5 (by show (False) ∨ w.heap.size ≤ B3; omega)
 replace hO1 := hO1.upd1 hU5 (by intro h1; have h3 : ((w.heap.size ≤ B3) ∧ B3 < w1.heap.size) := h1; omega)
 replace hO2 := hO2.upd1 hU5 (by intro h1; have h3 : ((w1.heap.size ≤ B3) ∧ B3 < w2.heap.size) := h1; omega)
 replace hb4 := hb4.upd1 hU5 (by omega)
 refine Wl_store (v := .slice a2x m c2) (cs' := [.slice a2x m c2]) Try.sizeOf23 rfl rfl rfl rfl hb4 rfl rfl ?_
 intro w6 hU6 hzz6 hb4n
 replace hb4 := hb4n; clear hb4n
 have hzw6 := hU6.size
 replace HU := HU.trans1 hU6 (by show (False) ∨ w.heap.size ≤ B4; omega)
 replace hO1 := hO1.upd1 hU6 (by intro h1; have h3 : ((w.heap.size ≤ B4) ∧ B4 < w1.heap.size) := h1; omega)
 replace hO2 := hO2.upd1 hU6 (by intro h1; have h3 : ((w1.heap.size ≤ B4) ∧ B4 < w2.heap.size) := h1; omega)
 replace hb3 := hb3.upd1 hU6 (by omega)
 refine Wl_nil ?_
 refine W_seq ?_
 refine W_region ?_
 refine Wl_v (r_mkf2 (v0 := .pointer (some ⟨B3, 0, none⟩)) (v1 := .pointer (some ⟨B4, 0, none⟩)) rfl rfl) ?_
 refine Wl_v (r_as (v := .func (.func 61) #[] #[.pointer (some ⟨B3, 0, none⟩), .pointer (some ⟨B4, 0, none⟩)]) rfl) ?_
 refine Wl_nil ?_
 refine W_ret ?_
 refine ret_end (v := .func (.func 61) #[] #[.pointer (some ⟨B3, 0, none⟩), .pointer (some ⟨B4, 0, none⟩)]) rfl (res1 Try.results29 rfl) ?_
 exact ⟨_, rfl, B3, B4, a1, c1, a2x, c2, rfl, hb3, hb4, (hO1.weak (by intro g hg; have h3 : ((w.heap.size ≤ g) ∧ g < w1.heap.size) := hg; show w.heap.size ≤ g; omega)), (hO2.weak (by intro g hg; have h3 : ((w1.heap.size ≤ g) ∧ g < w2.heap.size) := hg; show w.heap.size ≤ g; omega)), (by omega), HU⟩

set_option maxRecDepth 100000 in
theorem oall1_tree {ly Bl Bb n c m d : Nat} {a a2 : Option Addr} {l b : List Int} {R T : Nat → Prop} (w : World) (hBl : Blk w Bl [.slice a n c]) (hBb : Blk w Bb [.slice a2 m d]) (hs : Sl w R 1 (.slice a n c) n (ints .i64 l)) (hsb : Sl w T 1 (.slice a2 m d) m (ints .u8 b)) (hn : n ≤ 1000) (hm : m ≤ 100000) (hb : Byt b) (hr : ¬ Rt l) :
  Calls Try.prog 61 #[.func (.yield ly) #[] #[], .pointer (some ⟨Bl, 0, none⟩), .pointer (some ⟨Bb, 0, none⟩)] w (Ret fun v w' => v = .tuple #[] ∧ Upd No w w') := by
 have HU : Upd (fun b => False) w w := Upd.refl _ _
 have hl_hs := ilen hs
 have hc_hs := hs.cap.1
 have hl_hsb := ilen hsb
 have hc_hsb := hsb.cap.1
 have hbl_1 := hBl.lt
 have hbl_2 := hBb.lt
 replace hs := hs.tight
 replace hsb := hsb.tight
 refine calls_of_W Try.func61 rfl Try.ntmps61 (by simp) ?_
 refine W_scope ?_
 refine W_seq ?_
 refine W_region ?_
 refine Wl_load (v := .slice a n c) Try.isAgg22 rfl hBl rfl ?_
 refine Wl_load (v := .slice a2 m d) Try.isAgg23 rfl hBb rfl ?_
 refine Wl_call (r_call3 rfl Try.call62 rfl rfl rfl) (told_r_tree _ hs (by omega) hsb.any hb (by omega) hr) ?_
 rintro v w1 ⟨rfl, hU1⟩
 have hzw1 := hU1.size
 replace HU := HU.trans0 hU1
 refine Wl_v (r_mv (v := .tuple #[.agg #[.pointer none, .pointer none], .int .i64 12]) rfl) ?_
 refine Wl_v (r_ext (v := .agg #[.pointer none, .pointer none]) rfl rfl) ?_
 refine Wl_v (r_ext (v := .int .i64 12) rfl rfl) ?_
 refine Wl_alloc (cs := [.pointer none, .pointer none]) Try.zeroValue81 rfl ?_
 intro B2 w2 hB2 hU2 hzz2 hb2
 have hzw2 := hU2.size
 replace HU := HU.trans0 hU2
 refine Wl_storea (off := 0) (vs := [.pointer none, .pointer none]) (cs' := [.pointer none, .pointer none]) Try.sizeOf81 rfl rfl rfl (by simp only [List.mem_cons, List.not_mem_nil, or_false, forall_eq_or_imp, forall_eq]; exact ⟨rfl, rfl⟩) hb2 (by simp) rfl ?_
 intro w3 hU3 hzz3 hb2n
 replace hb2 := hb2n; clear hb2n
 have hzw3 := hU3.size
 replace HU := HU.trans1 hU3 (by show (False) ∨ w.heap.size ≤ B2; omega)
 refine Wl_v (r_as (v := .int .i64 12) rfl) ?_
 refine Wl_nil ?_
 refine W_seq ?_
 refine W_seq ?_
 refine W_region ?_
 refine Wl_v (r_mv (v := .int .i64 12) rfl) ?_
 refine Wl_v (v := .bool true) (r_ne (a := 12) (b := 0) rfl rfl) ?_
 refine Wl_nil ?_
 refine W_cond_t rfl ?_
 refine W_ret ?_
 refine ret_end (v := .tuple #[]) rfl (res0 Try.results61) ?_
 exact ⟨_, rfl, rfl, HU⟩

set_option maxRecDepth 100000 in
theorem oall1_bits {ly Bl Bb n c m d : Nat} {a a2 : Option Addr} {l b : List Int} {R T : Nat → Prop} (w : World) (hBl : Blk w Bl [.slice a n c]) (hBb : Blk w Bb [.slice a2 m d]) (hs : Sl w R 1 (.slice a n c) n (ints .i64 l)) (hsb : Sl w T 1 (.slice a2 m d) m (ints .u8 b)) (hn : n ≤ 1000) (hm : m ≤ 100000) (hb : Byt b) (hr : Rt l) (hc : ¬ Cl b) :
  Calls Try.prog 61 #[.func (.yield ly) #[] #[], .pointer (some ⟨Bl, 0, none⟩), .pointer (some ⟨Bb, 0, none⟩)] w (Ret fun v w' => v = .tuple #[] ∧ Upd No w w') := by
 have HU : Upd (fun b => False) w w := Upd.refl _ _
 have hl_hs := ilen hs
 have hc_hs := hs.cap.1
 have hl_hsb := ilen hsb
 have hc_hsb := hsb.cap.1
 have hbl_1 := hBl.lt
 have hbl_2 := hBb.lt
 replace hs := hs.tight
 replace hsb := hsb.tight
 refine calls_of_W Try.func61 rfl Try.ntmps61 (by simp) ?_
 refine W_scope ?_
 refine W_seq ?_
 refine W_region ?_
 refine Wl_load (v := .slice a n c) Try.isAgg22 rfl hBl rfl ?_
 refine Wl_load (v := .slice a2 m d) Try.isAgg23 rfl hBb rfl ?_
 refine Wl_call (r_call3 rfl Try.call62 rfl rfl rfl) (told_r_bits _ hs (by omega) hsb.any hb (by omega) hr hc) ?_
 rintro v w1 ⟨rfl, hU1⟩
 have hzw1 := hU1.size
 replace HU := HU.trans0 hU1
 refine Wl_v (r_mv (v := .tuple #[.agg #[.pointer none, .pointer none], .int .i64 14]) rfl) ?_
 refine Wl_v (r_ext (v := .agg #[.pointer none, .pointer none]) rfl rfl) ?_
 refine Wl_v (r_ext (v := .int .i64 14) rfl rfl) ?_
 refine Wl_alloc (cs := [.pointer none, .pointer none]) Try.zeroValue81 rfl ?_
 intro B2 w2 hB2 hU2 hzz2 hb2
 have hzw2 := hU2.size
 replace HU := HU.trans0 hU2
 refine Wl_storea (off := 0) (vs := [.pointer none, .pointer none]) (cs' := [.pointer none, .pointer none]) Try.sizeOf81 rfl rfl rfl (by simp only [List.mem_cons, List.not_mem_nil, or_false, forall_eq_or_imp, forall_eq]; exact ⟨rfl, rfl⟩) hb2 (by simp) rfl ?_
 intro w3 hU3 hzz3 hb2n
 replace hb2 := hb2n; clear hb2n
 have hzw3 := hU3.size
 replace HU := HU.trans1 hU3 (by show (False) ∨ w.heap.size ≤ B2; omega)
 refine Wl_v (r_as (v := .int .i64 14) rfl) ?_
 refine Wl_nil ?_
 refine W_seq ?_
 refine W_seq ?_
 refine W_region ?_
 refine Wl_v (r_mv (v := .int .i64 14) rfl) ?_
 refine Wl_v (v := .bool true) (r_ne (a := 14) (b := 0) rfl rfl) ?_
 refine Wl_nil ?_
 refine W_cond_t rfl ?_
 refine W_ret ?_
 refine ret_end (v := .tuple #[]) rfl (res0 Try.results61) ?_
 exact ⟨_, rfl, rfl, HU⟩

set_option maxRecDepth 100000 in
theorem oall1_spec {ly Bl Bb n c m d : Nat} {a a2 : Option Addr} {l b : List Int} {J : Nat → World → Prop} {Jx : World → Prop} {Sb R T : Nat → Prop} (w : World) (hBl : Blk w Bl [.slice a n c]) (hBb : Blk w Bb [.slice a2 m d]) (hs : Sl w R 1 (.slice a n c) n (ints .i64 l)) (hsb : Sl w T 1 (.slice a2 m d) m (ints .u8 b)) (hn : n ≤ 1000) (hm : m ≤ 100000) (hb : Byt b) (hr : Rt l) (hc : Cl b) (hSf : ∀ g, w.heap.size ≤ g → ¬ Sb g) (hJ0 : J 0 w) (hJS : ∀ (j : Nat) (wa wb : World), J j wa → Upd (fun g => w.heap.size ≤ g) wa wb → J j wb) (hy : ∀ j w, j < nb l (wn b) (tbt b) → J j w → YieldC Try.prog ly #[.int .i64 ((st l (wn b) (tbt b) (j + 1) : Nat) : Int), .int .u8 (nd l (wn b) (st l (wn b) (tbt b) j)).1] w (fun e w' => (e = .returned (.bool true) ∧ (Upd Sb w w' ∧ J (j + 1) w')) ∨ (e = .returned (.bool false) ∧ Jx w'))) :
  Calls Try.prog 61 #[.func (.yield ly) #[] #[], .pointer (some ⟨Bl, 0, none⟩), .pointer (some ⟨Bb, 0, none⟩)] w (Ret fun v w' => J (nb l (wn b) (tbt b)) w' ∨ Jx w') := by
 have HU : Upd (fun b => False) w w := Upd.refl _ _
 have hl_hs := ilen hs
 have hc_hs := hs.cap.1
 have hl_hsb := ilen hsb
 have hc_hsb := hsb.cap.1
 have hbl_1 := hBl.lt
 have hbl_2 := hBb.lt
 replace hs := hs.tight
 replace hsb := hsb.tight
 refine calls_of_W Try.func61 rfl Try.ntmps61 (by simp) ?_
 refine W_scope ?_
 refine W_seq ?_
 refine W_region ?_
 refine Wl_load (v := .slice a n c) Try.isAgg22 rfl hBl rfl ?_
 refine Wl_load (v := .slice a2 m d) Try.isAgg23 rfl hBb rfl ?_
 have HR : Upd (fun g => w.heap.size ≤ g) w w := Upd.refl _ _
 refine Wl_call (r_call3 rfl Try.call62 rfl rfl rfl) (told_r_ok _ hs (by omega) hsb.any hb (by omega) hr hc) ?_
 rintro v w1 ⟨rb1, tb1, ga1, gz1, rfl, hR1, hG0_1, hU1⟩
 have hzw1 := hU1.size
 replace hJ0 := hJ0
 replace HR := HR.trans0 hU1
 have hrl := hR1.lt
 have htbl : tbt b ≤ 8 * b.length := by have := (cl_bd hb hc).2.2.2; omega
 refine Wl_v (r_mv (v := .tuple #[.agg #[.pointer (some ⟨rb1, 0, none⟩), .pointer (some ⟨tb1, 0, none⟩)], .int .i64 0]) rfl) ?_
 refine Wl_v (r_ext (v := .agg #[.pointer (some ⟨rb1, 0, none⟩), .pointer (some ⟨tb1, 0, none⟩)]) rfl rfl) ?_
 refine Wl_v (r_ext (v := .int .i64 0) rfl rfl) ?_
 refine Wl_alloc (cs := [.pointer none, .pointer none]) Try.zeroValue81 rfl ?_
 intro B2 w2 hB2 hU2 hzz2 hb2
 have hzw2 := hU2.size
 replace hJ0 := hJ0
 replace HR := HR.trans0 hU2
 replace hR1 := hR1.upd0 hU2
 refine Wl_storea (off := 0) (vs := [.pointer (some ⟨rb1, 0, none⟩), .pointer (some ⟨tb1, 0, none⟩)]) (cs' := [.pointer (some ⟨rb1, 0, none⟩), .pointer (some ⟨tb1, 0, none⟩)]) Try.sizeOf81 rfl rfl rfl (by simp only [List.mem_cons, List.not_mem_nil, or_false, forall_eq_or_imp, forall_eq]; exact ⟨rfl, rfl⟩) hb2 (by simp) rfl ?_
 intro w3 hU3 hzz3 hb2n
 replace hb2 := hb2n; clear hb2n
 have hzw3 := hU3.size
 replace hJ0 := hJ0
 replace HR := HR.trans1 hU3 (by show (w.heap.size ≤ B2) ∨ w.heap.size ≤ B2; omega)
 replace hR1 := hR1.upd1 hU3 (by omega)
 refine Wl_v (r_as (v := .int .i64 0) rfl) ?_
 refine Wl_nil ?_
 refine W_seq ?_
 refine W_seq ?_
 refine W_region ?_
 refine Wl_v (r_mv (v := .int .i64 0) rfl) ?_
 refine Wl_v (v := .bool false) (r_ne (a := 0) (b := 0) rfl rfl) ?_
 refine Wl_nil ?_
 refine W_cond_f rfl ?_
 refine W_skip ?_
 refine W_seq ?_
 refine W_label ?_
 refine W_block ?_
 have HJ9 := hJS _ _ _ hJ0 HR
 refine W_loop (fun mu ρ ds w' => ∃ (j : Nat), st l (wn b) (tbt b) j = mu ∧ ds = [] ∧ Liv ρ [(0, .func (.yield ly) #[] #[]), (4, .pointer (some ⟨B2, 0, none⟩))] ∧ Gd l b (tbt b) j ∧ Blk w' B2 [.pointer (some ⟨rb1, 0, none⟩), .pointer (some ⟨tb1, 0, none⟩)] ∧ Rdr w' ga1 gz1 rb1 tb1 l b (st l (wn b) (tbt b) j) ∧ J j w' ∧ w.heap.size ≤ (w').heap.size) _ ⟨0, rfl, rfl, ⟨rfl, rfl, trivial⟩, (Gd.zero _ _ _), hb2, hR1, HJ9, (by omega)⟩ ?_
 rintro m4 ρ4 ds4 w4 ⟨j, rfl, rfl, hl4, hG, hb2, hR1, hJ0, hzw⟩
 obtain ⟨ρ4x, rfl⟩ : ∃ ρx, ρ4 = upds ρx [(0, .func (.yield ly) #[] #[]), (4, .pointer (some ⟨B2, 0, none⟩))] := ⟨_, upds_self hl4⟩
 clear hl4
 refine W_seq ?_
 refine W_seq ?_
 refine W_region ?_
 refine Wl_v (r_fld Try.underlying81 rfl Try.sizeOf78 rfl rfl) ?_
 refine Wl_load (v := .pointer (some ⟨rb1, 0, none⟩)) Try.isAgg78 rfl hb2 rfl ?_
 have HR : Upd (fun g => w.heap.size ≤ g) w4 w4 := Upd.refl _ _
 have hst := st_le (l := l) (wn b) (tbt b) j
 have hrl := hR1.lt
 refine Wl_call (r_call1 rfl Try.call49 rfl) (rleft _ hR1 (by omega)) ?_
 rintro v w5 ⟨rfl, hU5⟩
 have hzw5 := hU5.size
 replace hb2 := hb2.upd0 hU5
 replace hR1 := hR1.upd0 hU5
 replace hJ0 := hJ0
 replace hzw := hzw
 replace HR := HR.trans0 hU5
 refine Wl_v (r_gt rfl rfl) ?_
 refine Wl_nil ?_
 by_cases q1 : 0 < (((st l (wn b) (tbt b) j) : Nat) : Int)
 ·rw [decide_eq_true q1]
  refine W_cond_t rfl ?_
  refine W_skip ?_
  refine W_block ?_
  refine W_seq ?_
  refine W_region ?_
  refine Wl_v (r_loada (b := B2) (off := 0) (cs := [.pointer (some ⟨rb1, 0, none⟩), .pointer (some ⟨tb1, 0, none⟩)]) Try.isAgg81 Try.sizeOf81 rfl rfl (fun j hj => by rw [hb2.cell]; match j, hj with | 0, _ => rfl | 1, _ => rfl)) ?_
  refine Wl_call (r_call1 rfl Try.call52 rfl) (next_spec _ hR1 (by omega) hb (by omega)) ?_
  rintro v w6 ⟨rfl, hR26, hU6⟩
  have hzw6 := hU6.size
  replace hb2 := hb2.upd1 hU6 (by omega)
  replace hJ0 := hJ0
  replace hzw := hzw
  replace HR := HR.trans1 hU6 (by show (w.heap.size ≤ rb1) ∨ w4.heap.size ≤ rb1; omega)
  refine Wl_v (r_mv (v := .tuple #[.int .u8 ((nd l (wn b) (st l (wn b) (tbt b) j)).1), .bool (decide ((nd l (wn b) (st l (wn b) (tbt b) j)).2.2 = 0))]) rfl) ?_
  refine Wl_v (r_ext (v := .int .u8 ((nd l (wn b) (st l (wn b) (tbt b) j)).1)) rfl rfl) ?_
  refine Wl_v (r_ext (v := .bool (decide ((nd l (wn b) (st l (wn b) (tbt b) j)).2.2 = 0))) rfl rfl) ?_
  refine Wl_v (r_as (v := .int .u8 ((nd l (wn b) (st l (wn b) (tbt b) j)).1)) rfl) ?_
  refine Wl_v (r_as (v := .bool (decide ((nd l (wn b) (st l (wn b) (tbt b) j)).2.2 = 0))) rfl) ?_
  refine Wl_nil ?_
  refine W_seq ?_
  refine W_region ?_
  refine Wl_v (r_mv (v := .bool (decide ((nd l (wn b) (st l (wn b) (tbt b) j)).2.2 = 0))) rfl) ?_
  refine Wl_v (r_not rfl) ?_
  refine Wl_v (r_mv (v := .bool (!decide ((nd l (wn b) (st l (wn b) (tbt b) j)).2.2 = 0))) rfl) ?_
  by_cases q2 : (nd l (wn b) (st l (wn b) (tbt b) j)).2.2 = 0
  ·have hgk := q2
   have hrng := nd_rng hr hgk
   have hs1 : st l (wn b) (tbt b) (j + 1) = st l (wn b) (tbt b) j - (nd l (wn b) (st l (wn b) (tbt b) j)).2.1.toNat := rfl
   rw [decide_eq_true q2]
   simp only [Bool.not_true, Bool.not_false]
   refine Wl_guard_t rfl ?_
   refine Wl_v (r_mv (v := .func (.yield ly) #[] #[]) rfl) ?_
   refine Wl_guard_t rfl ?_
   refine Wl_v (r_fld Try.underlying81 rfl Try.sizeOf78 rfl rfl) ?_
   refine Wl_guard_t rfl ?_
   refine Wl_load (v := .pointer (some ⟨rb1, 0, none⟩)) Try.isAgg78 rfl hb2 rfl ?_
   refine Wl_guard_t rfl ?_
   refine Wl_call (r_call1 rfl Try.call49 rfl) (rleft _ hR26 (by omega)) ?_
   rintro v w7 ⟨rfl, hU7⟩
   have hzw7 := hU7.size
   replace hb2 := hb2.upd0 hU7
   replace hJ0 := hJ0
   replace hzw := hzw
   replace HR := HR.trans0 hU7
   replace hR26 := hR26.upd0 hU7
   refine Wl_guard_t rfl ?_
   refine Wl_v (r_mv (v := .int .u8 ((nd l (wn b) (st l (wn b) (tbt b) j)).1)) rfl) ?_
   refine Wl_guard_t rfl ?_
   refine Wl_yield2 rfl rfl rfl (hy j _ (gd_le hr |>.1 (hG.succ hgk)) (hJS _ _ _ hJ0 HR)) ?_ ?_
   ·rintro w8 ⟨hU8, hJn⟩
    have hzz9 := hU8.size
    replace hR26 := hR26.upd hU8 (fun g hg => Or.inl (Nat.lt_of_not_le fun h => hSf g (by omega) hg))
    replace hb2 := hb2.upd hU8 (fun h => hSf _ (by omega) h)
    replace hJ0 := hJn
    refine Wl_guard_t rfl ?_
    refine Wl_v (r_not (b := true) rfl) ?_
    refine Wl_v (r_pick_f (v := .bool false) rfl rfl) ?_
    refine Wl_nil ?_
    refine W_cond_f rfl ?_
    refine W_skip ?_
    refine ⟨_, ?_, (j + 1), rfl, rfl, ⟨rfl, rfl, trivial⟩, (hG.succ hgk), hb2, hR26, hJ0, (by omega)⟩
    omega
   ·rintro w9 hJx
    refine Wl_guard_t rfl ?_
    refine Wl_v (r_not (b := false) rfl) ?_
    refine Wl_v (r_pick_f (v := .bool true) rfl rfl) ?_
    refine Wl_nil ?_
    refine W_cond_t rfl ?_
    refine W_exit ?_
    refine nrm_end (v := .tuple #[]) rfl (res0 Try.results61) ?_
    exact ⟨_, rfl, Or.inr hJx⟩
  ·have hN := nb_eq hr hG q2
   rw [decide_eq_false q2]
   simp only [Bool.not_true, Bool.not_false]
   refine Wl_guard_f rfl ?_
   refine Wl_guard_f rfl ?_
   refine Wl_guard_f rfl ?_
   refine Wl_guard_f rfl ?_
   refine Wl_guard_f rfl ?_
   refine Wl_guard_f rfl ?_
   refine Wl_guard_f rfl ?_
   refine Wl_v (r_pick_t (v := .bool true) rfl rfl) ?_
   refine Wl_nil ?_
   refine W_cond_t rfl ?_
   refine W_exit ?_
   refine nrm_end (v := .tuple #[]) rfl (res0 Try.results61) ?_
   exact ⟨_, rfl, Or.inl (by rw [hN]; exact hJS _ _ _ hJ0 HR)⟩
 ·have hN := nb_stop hr hG (show st l (wn b) (tbt b) j = 0 from by omega)
  rw [decide_eq_false q1]
  refine W_cond_f rfl ?_
  refine W_exit ?_
  refine nrm_end (v := .tuple #[]) rfl (res0 Try.results61) ?_
  exact ⟨_, rfl, Or.inl (by rw [hN]; exact hJS _ _ _ hJ0 HR)⟩

end Go.Proofs.Ytilegaokfamfnaa
