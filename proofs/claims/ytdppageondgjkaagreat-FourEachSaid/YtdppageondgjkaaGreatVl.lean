/-
 Walks, printed by a small program of this project (gen.py).
-/
import Derived.Test.YtdppageondgjkaaGreatVj
set_option linter.unusedVariables false
set_option linter.unusedSimpArgs false
set_option maxRecDepth 100000
namespace Go.Proofs.YtdppageondgjkaaGreat
open Go.Fw _root_.Go.Proofs.Tryz
open Nu
set_option maxHeartbeats 4000000 in
theorem goes_it {ly n c m d : Nat} {a a2 : Option Addr} {l b : List Int} {nn : Int} {J : Nat → World → Prop} {Jx : World → Prop} {Sb R T : Nat → Prop} (w : World) (hs : Sl w R 1 (.slice a n c) n (ints .i64 l)) (hsb : Sl w T 1 (.slice a2 m d) m (ints .u8 b)) (hn : n ≤ 1000) (hm : m ≤ 100000) (hb : Byt b) (hni : -9223372036854775808 ≤ nn ∧ nn ≤ 9223372036854775807) (hSR : ∀ g, R g → ¬ Sb g) (hSf : ∀ g, w.heap.size ≤ g → ¬ Sb g) (hJ0 : J 0 w) (hJS : ∀ (j : Nat) (wa wb : World), J j wa → Upd (fun g => w.heap.size ≤ g) wa wb → J j wb) (hJX : ∀ (wa wb : World), Jx wa → Upd (fun g => w.heap.size ≤ g) wa wb → Jx wb) (hy : ∀ (j : Nat) (w9 : World), j < nE l b nn → J j w9 → (∀ (a' : Option Addr) (m' c' : Nat), Sl w9 (fun g => w.heap.size ≤ g) 1 (.slice a' m' c') m' (ints .u8 ((zL l b nn).getD j [])) → YieldC Tryz.prog ly #[.int .i64 ((j : Nat) : Int), .slice a' m' c'] w9 (fun e w' => (e = .returned (.bool true) ∧ (Upd Sb w9 w' ∧ J (j + 1) w')) ∨ (e = .returned (.bool false) ∧ (Upd Sb w9 w' ∧ Jx w'))))) :
  Calls Tryz.prog 49 #[.slice a n c, .slice a2 m d, .int .i64 nn, .func (.yield ly) #[] #[]] w (Ret fun v w' => J (nE l b nn) w' ∨ Jx w') := by
 have HU := Upd.rno w
 have HR : Upd (fun g => w.heap.size ≤ g) w w := Upd.refl _ _
 have hl_hs := ilen hs
 have hc_hs := hs.cap.1
 have hl_hsb := ilen hsb
 have hc_hsb := hsb.cap.1
 replace hs := hs.tight
 replace hsb := hsb.tight
 refine calls_of_W func49 rfl ntmps49 (by simp) ?_
 refine W_seq (W_region ?_)
 refine Wl_alloc (cs := [.int .i64 0]) zeroValue23 rfl ?_
 intro B1 w1 hB1 hU1 hzz1 hb1
 have hzw1 := hU1.size
 replace hs := hs.upd0 hU1
 replace hsb := hsb.upd0 hU1
 replace HR := HR.trans0 hU1
 refine Wl_nil (W_seq (W_region ?_))
 refine Wl_defer2 rfl rfl ?_
 refine Wl_nil (W_seq (W_region ?_))
 refine Wmv (.slice a n c) ?_
 by_cases q1 : Rt l
 ·refine Wl_call (r_call1 rfl call56 rfl) (check_ok _ hs (by omega) q1) ?_
  rintro v w2 ⟨rfl, hU2⟩
  have hzw2 := hU2.size
  replace hs := hs.upd0 hU2
  replace hsb := hsb.upd0 hU2
  replace HR := HR.trans0 hU2
  replace hb1 := hb1.upd0 hU2
  refine Wl_lit (pv := [(0, .int .i64 0)]) (cs := [.int .i64 0]) underlying112 sizeOf23 zeroValue23 (by decide) (by decide) (by simp only [List.map_toArray, List.map_cons, List.map_nil] <;> rfl) (by kernel_rfl) rfl (by decide) ?_
  intro B3 w3 hB3 hU3 hzz3 hs3
  have hzw3 := hU3.size
  replace hs := hs.upd0 hU3
  replace hsb := hsb.upd0 hU3
  replace HR := HR.trans0 hU3
  replace hb1 := hb1.upd0 hU3
  replace hs3 : Own w3 (Is B3) 23 1 (.slice (some ⟨B3, 0, none⟩) 1 1) 1 (ints .i64 [0]) := hs3
  refine Wl_call (r_call1 rfl call38 rfl) (fmust_ok (er := 0) _ hs3.sl.any (by decide)) ?_
  rintro v w4 ⟨rfl, hU4⟩
  have hzw4 := hU4.size
  replace hs := hs.upd0 hU4
  replace hsb := hsb.upd0 hU4
  replace HR := HR.trans0 hU4
  replace hb1 := hb1.upd0 hU4
  refine Wl_nil (W_seq (W_region ?_))
  refine Wmv (.int .i64 nn) ?_
  by_cases q2 : paF nn = 0
  ·have hpr := pa_rng q2
   refine Wl_call (r_call1 rfl call35 rfl) (parted_ok (n := nn) _ q2) ?_
   rintro v w5 ⟨rfl, hU5⟩
   have hzw5 := hU5.size
   replace hs := hs.upd0 hU5
   replace hsb := hsb.upd0 hU5
   replace HR := HR.trans0 hU5
   replace hb1 := hb1.upd0 hU5
   refine Wl_alloc (cs := [.int .i64 0, .int .i64 0, .int .i64 0, .int .i64 0]) zeroValue65 rfl ?_
   intro B6 w6 hB6 hU6 hzz6 hb6
   have hzw6 := hU6.size
   replace hs := hs.upd0 hU6
   replace hsb := hsb.upd0 hU6
   replace HR := HR.trans0 hU6
   replace hb1 := hb1.upd0 hU6
   refine Wl_storea (off := 0) (vs := [.int .i64 ((nn + 3) / 4), .int .i64 ((nn + 3) / 4), .int .i64 ((nn + 3) / 4), .int .i64 (nn - 3 * ((nn + 3) / 4))]) (cs' := [.int .i64 ((nn + 3) / 4), .int .i64 ((nn + 3) / 4), .int .i64 ((nn + 3) / 4), .int .i64 (nn - 3 * ((nn + 3) / 4))]) sizeOf65 rfl rfl rfl (by simp only [List.mem_cons, List.not_mem_nil, or_false, forall_eq_or_imp, forall_eq]; exact ⟨rfl, rfl, rfl, rfl⟩) hb6 (by simp) rfl ?_
   intro w7 hU7 hzz7 hb6n
   replace hb6 := hb6n; clear hb6n
   have hzw7 := hU7.size
   replace hs := hs.upd1 hU7 (show ¬ (((R B6) ∧ B6 < w.heap.size)) by omega)
   replace hsb := hsb.upd1 hU7 (show ¬ (((T B6) ∧ B6 < w.heap.size)) by omega)
   replace HR := HR.trans1 hU7 (by show (w.heap.size ≤ B6) ∨ w.heap.size ≤ B6; omega)
   replace hb1 := hb1.upd1 hU7 (by omega)
   refine Wl_nil (W_seq (W_seq (W_region ?_)))
   refine Wmv (.slice a2 m d) ?_
   refine Wl_call (r_call1 rfl call52 rfl) (Nu.new_spec _ hsb.any (by omega)) ?_
   rintro v w8 ⟨pb8, a8, c8, rfl, hp8, hO8, hpg_8, hU8⟩
   have hzw8 := hU8.size
   replace hs := hs.upd0 hU8
   replace HR := HR.trans0 hU8
   replace hb1 := hb1.upd0 hU8
   replace hb6 := hb6.upd0 hU8
   have hbl_hp8 := hp8.lt
   replace hO8 := hO8.tight
   have hl_hO8 := ilen hO8.sl
   have hc_hO8 := hO8.sl.cap.1
   refine Wl_v (r_build (pl := #[(0, 1)]) (pv := [(0, .pointer (some ⟨pb8, 0, none⟩))]) (cs := #[.pointer (some ⟨pb8, 0, none⟩)]) zeroValue82 underlying82 (fun w => by kernel_rfl) (by simp only [List.map_toArray, List.map_cons, List.map_nil] <;> rfl) (by kernel_rfl)) ?_
   by_cases q3 : e4 b = 0
   ·refine Wl_call (r_call1 rfl call53 rfl) (strm_ok _ hp8 (hO8.sl.cur (by intro h1; have h3 : ((w7.heap.size ≤ pb8 ∧ pb8 ≠ pb8) ∧ pb8 < w8.heap.size) := h1; first | omega | simp at h3)) hb (by omega) q3) ?_
    rintro v w9 ⟨a9, c9, ja9, ka9, qa9, jb9, kb9, qb9, jc9, kc9, qc9, jd9, kd9, qd9, rfl, hS9, hOa9, hOb9, hOc9, hOd9, hU9⟩
    have hzw9 := hU9.size
    replace hs := hs.upd1 hU9 (show ¬ (((R pb8) ∧ pb8 < w.heap.size)) by omega)
    replace HR := HR.trans1 hU9 (by show (w.heap.size ≤ pb8) ∨ w.heap.size ≤ pb8; omega)
    replace hb1 := hb1.upd1 hU9 (by omega)
    replace hb6 := hb6.upd1 hU9 (by omega)
    replace hS9 := hS9.tight
    have hl_hS9 := hS9.sl.len
    have hc_hS9 := hS9.sl.cap.1
    replace hOa9 := hOa9.tight
    have hl_hOa9 := ilen hOa9.sl
    have hc_hOa9 := hOa9.sl.cap.1
    replace hOb9 := hOb9.tight
    have hl_hOb9 := ilen hOb9.sl
    have hc_hOb9 := hOb9.sl.cap.1
    replace hOc9 := hOc9.tight
    have hl_hOc9 := ilen hOc9.sl
    have hc_hOc9 := hOc9.sl.cap.1
    replace hOd9 := hOd9.tight
    have hl_hOd9 := ilen hOd9.sl
    have hc_hOd9 := hOd9.sl.cap.1
    have hgl9d := List.length_drop (i := (gbytes b (gbytes b (gbytes b (gnum b (gnum b (gnum b 0 131072).2.1 131072).2.1 131072).2.1 (gnum b 0 131072).1).2.1 (gnum b (gnum b 0 131072).2.1 131072).1).2.1 (gnum b (gnum b (gnum b 0 131072).2.1 131072).2.1 131072).1).2.1) (l := b)
    have hgl9a := gbl_le (b := b) ((gnum b (gnum b (gnum b 0 131072).2.1 131072).2.1 131072).2.1) ((gnum b 0 131072).1)
    have hgl9b := gbl_le (b := b) ((gbytes b (gnum b (gnum b (gnum b 0 131072).2.1 131072).2.1 131072).2.1 (gnum b 0 131072).1).2.1) ((gnum b (gnum b 0 131072).2.1 131072).1)
    have hgl9c := gbl_le (b := b) ((gbytes b (gbytes b (gnum b (gnum b (gnum b 0 131072).2.1 131072).2.1 131072).2.1 (gnum b 0 131072).1).2.1 (gnum b (gnum b 0 131072).2.1 131072).1).2.1) ((gnum b (gnum b (gnum b 0 131072).2.1 131072).2.1 131072).1)
    refine Wl_v (r_len underlying41 rfl) ?_
    refine Wmv (.int .i64 0) ?_
    refine Wl_nil (W_block ?_)
    refine W_unroll 5 ?_
    refine unrK_succ ?_
    refine W_seq (W_region ?_)
    refine Wl_v (v := .bool true) (r_lt (a := 0) (b := 4) rfl rfl) ?_
    refine Wl_nil (W_seq ?_)
    refine W_cond_t rfl ?_
    refine W_skip (W_seq (W_block (W_seq (W_region ?_))))
    refine Wmv (.int .i64 0) ?_
    refine Wl_idxc (i' := 0) (v := .slice ja9 ka9 qa9) underlying41 sizeOf32 rfl rfl (by first | rfl | omega) hS9.sl (by decide) rfl ?_
    intro ib10 io10 hc10
    refine Wl_loadc isAgg32 rfl hc10 ?_
    refine Was (.int .i64 0) ?_
    refine Was (.slice ja9 ka9 qa9) ?_
    refine Wl_nil (W_seq (W_region ?_))
    refine Wmv (.slice a n c) ?_
    refine Wmv (.slice ja9 ka9 qa9) ?_
    refine Wmv (.int .i64 0) ?_
    refine Wl_v (r_idxa (len := 4) (i' := 0) (o' := 0) underlying65 sizeOf3 rfl rfl (by omega) (by omega) (by omega)) ?_
    refine Wl_load (v := .int .i64 ((nn + 3) / 4)) isAgg3 rfl hb6 rfl ?_
    refine Wl_call (r_call3 rfl call80 rfl rfl rfl) (odec _ hs (by omega) hOa9.sl.any (gby_byt hb _ _) (by omega) (by omega)) ?_
    rintro v w11 ⟨a11, m11, c11, rfl, hO11, hU11⟩
    have hzw11 := hU11.size
    replace hs := hs.upd0 hU11
    replace HR := HR.trans0 hU11
    replace hb1 := hb1.upd0 hU11
    replace hb6 := hb6.upd0 hU11
    replace hS9 := hS9.upd0 hU11
    replace hOb9 := hOb9.upd0 hU11
    replace hOc9 := hOc9.upd0 hU11
    replace hOd9 := hOd9.upd0 hU11
    replace hO11 := hO11.tight
    have hl_hO11 := ilen hO11.sl
    have hc_hO11 := hO11.sl.cap.1
    have hdl11 := dcF_len (l := l) (b := (gbytes b (gnum b (gnum b (gnum b 0 131072).2.1 131072).2.1 131072).2.1 (gnum b 0 131072).1).1) (gby_byt hb _ _) ((nn + 3) / 4)
    refine Wmv (.tuple #[.slice a11 m11 c11, .int .i64 ((dcF l ((gbytes b (gnum b (gnum b (gnum b 0 131072).2.1 131072).2.1 131072).2.1 (gnum b 0 131072).1).1) ((nn + 3) / 4)).2)]) ?_
    refine Wl_v (r_ext (v := .slice a11 m11 c11) rfl rfl) ?_
    refine Wl_v (r_ext (v := .int .i64 ((dcF l ((gbytes b (gnum b (gnum b (gnum b 0 131072).2.1 131072).2.1 131072).2.1 (gnum b 0 131072).1).1) ((nn + 3) / 4)).2)) rfl rfl) ?_
    refine Was (.slice a11 m11 c11) ?_
    refine Was (.int .i64 ((dcF l ((gbytes b (gnum b (gnum b (gnum b 0 131072).2.1 131072).2.1 131072).2.1 (gnum b 0 131072).1).1) ((nn + 3) / 4)).2)) ?_
    refine Wl_nil (W_seq (W_region ?_))
    refine Wmv (.int .i64 ((dcF l ((gbytes b (gnum b (gnum b (gnum b 0 131072).2.1 131072).2.1 131072).2.1 (gnum b 0 131072).1).1) ((nn + 3) / 4)).2)) ?_
    refine Wl_lit (pv := [(0, .int .i64 ((dcF l ((gbytes b (gnum b (gnum b (gnum b 0 131072).2.1 131072).2.1 131072).2.1 (gnum b 0 131072).1).1) ((nn + 3) / 4)).2))]) (cs := [.int .i64 ((dcF l ((gbytes b (gnum b (gnum b (gnum b 0 131072).2.1 131072).2.1 131072).2.1 (gnum b 0 131072).1).1) ((nn + 3) / 4)).2)]) underlying112 sizeOf23 zeroValue23 (by decide) (by decide) (by simp only [List.map_toArray, List.map_cons, List.map_nil] <;> rfl) (by kernel_rfl) rfl (by decide) ?_
    intro B12 w12 hB12 hU12 hzz12 hs12
    have hzw12 := hU12.size
    replace hs := hs.upd0 hU12
    replace HR := HR.trans0 hU12
    replace hb1 := hb1.upd0 hU12
    replace hb6 := hb6.upd0 hU12
    replace hS9 := hS9.upd0 hU12
    replace hOb9 := hOb9.upd0 hU12
    replace hOc9 := hOc9.upd0 hU12
    replace hOd9 := hOd9.upd0 hU12
    replace hO11 := hO11.upd0 hU12
    replace hs12 : Own w12 (Is B12) 23 1 (.slice (some ⟨B12, 0, none⟩) 1 1) 1 (ints .i64 [(dcF l ((gbytes b (gnum b (gnum b (gnum b 0 131072).2.1 131072).2.1 131072).2.1 (gnum b 0 131072).1).1) ((nn + 3) / 4)).2]) := hs12
    by_cases q4 : ((dcF l ((gbytes b (gnum b (gnum b (gnum b 0 131072).2.1 131072).2.1 131072).2.1 (gnum b 0 131072).1).1) ((nn + 3) / 4)).2) = 0
    ·refine Wl_call (r_call1 rfl call38 rfl) (fmust_ok (er := (dcF l ((gbytes b (gnum b (gnum b (gnum b 0 131072).2.1 131072).2.1 131072).2.1 (gnum b 0 131072).1).1) ((nn + 3) / 4)).2) _ hs12.sl.any q4) ?_
     rintro v w13 ⟨rfl, hU13⟩
     have hzw13 := hU13.size
     replace hs := hs.upd0 hU13
     replace HR := HR.trans0 hU13
     replace hb1 := hb1.upd0 hU13
     replace hb6 := hb6.upd0 hU13
     replace hS9 := hS9.upd0 hU13
     replace hOb9 := hOb9.upd0 hU13
     replace hOc9 := hOc9.upd0 hU13
     replace hOd9 := hOd9.upd0 hU13
     replace hO11 := hO11.upd0 hU13
     refine Wl_nil (W_seq (W_region ?_))
     refine Wmv (.func (.yield ly) #[] #[]) ?_
     refine Wmv (.int .i64 0) ?_
     refine Wmv (.slice a11 m11 c11) ?_
     refine Wl_yield2 rfl rfl rfl (hy 0 _ (nE_g1 ((hdF_e (l := l) (b := b) (n := nn) q1 q2).trans q3) q4) (hJS _ _ _ hJ0 HR) _ _ _ (hO11.sl.weak (by intro g hg; have h3 : ((w9.heap.size ≤ g) ∧ g < w11.heap.size) := hg; show w.heap.size ≤ g; omega))) ?_ ?_
     ·rintro w14 ⟨hU14, hJn⟩
      have hzy14 := hU14.size
      replace hs := hs.upd hU14 (fun g hg => hSR g hg.1)
      replace hb1 := hb1.upd hU14 (fun h => hSf _ (by omega) h)
      replace hb6 := hb6.upd hU14 (fun h => hSf _ (by omega) h)
      replace hS9 := hS9.upd hU14 (fun g hg => hSf g (by have h3 : ((w8.heap.size ≤ g) ∧ g < w9.heap.size) := hg; omega))
      replace hOb9 := hOb9.upd hU14 (fun g hg => hSf g (by have h3 : ((w8.heap.size ≤ g) ∧ g < w9.heap.size) := hg; omega))
      replace hOc9 := hOc9.upd hU14 (fun g hg => hSf g (by have h3 : ((w8.heap.size ≤ g) ∧ g < w9.heap.size) := hg; omega))
      replace hOd9 := hOd9.upd hU14 (fun g hg => hSf g (by have h3 : ((w8.heap.size ≤ g) ∧ g < w9.heap.size) := hg; omega))
      have HR : Upd (fun g => w.heap.size ≤ g) w14 w14 := Upd.refl _ _
      replace hJ0 := hJn
      refine Wl_v (r_not (b := true) rfl) ?_
      refine Wl_nil ?_
      refine W_cond_f rfl ?_
      refine W_skip (W_region ?_)
      refine Wl_v (r_add rfl rfl (show _ = (1 : Int) from by decide)) ?_
      refine Wmv (.int .i64 1) ?_
      refine Wl_nil ?_
      refine unrK_succ ?_
      refine W_seq (W_region ?_)
      refine Wl_v (v := .bool true) (r_lt (a := 1) (b := 4) rfl rfl) ?_
      refine Wl_nil (W_seq ?_)
      refine W_cond_t rfl ?_
      refine W_skip (W_seq (W_block (W_seq (W_region ?_))))
      refine Wmv (.int .i64 1) ?_
      refine Wl_idxc (i' := 1) (v := .slice jb9 kb9 qb9) underlying41 sizeOf32 rfl rfl (by first | rfl | omega) hS9.sl (by decide) rfl ?_
      intro ib15 io15 hc15
      refine Wl_loadc isAgg32 rfl hc15 ?_
      refine Was (.int .i64 1) ?_
      refine Was (.slice jb9 kb9 qb9) ?_
      refine Wl_nil (W_seq (W_region ?_))
      refine Wmv (.slice a n c) ?_
      refine Wmv (.slice jb9 kb9 qb9) ?_
      refine Wmv (.int .i64 1) ?_
      refine Wl_v (r_idxa (len := 4) (i' := 1) (o' := 1) underlying65 sizeOf3 rfl rfl (by omega) (by omega) (by omega)) ?_
      refine Wl_load (v := .int .i64 ((nn + 3) / 4)) isAgg3 rfl hb6 rfl ?_
      refine Wl_call (r_call3 rfl call80 rfl rfl rfl) (odec _ hs (by omega) hOb9.sl.any (gby_byt hb _ _) (by omega) (by omega)) ?_
      rintro v w16 ⟨a16, m16, c16, rfl, hO16, hU16⟩
      have hzw16 := hU16.size
      replace hs := hs.upd0 hU16
      replace hb1 := hb1.upd0 hU16
      replace hb6 := hb6.upd0 hU16
      replace hS9 := hS9.upd0 hU16
      replace hOc9 := hOc9.upd0 hU16
      replace hOd9 := hOd9.upd0 hU16
      replace HR := HR.trans0 hU16
      replace hO16 := hO16.tight
      have hl_hO16 := ilen hO16.sl
      have hc_hO16 := hO16.sl.cap.1
      have hdl16 := dcF_len (l := l) (b := (gbytes b (gbytes b (gnum b (gnum b (gnum b 0 131072).2.1 131072).2.1 131072).2.1 (gnum b 0 131072).1).2.1 (gnum b (gnum b 0 131072).2.1 131072).1).1) (gby_byt hb _ _) ((nn + 3) / 4)
      refine Wmv (.tuple #[.slice a16 m16 c16, .int .i64 ((dcF l ((gbytes b (gbytes b (gnum b (gnum b (gnum b 0 131072).2.1 131072).2.1 131072).2.1 (gnum b 0 131072).1).2.1 (gnum b (gnum b 0 131072).2.1 131072).1).1) ((nn + 3) / 4)).2)]) ?_
      refine Wl_v (r_ext (v := .slice a16 m16 c16) rfl rfl) ?_
      refine Wl_v (r_ext (v := .int .i64 ((dcF l ((gbytes b (gbytes b (gnum b (gnum b (gnum b 0 131072).2.1 131072).2.1 131072).2.1 (gnum b 0 131072).1).2.1 (gnum b (gnum b 0 131072).2.1 131072).1).1) ((nn + 3) / 4)).2)) rfl rfl) ?_
      refine Was (.slice a16 m16 c16) ?_
      refine Was (.int .i64 ((dcF l ((gbytes b (gbytes b (gnum b (gnum b (gnum b 0 131072).2.1 131072).2.1 131072).2.1 (gnum b 0 131072).1).2.1 (gnum b (gnum b 0 131072).2.1 131072).1).1) ((nn + 3) / 4)).2)) ?_
      refine Wl_nil (W_seq (W_region ?_))
      refine Wmv (.int .i64 ((dcF l ((gbytes b (gbytes b (gnum b (gnum b (gnum b 0 131072).2.1 131072).2.1 131072).2.1 (gnum b 0 131072).1).2.1 (gnum b (gnum b 0 131072).2.1 131072).1).1) ((nn + 3) / 4)).2)) ?_
      refine Wl_lit (pv := [(0, .int .i64 ((dcF l ((gbytes b (gbytes b (gnum b (gnum b (gnum b 0 131072).2.1 131072).2.1 131072).2.1 (gnum b 0 131072).1).2.1 (gnum b (gnum b 0 131072).2.1 131072).1).1) ((nn + 3) / 4)).2))]) (cs := [.int .i64 ((dcF l ((gbytes b (gbytes b (gnum b (gnum b (gnum b 0 131072).2.1 131072).2.1 131072).2.1 (gnum b 0 131072).1).2.1 (gnum b (gnum b 0 131072).2.1 131072).1).1) ((nn + 3) / 4)).2)]) underlying112 sizeOf23 zeroValue23 (by decide) (by decide) (by simp only [List.map_toArray, List.map_cons, List.map_nil] <;> rfl) (by kernel_rfl) rfl (by decide) ?_
      intro B17 w17 hB17 hU17 hzz17 hs17
      have hzw17 := hU17.size
      replace hs := hs.upd0 hU17
      replace hb1 := hb1.upd0 hU17
      replace hb6 := hb6.upd0 hU17
      replace hS9 := hS9.upd0 hU17
      replace hOc9 := hOc9.upd0 hU17
      replace hOd9 := hOd9.upd0 hU17
      replace HR := HR.trans0 hU17
      replace hO16 := hO16.upd0 hU17
      replace hs17 : Own w17 (Is B17) 23 1 (.slice (some ⟨B17, 0, none⟩) 1 1) 1 (ints .i64 [(dcF l ((gbytes b (gbytes b (gnum b (gnum b (gnum b 0 131072).2.1 131072).2.1 131072).2.1 (gnum b 0 131072).1).2.1 (gnum b (gnum b 0 131072).2.1 131072).1).1) ((nn + 3) / 4)).2]) := hs17
      by_cases q5 : ((dcF l ((gbytes b (gbytes b (gnum b (gnum b (gnum b 0 131072).2.1 131072).2.1 131072).2.1 (gnum b 0 131072).1).2.1 (gnum b (gnum b 0 131072).2.1 131072).1).1) ((nn + 3) / 4)).2) = 0
      ·refine Wl_call (r_call1 rfl call38 rfl) (fmust_ok (er := (dcF l ((gbytes b (gbytes b (gnum b (gnum b (gnum b 0 131072).2.1 131072).2.1 131072).2.1 (gnum b 0 131072).1).2.1 (gnum b (gnum b 0 131072).2.1 131072).1).1) ((nn + 3) / 4)).2) _ hs17.sl.any q5) ?_
       rintro v w18 ⟨rfl, hU18⟩
       have hzw18 := hU18.size
       replace hs := hs.upd0 hU18
       replace hb1 := hb1.upd0 hU18
       replace hb6 := hb6.upd0 hU18
       replace hS9 := hS9.upd0 hU18
       replace hOc9 := hOc9.upd0 hU18
       replace hOd9 := hOd9.upd0 hU18
       replace HR := HR.trans0 hU18
       replace hO16 := hO16.upd0 hU18
       refine Wl_nil (W_seq (W_region ?_))
       refine Wmv (.func (.yield ly) #[] #[]) ?_
       refine Wmv (.int .i64 1) ?_
       refine Wmv (.slice a16 m16 c16) ?_
       refine Wl_yield2 rfl rfl rfl (hy 1 _ (nE_g2 ((hdF_e (l := l) (b := b) (n := nn) q1 q2).trans q3) q4 q5) (hJS _ _ _ hJ0 HR) _ _ _ (hO16.sl.weak (by intro g hg; have h3 : ((w14.heap.size ≤ g) ∧ g < w16.heap.size) := hg; show w.heap.size ≤ g; omega))) ?_ ?_
       ·rintro w19 ⟨hU19, hJn⟩
        have hzy19 := hU19.size
        replace hs := hs.upd hU19 (fun g hg => hSR g hg.1)
        replace hb1 := hb1.upd hU19 (fun h => hSf _ (by omega) h)
        replace hb6 := hb6.upd hU19 (fun h => hSf _ (by omega) h)
        replace hS9 := hS9.upd hU19 (fun g hg => hSf g (by have h3 : ((w8.heap.size ≤ g) ∧ g < w9.heap.size) := hg; omega))
        replace hOc9 := hOc9.upd hU19 (fun g hg => hSf g (by have h3 : ((w8.heap.size ≤ g) ∧ g < w9.heap.size) := hg; omega))
        replace hOd9 := hOd9.upd hU19 (fun g hg => hSf g (by have h3 : ((w8.heap.size ≤ g) ∧ g < w9.heap.size) := hg; omega))
        have HR : Upd (fun g => w.heap.size ≤ g) w19 w19 := Upd.refl _ _
        replace hJ0 := hJn
        refine Wl_v (r_not (b := true) rfl) ?_
        refine Wl_nil ?_
        refine W_cond_f rfl ?_
        refine W_skip (W_region ?_)
        refine Wl_v (r_add rfl rfl (show _ = (2 : Int) from by decide)) ?_
        refine Wmv (.int .i64 2) ?_
        refine Wl_nil ?_
        refine unrK_succ ?_
        refine W_seq (W_region ?_)
        refine Wl_v (v := .bool true) (r_lt (a := 2) (b := 4) rfl rfl) ?_
        refine Wl_nil (W_seq ?_)
        refine W_cond_t rfl ?_
        refine W_skip (W_seq (W_block (W_seq (W_region ?_))))
        refine Wmv (.int .i64 2) ?_
        refine Wl_idxc (i' := 2) (v := .slice jc9 kc9 qc9) underlying41 sizeOf32 rfl rfl (by first | rfl | omega) hS9.sl (by decide) rfl ?_
        intro ib20 io20 hc20
        refine Wl_loadc isAgg32 rfl hc20 ?_
        refine Was (.int .i64 2) ?_
        refine Was (.slice jc9 kc9 qc9) ?_
        refine Wl_nil (W_seq (W_region ?_))
        refine Wmv (.slice a n c) ?_
        refine Wmv (.slice jc9 kc9 qc9) ?_
        refine Wmv (.int .i64 2) ?_
        refine Wl_v (r_idxa (len := 4) (i' := 2) (o' := 2) underlying65 sizeOf3 rfl rfl (by omega) (by omega) (by omega)) ?_
        refine Wl_load (v := .int .i64 ((nn + 3) / 4)) isAgg3 rfl hb6 rfl ?_
        refine Wl_call (r_call3 rfl call80 rfl rfl rfl) (odec _ hs (by omega) hOc9.sl.any (gby_byt hb _ _) (by omega) (by omega)) ?_
        rintro v w21 ⟨a21, m21, c21, rfl, hO21, hU21⟩
        have hzw21 := hU21.size
        replace hs := hs.upd0 hU21
        replace hb1 := hb1.upd0 hU21
        replace hb6 := hb6.upd0 hU21
        replace hS9 := hS9.upd0 hU21
        replace hOd9 := hOd9.upd0 hU21
        replace HR := HR.trans0 hU21
        replace hO21 := hO21.tight
        have hl_hO21 := ilen hO21.sl
        have hc_hO21 := hO21.sl.cap.1
        have hdl21 := dcF_len (l := l) (b := (gbytes b (gbytes b (gbytes b (gnum b (gnum b (gnum b 0 131072).2.1 131072).2.1 131072).2.1 (gnum b 0 131072).1).2.1 (gnum b (gnum b 0 131072).2.1 131072).1).2.1 (gnum b (gnum b (gnum b 0 131072).2.1 131072).2.1 131072).1).1) (gby_byt hb _ _) ((nn + 3) / 4)
        refine Wmv (.tuple #[.slice a21 m21 c21, .int .i64 ((dcF l ((gbytes b (gbytes b (gbytes b (gnum b (gnum b (gnum b 0 131072).2.1 131072).2.1 131072).2.1 (gnum b 0 131072).1).2.1 (gnum b (gnum b 0 131072).2.1 131072).1).2.1 (gnum b (gnum b (gnum b 0 131072).2.1 131072).2.1 131072).1).1) ((nn + 3) / 4)).2)]) ?_
        refine Wl_v (r_ext (v := .slice a21 m21 c21) rfl rfl) ?_
        refine Wl_v (r_ext (v := .int .i64 ((dcF l ((gbytes b (gbytes b (gbytes b (gnum b (gnum b (gnum b 0 131072).2.1 131072).2.1 131072).2.1 (gnum b 0 131072).1).2.1 (gnum b (gnum b 0 131072).2.1 131072).1).2.1 (gnum b (gnum b (gnum b 0 131072).2.1 131072).2.1 131072).1).1) ((nn + 3) / 4)).2)) rfl rfl) ?_
        refine Was (.slice a21 m21 c21) ?_
        refine Was (.int .i64 ((dcF l ((gbytes b (gbytes b (gbytes b (gnum b (gnum b (gnum b 0 131072).2.1 131072).2.1 131072).2.1 (gnum b 0 131072).1).2.1 (gnum b (gnum b 0 131072).2.1 131072).1).2.1 (gnum b (gnum b (gnum b 0 131072).2.1 131072).2.1 131072).1).1) ((nn + 3) / 4)).2)) ?_
        refine Wl_nil (W_seq (W_region ?_))
        refine Wmv (.int .i64 ((dcF l ((gbytes b (gbytes b (gbytes b (gnum b (gnum b (gnum b 0 131072).2.1 131072).2.1 131072).2.1 (gnum b 0 131072).1).2.1 (gnum b (gnum b 0 131072).2.1 131072).1).2.1 (gnum b (gnum b (gnum b 0 131072).2.1 131072).2.1 131072).1).1) ((nn + 3) / 4)).2)) ?_
        refine Wl_lit (pv := [(0, .int .i64 ((dcF l ((gbytes b (gbytes b (gbytes b (gnum b (gnum b (gnum b 0 131072).2.1 131072).2.1 131072).2.1 (gnum b 0 131072).1).2.1 (gnum b (gnum b 0 131072).2.1 131072).1).2.1 (gnum b (gnum b (gnum b 0 131072).2.1 131072).2.1 131072).1).1) ((nn + 3) / 4)).2))]) (cs := [.int .i64 ((dcF l ((gbytes b (gbytes b (gbytes b (gnum b (gnum b (gnum b 0 131072).2.1 131072).2.1 131072).2.1 (gnum b 0 131072).1).2.1 (gnum b (gnum b 0 131072).2.1 131072).1).2.1 (gnum b (gnum b (gnum b 0 131072).2.1 131072).2.1 131072).1).1) ((nn + 3) / 4)).2)]) underlying112 sizeOf23 zeroValue23 (by decide) (by decide) (by simp only [List.map_toArray, List.map_cons, List.map_nil] <;> rfl) (by kernel_rfl) rfl (by decide) ?_
        intro B22 w22 hB22 hU22 hzz22 hs22
        have hzw22 := hU22.size
        replace hs := hs.upd0 hU22
        replace hb1 := hb1.upd0 hU22
        replace hb6 := hb6.upd0 hU22
        replace hS9 := hS9.upd0 hU22
        replace hOd9 := hOd9.upd0 hU22
        replace HR := HR.trans0 hU22
        replace hO21 := hO21.upd0 hU22
        replace hs22 : Own w22 (Is B22) 23 1 (.slice (some ⟨B22, 0, none⟩) 1 1) 1 (ints .i64 [(dcF l ((gbytes b (gbytes b (gbytes b (gnum b (gnum b (gnum b 0 131072).2.1 131072).2.1 131072).2.1 (gnum b 0 131072).1).2.1 (gnum b (gnum b 0 131072).2.1 131072).1).2.1 (gnum b (gnum b (gnum b 0 131072).2.1 131072).2.1 131072).1).1) ((nn + 3) / 4)).2]) := hs22
        by_cases q6 : ((dcF l ((gbytes b (gbytes b (gbytes b (gnum b (gnum b (gnum b 0 131072).2.1 131072).2.1 131072).2.1 (gnum b 0 131072).1).2.1 (gnum b (gnum b 0 131072).2.1 131072).1).2.1 (gnum b (gnum b (gnum b 0 131072).2.1 131072).2.1 131072).1).1) ((nn + 3) / 4)).2) = 0
        ·refine Wl_call (r_call1 rfl call38 rfl) (fmust_ok (er := (dcF l ((gbytes b (gbytes b (gbytes b (gnum b (gnum b (gnum b 0 131072).2.1 131072).2.1 131072).2.1 (gnum b 0 131072).1).2.1 (gnum b (gnum b 0 131072).2.1 131072).1).2.1 (gnum b (gnum b (gnum b 0 131072).2.1 131072).2.1 131072).1).1) ((nn + 3) / 4)).2) _ hs22.sl.any q6) ?_
         rintro v w23 ⟨rfl, hU23⟩
         have hzw23 := hU23.size
         replace hs := hs.upd0 hU23
         replace hb1 := hb1.upd0 hU23
         replace hb6 := hb6.upd0 hU23
         replace hS9 := hS9.upd0 hU23
         replace hOd9 := hOd9.upd0 hU23
         replace HR := HR.trans0 hU23
         replace hO21 := hO21.upd0 hU23
         refine Wl_nil (W_seq (W_region ?_))
         refine Wmv (.func (.yield ly) #[] #[]) ?_
         refine Wmv (.int .i64 2) ?_
         refine Wmv (.slice a21 m21 c21) ?_
         refine Wl_yield2 rfl rfl rfl (hy 2 _ (nE_g3 ((hdF_e (l := l) (b := b) (n := nn) q1 q2).trans q3) q4 q5 q6) (hJS _ _ _ hJ0 HR) _ _ _ (hO21.sl.weak (by intro g hg; have h3 : ((w19.heap.size ≤ g) ∧ g < w21.heap.size) := hg; show w.heap.size ≤ g; omega))) ?_ ?_
         ·rintro w24 ⟨hU24, hJn⟩
          have hzy24 := hU24.size
          replace hs := hs.upd hU24 (fun g hg => hSR g hg.1)
          replace hb1 := hb1.upd hU24 (fun h => hSf _ (by omega) h)
          replace hb6 := hb6.upd hU24 (fun h => hSf _ (by omega) h)
          replace hS9 := hS9.upd hU24 (fun g hg => hSf g (by have h3 : ((w8.heap.size ≤ g) ∧ g < w9.heap.size) := hg; omega))
          replace hOd9 := hOd9.upd hU24 (fun g hg => hSf g (by have h3 : ((w8.heap.size ≤ g) ∧ g < w9.heap.size) := hg; omega))
          have HR : Upd (fun g => w.heap.size ≤ g) w24 w24 := Upd.refl _ _
          replace hJ0 := hJn
          refine Wl_v (r_not (b := true) rfl) ?_
          refine Wl_nil ?_
          refine W_cond_f rfl ?_
          refine W_skip (W_region ?_)
          refine Wl_v (r_add rfl rfl (show _ = (3 : Int) from by decide)) ?_
          refine Wmv (.int .i64 3) ?_
          refine Wl_nil ?_
          refine unrK_succ ?_
          refine W_seq (W_region ?_)
          refine Wl_v (v := .bool true) (r_lt (a := 3) (b := 4) rfl rfl) ?_
          refine Wl_nil (W_seq ?_)
          refine W_cond_t rfl ?_
          refine W_skip (W_seq (W_block (W_seq (W_region ?_))))
          refine Wmv (.int .i64 3) ?_
          refine Wl_idxc (i' := 3) (v := .slice jd9 kd9 qd9) underlying41 sizeOf32 rfl rfl (by first | rfl | omega) hS9.sl (by decide) rfl ?_
          intro ib25 io25 hc25
          refine Wl_loadc isAgg32 rfl hc25 ?_
          refine Was (.int .i64 3) ?_
          refine Was (.slice jd9 kd9 qd9) ?_
          refine Wl_nil (W_seq (W_region ?_))
          refine Wmv (.slice a n c) ?_
          refine Wmv (.slice jd9 kd9 qd9) ?_
          refine Wmv (.int .i64 3) ?_
          refine Wl_v (r_idxa (len := 4) (i' := 3) (o' := 3) underlying65 sizeOf3 rfl rfl (by omega) (by omega) (by omega)) ?_
          refine Wl_load (v := .int .i64 (nn - 3 * ((nn + 3) / 4))) isAgg3 rfl hb6 rfl ?_
          refine Wl_call (r_call3 rfl call80 rfl rfl rfl) (odec _ hs (by omega) hOd9.sl.any (hb.drop _) (by omega) (by omega)) ?_
          rintro v w26 ⟨a26, m26, c26, rfl, hO26, hU26⟩
          have hzw26 := hU26.size
          replace hb1 := hb1.upd0 hU26
          replace HR := HR.trans0 hU26
          replace hO26 := hO26.tight
          have hl_hO26 := ilen hO26.sl
          have hc_hO26 := hO26.sl.cap.1
          have hdl26 := dcF_len (l := l) (b := b.drop (gbytes b (gbytes b (gbytes b (gnum b (gnum b (gnum b 0 131072).2.1 131072).2.1 131072).2.1 (gnum b 0 131072).1).2.1 (gnum b (gnum b 0 131072).2.1 131072).1).2.1 (gnum b (gnum b (gnum b 0 131072).2.1 131072).2.1 131072).1).2.1) (hb.drop _) (nn - 3 * ((nn + 3) / 4))
          refine Wmv (.tuple #[.slice a26 m26 c26, .int .i64 ((dcF l (b.drop (gbytes b (gbytes b (gbytes b (gnum b (gnum b (gnum b 0 131072).2.1 131072).2.1 131072).2.1 (gnum b 0 131072).1).2.1 (gnum b (gnum b 0 131072).2.1 131072).1).2.1 (gnum b (gnum b (gnum b 0 131072).2.1 131072).2.1 131072).1).2.1) (nn - 3 * ((nn + 3) / 4))).2)]) ?_
          refine Wl_v (r_ext (v := .slice a26 m26 c26) rfl rfl) ?_
          refine Wl_v (r_ext (v := .int .i64 ((dcF l (b.drop (gbytes b (gbytes b (gbytes b (gnum b (gnum b (gnum b 0 131072).2.1 131072).2.1 131072).2.1 (gnum b 0 131072).1).2.1 (gnum b (gnum b 0 131072).2.1 131072).1).2.1 (gnum b (gnum b (gnum b 0 131072).2.1 131072).2.1 131072).1).2.1) (nn - 3 * ((nn + 3) / 4))).2)) rfl rfl) ?_
          refine Was (.slice a26 m26 c26) ?_
          refine Was (.int .i64 ((dcF l (b.drop (gbytes b (gbytes b (gbytes b (gnum b (gnum b (gnum b 0 131072).2.1 131072).2.1 131072).2.1 (gnum b 0 131072).1).2.1 (gnum b (gnum b 0 131072).2.1 131072).1).2.1 (gnum b (gnum b (gnum b 0 131072).2.1 131072).2.1 131072).1).2.1) (nn - 3 * ((nn + 3) / 4))).2)) ?_
          refine Wl_nil (W_seq (W_region ?_))
          refine Wmv (.int .i64 ((dcF l (b.drop (gbytes b (gbytes b (gbytes b (gnum b (gnum b (gnum b 0 131072).2.1 131072).2.1 131072).2.1 (gnum b 0 131072).1).2.1 (gnum b (gnum b 0 131072).2.1 131072).1).2.1 (gnum b (gnum b (gnum b 0 131072).2.1 131072).2.1 131072).1).2.1) (nn - 3 * ((nn + 3) / 4))).2)) ?_
          refine Wl_lit (pv := [(0, .int .i64 ((dcF l (b.drop (gbytes b (gbytes b (gbytes b (gnum b (gnum b (gnum b 0 131072).2.1 131072).2.1 131072).2.1 (gnum b 0 131072).1).2.1 (gnum b (gnum b 0 131072).2.1 131072).1).2.1 (gnum b (gnum b (gnum b 0 131072).2.1 131072).2.1 131072).1).2.1) (nn - 3 * ((nn + 3) / 4))).2))]) (cs := [.int .i64 ((dcF l (b.drop (gbytes b (gbytes b (gbytes b (gnum b (gnum b (gnum b 0 131072).2.1 131072).2.1 131072).2.1 (gnum b 0 131072).1).2.1 (gnum b (gnum b 0 131072).2.1 131072).1).2.1 (gnum b (gnum b (gnum b 0 131072).2.1 131072).2.1 131072).1).2.1) (nn - 3 * ((nn + 3) / 4))).2)]) underlying112 sizeOf23 zeroValue23 (by decide) (by decide) (by simp only [List.map_toArray, List.map_cons, List.map_nil] <;> rfl) (by kernel_rfl) rfl (by decide) ?_
          intro B27 w27 hB27 hU27 hzz27 hs27
          have hzw27 := hU27.size
          replace hb1 := hb1.upd0 hU27
          replace HR := HR.trans0 hU27
          replace hO26 := hO26.upd0 hU27
          replace hs27 : Own w27 (Is B27) 23 1 (.slice (some ⟨B27, 0, none⟩) 1 1) 1 (ints .i64 [(dcF l (b.drop (gbytes b (gbytes b (gbytes b (gnum b (gnum b (gnum b 0 131072).2.1 131072).2.1 131072).2.1 (gnum b 0 131072).1).2.1 (gnum b (gnum b 0 131072).2.1 131072).1).2.1 (gnum b (gnum b (gnum b 0 131072).2.1 131072).2.1 131072).1).2.1) (nn - 3 * ((nn + 3) / 4))).2]) := hs27
          by_cases q7 : ((dcF l (b.drop (gbytes b (gbytes b (gbytes b (gnum b (gnum b (gnum b 0 131072).2.1 131072).2.1 131072).2.1 (gnum b 0 131072).1).2.1 (gnum b (gnum b 0 131072).2.1 131072).1).2.1 (gnum b (gnum b (gnum b 0 131072).2.1 131072).2.1 131072).1).2.1) (nn - 3 * ((nn + 3) / 4))).2) = 0
          ·refine Wl_call (r_call1 rfl call38 rfl) (fmust_ok (er := (dcF l (b.drop (gbytes b (gbytes b (gbytes b (gnum b (gnum b (gnum b 0 131072).2.1 131072).2.1 131072).2.1 (gnum b 0 131072).1).2.1 (gnum b (gnum b 0 131072).2.1 131072).1).2.1 (gnum b (gnum b (gnum b 0 131072).2.1 131072).2.1 131072).1).2.1) (nn - 3 * ((nn + 3) / 4))).2) _ hs27.sl.any q7) ?_
           rintro v w28 ⟨rfl, hU28⟩
           have hzw28 := hU28.size
           replace hb1 := hb1.upd0 hU28
           replace HR := HR.trans0 hU28
           replace hO26 := hO26.upd0 hU28
           refine Wl_nil (W_seq (W_region ?_))
           refine Wmv (.func (.yield ly) #[] #[]) ?_
           refine Wmv (.int .i64 3) ?_
           refine Wmv (.slice a26 m26 c26) ?_
           refine Wl_yield2 rfl rfl rfl (hy 3 _ (nE_g4 ((hdF_e (l := l) (b := b) (n := nn) q1 q2).trans q3) q4 q5 q6 q7) (hJS _ _ _ hJ0 HR) _ _ _ (hO26.sl.weak (by intro g hg; have h3 : ((w24.heap.size ≤ g) ∧ g < w26.heap.size) := hg; show w.heap.size ≤ g; omega))) ?_ ?_
           ·rintro w29 ⟨hU29, hJn⟩
            have hzy29 := hU29.size
            replace hb1 := hb1.upd hU29 (fun h => hSf _ (by omega) h)
            have HR : Upd (fun g => w.heap.size ≤ g) w29 w29 := Upd.refl _ _
            replace hJ0 := hJn
            refine Wl_v (r_not (b := true) rfl) ?_
            refine Wl_nil ?_
            refine W_cond_f rfl ?_
            refine W_skip (W_region ?_)
            refine Wl_v (r_add rfl rfl (show _ = (4 : Int) from by decide)) ?_
            refine Wmv (.int .i64 4) ?_
            refine Wl_nil ?_
            refine unrK_succ ?_
            refine W_seq (W_region ?_)
            refine Wl_v (v := .bool false) (r_lt (a := 4) (b := 4) rfl rfl) ?_
            refine Wl_nil (W_seq ?_)
            refine W_cond_f rfl ?_
            refine W_exit ?_
            refine W_seq (W_region ?_)
            refine Wl_store (v := .int .i64 0) (cs' := [.int .i64 0]) sizeOf23 rfl rfl rfl rfl hb1 rfl rfl ?_
            intro w30 hU30 hzz30 hb1n
            replace hb1 := hb1n; clear hb1n
            have hzw30 := hU30.size
            replace HR := HR.trans1 hU30 (by show (w.heap.size ≤ B1) ∨ w29.heap.size ≤ B1; omega)
            refine Wl_nil ?_
            refine W_ret ?_
            refine ret_ds rfl ?_
            refine lv_call (by simp) call33 rfl (fcaught_ret _) ?_
            rintro e1 u1 w31 ⟨rfl, v1, rfl, rfl, hU31⟩
            have hzw31 := hU31.size
            replace hb1 := hb1.upd0 hU31
            replace HR := HR.trans0 hU31
            refine lv_nil (v := .int .i64 0) (rc1 results49 rfl (cellIs isAgg23 hb1)) ?_
            have hN : nE l b nn = 4 := nE_ok ((hdF_e (l := l) (b := b) (n := nn) q1 q2).trans q3) q4 q5 q6 q7
            exact ⟨_, rfl, Or.inl (by rw [hN]; exact hJS _ _ _ hJ0 HR)⟩
           rintro w32 ⟨hU32, hJx⟩
           have hzy32 := hU32.size
           replace hb1 := hb1.upd hU32 (fun h => hSf _ (by omega) h)
           have HR : Upd (fun g => w.heap.size ≤ g) w32 w32 := Upd.refl _ _
           refine Wl_v (r_not (b := false) rfl) ?_
           refine Wl_nil ?_
           refine W_cond_t rfl ?_
           refine W_exit ?_
           refine W_seq (W_region ?_)
           refine Wl_store (v := .int .i64 0) (cs' := [.int .i64 0]) sizeOf23 rfl rfl rfl rfl hb1 rfl rfl ?_
           intro w33 hU33 hzz33 hb1n
           replace hb1 := hb1n; clear hb1n
           have hzw33 := hU33.size
           replace HR := HR.trans1 hU33 (by show (w.heap.size ≤ B1) ∨ w32.heap.size ≤ B1; omega)
           refine Wl_nil ?_
           refine W_ret ?_
           refine ret_ds rfl ?_
           refine lv_call (by simp) call33 rfl (fcaught_ret _) ?_
           rintro e1 u1 w34 ⟨rfl, v1, rfl, rfl, hU34⟩
           have hzw34 := hU34.size
           replace hb1 := hb1.upd0 hU34
           replace HR := HR.trans0 hU34
           refine lv_nil (v := .int .i64 0) (rc1 results49 rfl (cellIs isAgg23 hb1)) ?_
           exact ⟨_, rfl, Or.inr (hJX _ _ hJx HR)⟩
          refine Wl_callp (r_call1 rfl call38 rfl) (fmust_no (er := (dcF l (b.drop (gbytes b (gbytes b (gbytes b (gnum b (gnum b (gnum b 0 131072).2.1 131072).2.1 131072).2.1 (gnum b 0 131072).1).2.1 (gnum b (gnum b 0 131072).2.1 131072).1).2.1 (gnum b (gnum b (gnum b 0 131072).2.1 131072).2.1 131072).1).2.1) (nn - 3 * ((nn + 3) / 4))).2) _ hs27.sl.any q7) ?_
          intro w35 hU35
          have hzw35 := hU35.size
          replace hb1 := hb1.upd0 hU35
          replace HR := HR.trans0 hU35
          refine pan_ds rfl ?_
          refine lv_call (by simp) call33 rfl (fcaught_pan (S := fun g => False) (Φ := fun w' => True) _ hb1 call79 (by show ¬ (False); first | omega | exact fun h => h) (fgoes_clr _)) ?_
          rintro e1 u1 w36 ⟨rfl, v1, rfl, rfl, wq36, _, hUa36, hUb36, hbe36⟩
          have hzwq36 := hUa36.size
          replace HR := HR.trans0 hUa36
          have hzw36 := hUb36.size
          replace HR := HR.trans1 hUb36 (by show (w.heap.size ≤ B1) ∨ w24.heap.size ≤ B1; omega)
          refine lv_nil (v := .int .i64 ((dcF l (b.drop (gbytes b (gbytes b (gbytes b (gnum b (gnum b (gnum b 0 131072).2.1 131072).2.1 131072).2.1 (gnum b 0 131072).1).2.1 (gnum b (gnum b 0 131072).2.1 131072).1).2.1 (gnum b (gnum b (gnum b 0 131072).2.1 131072).2.1 131072).1).2.1) (nn - 3 * ((nn + 3) / 4))).2)) (rc1 results49 rfl (cellIs isAgg23 hbe36)) ?_
          have hN : nE l b nn = 3 := nE_4 ((hdF_e (l := l) (b := b) (n := nn) q1 q2).trans q3) q4 q5 q6 q7
          exact ⟨_, rfl, Or.inl (by rw [hN]; exact hJS _ _ _ hJ0 HR)⟩
         rintro w37 ⟨hU37, hJx⟩
         have hzy37 := hU37.size
         replace hb1 := hb1.upd hU37 (fun h => hSf _ (by omega) h)
         have HR : Upd (fun g => w.heap.size ≤ g) w37 w37 := Upd.refl _ _
         refine Wl_v (r_not (b := false) rfl) ?_
         refine Wl_nil ?_
         refine W_cond_t rfl ?_
         refine W_exit ?_
         refine W_seq (W_region ?_)
         refine Wl_store (v := .int .i64 0) (cs' := [.int .i64 0]) sizeOf23 rfl rfl rfl rfl hb1 rfl rfl ?_
         intro w38 hU38 hzz38 hb1n
         replace hb1 := hb1n; clear hb1n
         have hzw38 := hU38.size
         replace HR := HR.trans1 hU38 (by show (w.heap.size ≤ B1) ∨ w37.heap.size ≤ B1; omega)
         refine Wl_nil ?_
         refine W_ret ?_
         refine ret_ds rfl ?_
         refine lv_call (by simp) call33 rfl (fcaught_ret _) ?_
         rintro e1 u1 w39 ⟨rfl, v1, rfl, rfl, hU39⟩
         have hzw39 := hU39.size
         replace hb1 := hb1.upd0 hU39
         replace HR := HR.trans0 hU39
         refine lv_nil (v := .int .i64 0) (rc1 results49 rfl (cellIs isAgg23 hb1)) ?_
         exact ⟨_, rfl, Or.inr (hJX _ _ hJx HR)⟩
        refine Wl_callp (r_call1 rfl call38 rfl) (fmust_no (er := (dcF l ((gbytes b (gbytes b (gbytes b (gnum b (gnum b (gnum b 0 131072).2.1 131072).2.1 131072).2.1 (gnum b 0 131072).1).2.1 (gnum b (gnum b 0 131072).2.1 131072).1).2.1 (gnum b (gnum b (gnum b 0 131072).2.1 131072).2.1 131072).1).1) ((nn + 3) / 4)).2) _ hs22.sl.any q6) ?_
        intro w40 hU40
        have hzw40 := hU40.size
        replace hb1 := hb1.upd0 hU40
        replace HR := HR.trans0 hU40
        refine pan_ds rfl ?_
        refine lv_call (by simp) call33 rfl (fcaught_pan (S := fun g => False) (Φ := fun w' => True) _ hb1 call79 (by show ¬ (False); first | omega | exact fun h => h) (fgoes_clr _)) ?_
        rintro e1 u1 w41 ⟨rfl, v1, rfl, rfl, wq41, _, hUa41, hUb41, hbe41⟩
        have hzwq41 := hUa41.size
        replace HR := HR.trans0 hUa41
        have hzw41 := hUb41.size
        replace HR := HR.trans1 hUb41 (by show (w.heap.size ≤ B1) ∨ w19.heap.size ≤ B1; omega)
        refine lv_nil (v := .int .i64 ((dcF l ((gbytes b (gbytes b (gbytes b (gnum b (gnum b (gnum b 0 131072).2.1 131072).2.1 131072).2.1 (gnum b 0 131072).1).2.1 (gnum b (gnum b 0 131072).2.1 131072).1).2.1 (gnum b (gnum b (gnum b 0 131072).2.1 131072).2.1 131072).1).1) ((nn + 3) / 4)).2)) (rc1 results49 rfl (cellIs isAgg23 hbe41)) ?_
        have hN : nE l b nn = 2 := nE_3 ((hdF_e (l := l) (b := b) (n := nn) q1 q2).trans q3) q4 q5 q6
        exact ⟨_, rfl, Or.inl (by rw [hN]; exact hJS _ _ _ hJ0 HR)⟩
       rintro w42 ⟨hU42, hJx⟩
       have hzy42 := hU42.size
       replace hb1 := hb1.upd hU42 (fun h => hSf _ (by omega) h)
       have HR : Upd (fun g => w.heap.size ≤ g) w42 w42 := Upd.refl _ _
       refine Wl_v (r_not (b := false) rfl) ?_
       refine Wl_nil ?_
       refine W_cond_t rfl ?_
       refine W_exit ?_
       refine W_seq (W_region ?_)
       refine Wl_store (v := .int .i64 0) (cs' := [.int .i64 0]) sizeOf23 rfl rfl rfl rfl hb1 rfl rfl ?_
       intro w43 hU43 hzz43 hb1n
       replace hb1 := hb1n; clear hb1n
       have hzw43 := hU43.size
       replace HR := HR.trans1 hU43 (by show (w.heap.size ≤ B1) ∨ w42.heap.size ≤ B1; omega)
       refine Wl_nil ?_
       refine W_ret ?_
       refine ret_ds rfl ?_
       refine lv_call (by simp) call33 rfl (fcaught_ret _) ?_
       rintro e1 u1 w44 ⟨rfl, v1, rfl, rfl, hU44⟩
       have hzw44 := hU44.size
       replace hb1 := hb1.upd0 hU44
       replace HR := HR.trans0 hU44
       refine lv_nil (v := .int .i64 0) (rc1 results49 rfl (cellIs isAgg23 hb1)) ?_
       exact ⟨_, rfl, Or.inr (hJX _ _ hJx HR)⟩
      refine Wl_callp (r_call1 rfl call38 rfl) (fmust_no (er := (dcF l ((gbytes b (gbytes b (gnum b (gnum b (gnum b 0 131072).2.1 131072).2.1 131072).2.1 (gnum b 0 131072).1).2.1 (gnum b (gnum b 0 131072).2.1 131072).1).1) ((nn + 3) / 4)).2) _ hs17.sl.any q5) ?_
      intro w45 hU45
      have hzw45 := hU45.size
      replace hb1 := hb1.upd0 hU45
      replace HR := HR.trans0 hU45
      refine pan_ds rfl ?_
      refine lv_call (by simp) call33 rfl (fcaught_pan (S := fun g => False) (Φ := fun w' => True) _ hb1 call79 (by show ¬ (False); first | omega | exact fun h => h) (fgoes_clr _)) ?_
      rintro e1 u1 w46 ⟨rfl, v1, rfl, rfl, wq46, _, hUa46, hUb46, hbe46⟩
      have hzwq46 := hUa46.size
      replace HR := HR.trans0 hUa46
      have hzw46 := hUb46.size
      replace HR := HR.trans1 hUb46 (by show (w.heap.size ≤ B1) ∨ w14.heap.size ≤ B1; omega)
      refine lv_nil (v := .int .i64 ((dcF l ((gbytes b (gbytes b (gnum b (gnum b (gnum b 0 131072).2.1 131072).2.1 131072).2.1 (gnum b 0 131072).1).2.1 (gnum b (gnum b 0 131072).2.1 131072).1).1) ((nn + 3) / 4)).2)) (rc1 results49 rfl (cellIs isAgg23 hbe46)) ?_
      have hN : nE l b nn = 1 := nE_2 ((hdF_e (l := l) (b := b) (n := nn) q1 q2).trans q3) q4 q5
      exact ⟨_, rfl, Or.inl (by rw [hN]; exact hJS _ _ _ hJ0 HR)⟩
     rintro w47 ⟨hU47, hJx⟩
     have hzy47 := hU47.size
     replace hb1 := hb1.upd hU47 (fun h => hSf _ (by omega) h)
     have HR : Upd (fun g => w.heap.size ≤ g) w47 w47 := Upd.refl _ _
     refine Wl_v (r_not (b := false) rfl) ?_
     refine Wl_nil ?_
     refine W_cond_t rfl ?_
     refine W_exit ?_
     refine W_seq (W_region ?_)
     refine Wl_store (v := .int .i64 0) (cs' := [.int .i64 0]) sizeOf23 rfl rfl rfl rfl hb1 rfl rfl ?_
     intro w48 hU48 hzz48 hb1n
     replace hb1 := hb1n; clear hb1n
     have hzw48 := hU48.size
     replace HR := HR.trans1 hU48 (by show (w.heap.size ≤ B1) ∨ w47.heap.size ≤ B1; omega)
     refine Wl_nil ?_
     refine W_ret ?_
     refine ret_ds rfl ?_
     refine lv_call (by simp) call33 rfl (fcaught_ret _) ?_
     rintro e1 u1 w49 ⟨rfl, v1, rfl, rfl, hU49⟩
     have hzw49 := hU49.size
     replace hb1 := hb1.upd0 hU49
     replace HR := HR.trans0 hU49
     refine lv_nil (v := .int .i64 0) (rc1 results49 rfl (cellIs isAgg23 hb1)) ?_
     exact ⟨_, rfl, Or.inr (hJX _ _ hJx HR)⟩
    refine Wl_callp (r_call1 rfl call38 rfl) (fmust_no (er := (dcF l ((gbytes b (gnum b (gnum b (gnum b 0 131072).2.1 131072).2.1 131072).2.1 (gnum b 0 131072).1).1) ((nn + 3) / 4)).2) _ hs12.sl.any q4) ?_
    intro w50 hU50
    have hzw50 := hU50.size
    replace HR := HR.trans0 hU50
    replace hb1 := hb1.upd0 hU50
    refine pan_ds rfl ?_
    refine lv_call (by simp) call33 rfl (fcaught_pan (S := fun g => False) (Φ := fun w' => True) _ hb1 call79 (by show ¬ (False); first | omega | exact fun h => h) (fgoes_clr _)) ?_
    rintro e1 u1 w51 ⟨rfl, v1, rfl, rfl, wq51, _, hUa51, hUb51, hbe51⟩
    have hzwq51 := hUa51.size
    replace HR := HR.trans0 hUa51
    have hzw51 := hUb51.size
    replace HR := HR.trans1 hUb51 (by show (w.heap.size ≤ B1) ∨ w.heap.size ≤ B1; omega)
    refine lv_nil (v := .int .i64 ((dcF l ((gbytes b (gnum b (gnum b (gnum b 0 131072).2.1 131072).2.1 131072).2.1 (gnum b 0 131072).1).1) ((nn + 3) / 4)).2)) (rc1 results49 rfl (cellIs isAgg23 hbe51)) ?_
    have hN : nE l b nn = 0 := nE_1 ((hdF_e (l := l) (b := b) (n := nn) q1 q2).trans q3)  q4
    exact ⟨_, rfl, Or.inl (by rw [hN]; exact hJS _ _ _ hJ0 HR)⟩
   refine Wl_callp (r_call1 rfl call53 rfl) (strm_no _ hp8 (hO8.sl.cur (by intro h1; have h3 : ((w7.heap.size ≤ pb8 ∧ pb8 ≠ pb8) ∧ pb8 < w8.heap.size) := h1; first | omega | simp at h3)) hb (by omega) q3) ?_
   intro w52 hU52
   have hzw52 := hU52.size
   replace HR := HR.trans1 hU52 (by show (w.heap.size ≤ pb8) ∨ w.heap.size ≤ pb8; omega)
   replace hb1 := hb1.upd1 hU52 (by omega)
   refine pan_ds rfl ?_
   refine lv_call (by simp) call33 rfl (fcaught_pan (S := fun g => False) (Φ := fun w' => True) _ hb1 call79 (by show ¬ (False); first | omega | exact fun h => h) (fgoes_clr _)) ?_
   rintro e1 u1 w53 ⟨rfl, v1, rfl, rfl, wq53, _, hUa53, hUb53, hbe53⟩
   have hzwq53 := hUa53.size
   replace HR := HR.trans0 hUa53
   have hzw53 := hUb53.size
   replace HR := HR.trans1 hUb53 (by show (w.heap.size ≤ B1) ∨ w.heap.size ≤ B1; omega)
   refine lv_nil (v := .int .i64 (e4 b)) (rc1 results49 rfl (cellIs isAgg23 hbe53)) ?_
   have hN : nE l b nn = 0 := nE_h (by rw [hdF_e (l := l) (b := b) (n := nn) q1 q2]; exact q3)
   exact ⟨_, rfl, Or.inl (by rw [hN]; exact hJS _ _ _ hJ0 HR)⟩
  refine Wl_callp (r_call1 rfl call35 rfl) (parted_no (n := nn) _ q2) ?_
  intro w54 hU54
  have hzw54 := hU54.size
  replace HR := HR.trans0 hU54
  replace hb1 := hb1.upd0 hU54
  refine pan_ds rfl ?_
  refine lv_call (by simp) call33 rfl (fcaught_pan (S := fun g => False) (Φ := fun w' => True) _ hb1 call79 (by show ¬ (False); first | omega | exact fun h => h) (fgoes_clr _)) ?_
  rintro e1 u1 w55 ⟨rfl, v1, rfl, rfl, wq55, _, hUa55, hUb55, hbe55⟩
  have hzwq55 := hUa55.size
  replace HR := HR.trans0 hUa55
  have hzw55 := hUb55.size
  replace HR := HR.trans1 hUb55 (by show (w.heap.size ≤ B1) ∨ w.heap.size ≤ B1; omega)
  refine lv_nil (v := .int .i64 (paF nn)) (rc1 results49 rfl (cellIs isAgg23 hbe55)) ?_
  have hN : nE l b nn = 0 := nE_h (by rw [hdF_p (l := l) (b := b) (n := nn) q1 q2]; exact q2)
  exact ⟨_, rfl, Or.inl (by rw [hN]; exact hJS _ _ _ hJ0 HR)⟩
 refine Wl_call (r_call1 rfl call56 rfl) (check_no _ hs (by omega) q1) ?_
 rintro v w56 ⟨rfl, hU56⟩
 have hzw56 := hU56.size
 replace HR := HR.trans0 hU56
 replace hb1 := hb1.upd0 hU56
 refine Wl_lit (pv := [(0, .int .i64 12)]) (cs := [.int .i64 12]) underlying112 sizeOf23 zeroValue23 (by decide) (by decide) (by simp only [List.map_toArray, List.map_cons, List.map_nil] <;> rfl) (by kernel_rfl) rfl (by decide) ?_
 intro B57 w57 hB57 hU57 hzz57 hs57
 have hzw57 := hU57.size
 replace HR := HR.trans0 hU57
 replace hb1 := hb1.upd0 hU57
 replace hs57 : Own w57 (Is B57) 23 1 (.slice (some ⟨B57, 0, none⟩) 1 1) 1 (ints .i64 [12]) := hs57
 refine Wl_callp (r_call1 rfl call38 rfl) (fmust_no (er := 12) _ hs57.sl.any (by decide)) ?_
 intro w58 hU58
 have hzw58 := hU58.size
 replace HR := HR.trans0 hU58
 replace hb1 := hb1.upd0 hU58
 refine pan_ds rfl ?_
 refine lv_call (by simp) call33 rfl (fcaught_pan (S := fun g => False) (Φ := fun w' => True) _ hb1 call79 (by show ¬ (False); first | omega | exact fun h => h) (fgoes_clr _)) ?_
 rintro e1 u1 w59 ⟨rfl, v1, rfl, rfl, wq59, _, hUa59, hUb59, hbe59⟩
 have hzwq59 := hUa59.size
 replace HR := HR.trans0 hUa59
 have hzw59 := hUb59.size
 replace HR := HR.trans1 hUb59 (by show (w.heap.size ≤ B1) ∨ w.heap.size ≤ B1; omega)
 refine lv_nil (v := .int .i64 12) (rc1 results49 rfl (cellIs isAgg23 hbe59)) ?_
 have hN : nE l b nn = 0 := nE_h (by rw [hdF_r (l := l) (b := b) (n := nn) q1]; decide)
 exact ⟨_, rfl, Or.inl (by rw [hN]; exact hJS _ _ _ hJ0 HR)⟩
theorem dparts {a a2 : Option Addr} {n c m d : Nat} {l b : List Int} {nn : Int} (w : World) (hs : Sl w (fun g => g < w.heap.size) 1 (.slice a n c) n (ints .i64 l)) (hn : n ≤ 1000) (hsb : Sl w (fun g => g < w.heap.size) 1 (.slice a2 m d) m (ints .u8 b)) (hm : m ≤ 100000) :
  Calls Tryz.prog 32 #[.slice a n c, .slice a2 m d, .int .i64 nn] w (Ret fun v w' => ∃ (Bl : Nat) (Bb : Nat) (Bn : Nat) (a' : Option Addr) (c' : Nat) (e' : Option Addr) (f' : Nat), v = .func (.func 70) #[] #[.pointer (some ⟨Bl, 0, none⟩), .pointer (some ⟨Bb, 0, none⟩), .pointer (some ⟨Bn, 0, none⟩)] ∧ Blk w' Bl [.slice a' n c'] ∧ Blk w' Bb [.slice e' m f'] ∧ Blk w' Bn [.int .i64 nn] ∧ Own w' (fun g => w.heap.size ≤ g) 3 1 (.slice a' n c') n (ints .i64 l) ∧ Own w' (fun g => w.heap.size ≤ g) 5 1 (.slice e' m f') m (ints .u8 b) ∧ (w.heap.size ≤ Bl ∧ w.heap.size ≤ Bb ∧ w.heap.size ≤ Bn ∧ Bl ≠ Bb ∧ Bl ≠ Bn ∧ Bb ≠ Bn) ∧ Upd No w w') := by
 have HU := Upd.rno w
 have hl_hs := ilen hs
 have hc_hs := hs.cap.1
 have hl_hsb := ilen hsb
 have hc_hsb := hsb.cap.1
 refine calls_of_W func32 rfl ntmps32 (by simp) ?_
 refine W_seq (W_region ?_)
 refine Wl_box (v := .int .i64 nn) (cs := [.int .i64 nn]) rfl rfl ?_
 intro B1 w1 hB1 hU1 hzz1 hb1
 have hzw1 := hU1.size
 replace hs := hs.upd0 hU1
 replace hsb := hsb.upd0 hU1
 replace HU := HU.trans0 hU1
 refine Was (.nilFunc) ?_
 refine Wl_nil (W_seq (W_region ?_))
 refine Wmv (.slice a n c) ?_
 refine Wl_call (r_call1 rfl call68 rfl) (iclone _ hs.any (by omega)) ?_
 rintro v w2 ⟨a2x, c2, rfl, hO2, hU2⟩
 have hzw2 := hU2.size
 replace hsb := hsb.upd0 hU2
 replace HU := HU.trans0 hU2
 replace hb1 := hb1.upd0 hU2
 replace hO2 := hO2.tight
 have hl_hO2 := ilen hO2.sl
 have hc_hO2 := hO2.sl.cap.1
 refine Wmv (.slice a2 m d) ?_
 refine Wl_call (r_call1 rfl call69 rfl) (bclone _ hsb.any (by omega)) ?_
 rintro v w3 ⟨a3, c3, rfl, hO3, hU3⟩
 have hzw3 := hU3.size
 replace HU := HU.trans0 hU3
 replace hb1 := hb1.upd0 hU3
 replace hO2 := hO2.upd0 hU3
 replace hO3 := hO3.tight
 have hl_hO3 := ilen hO3.sl
 have hc_hO3 := hO3.sl.cap.1
 refine Wl_alloc (cs := [.slice none 0 0]) zeroValue22 rfl ?_
 intro B4 w4 hB4 hU4 hzz4 hb4
 have hzw4 := hU4.size
 replace HU := HU.trans0 hU4
 replace hb1 := hb1.upd0 hU4
 replace hO2 := hO2.upd0 hU4
 replace hO3 := hO3.upd0 hU4
 refine Wl_alloc (cs := [.slice none 0 0]) zeroValue32 rfl ?_
 intro B5 w5 hB5 hU5 hzz5 hb5
 have hzw5 := hU5.size
 replace HU := HU.trans0 hU5
 replace hb1 := hb1.upd0 hU5
 replace hO2 := hO2.upd0 hU5
 replace hO3 := hO3.upd0 hU5
 replace hb4 := hb4.upd0 hU5
 refine Wl_store (v := .slice a2x n c2) (cs' := [.slice a2x n c2]) sizeOf22 rfl rfl rfl rfl hb4 rfl rfl ?_
 intro w6 hU6 hzz6 hb4n
 replace hb4 := hb4n; clear hb4n
 have hzw6 := hU6.size
 replace HU := HU.t1 hU6 (by omega)
 replace hb1 := hb1.upd1 hU6 (by omega)
 replace hO2 := hO2.upd1 hU6 (show ¬ (((w1.heap.size ≤ B4) ∧ B4 < w2.heap.size)) by omega)
 replace hO3 := hO3.upd1 hU6 (show ¬ (((w2.heap.size ≤ B4) ∧ B4 < w3.heap.size)) by omega)
 replace hb5 := hb5.upd1 hU6 (by omega)
 refine Wl_store (v := .slice a3 m c3) (cs' := [.slice a3 m c3]) sizeOf32 rfl rfl rfl rfl hb5 rfl rfl ?_
 intro w7 hU7 hzz7 hb5n
 replace hb5 := hb5n; clear hb5n
 have hzw7 := hU7.size
 replace HU := HU.t1 hU7 (by omega)
 replace hb1 := hb1.upd1 hU7 (by omega)
 replace hO2 := hO2.upd1 hU7 (show ¬ (((w1.heap.size ≤ B5) ∧ B5 < w2.heap.size)) by omega)
 replace hO3 := hO3.upd1 hU7 (show ¬ (((w2.heap.size ≤ B5) ∧ B5 < w3.heap.size)) by omega)
 replace hb4 := hb4.upd1 hU7 (by omega)
 refine Wl_nil (W_seq (W_region ?_))
 refine Wl_v (r_mkf3 (v0 := .pointer (some ⟨B4, 0, none⟩)) (v1 := .pointer (some ⟨B5, 0, none⟩)) (v2 := .pointer (some ⟨B1, 0, none⟩)) rfl rfl rfl) ?_
 refine Was (.func (.func 70) #[] #[.pointer (some ⟨B4, 0, none⟩), .pointer (some ⟨B5, 0, none⟩), .pointer (some ⟨B1, 0, none⟩)]) ?_
 refine Wl_nil ?_
 refine W_ret ?_
 refine ret_end (v := .func (.func 70) #[] #[.pointer (some ⟨B4, 0, none⟩), .pointer (some ⟨B5, 0, none⟩), .pointer (some ⟨B1, 0, none⟩)]) rfl (res1 results32 rfl) ?_
 exact ⟨_, rfl, B4, B5, B1, a2x, c2, a3, c3, rfl, hb4, hb5, hb1, (hO2.weak (by intro g hg; have h3 : ((w1.heap.size ≤ g) ∧ g < w2.heap.size) := hg; show w.heap.size ≤ g; omega)), (hO3.weak (by intro g hg; have h3 : ((w2.heap.size ≤ g) ∧ g < w3.heap.size) := hg; show w.heap.size ≤ g; omega)), (by omega), HU⟩
theorem dparts1 {ly Bl Bb Bn n c m d : Nat} {a a2 : Option Addr} {l b : List Int} {nn : Int} {J : Nat → World → Prop} {Jx : World → Prop} {Sb R T : Nat → Prop} (w : World) (hBl : Blk w Bl [.slice a n c]) (hBb : Blk w Bb [.slice a2 m d]) (hBn : Blk w Bn [.int .i64 nn]) (hs : Sl w R 1 (.slice a n c) n (ints .i64 l)) (hsb : Sl w T 1 (.slice a2 m d) m (ints .u8 b)) (hn : n ≤ 1000) (hm : m ≤ 100000) (hb : Byt b) (hni : -9223372036854775808 ≤ nn ∧ nn ≤ 9223372036854775807) (hSR : ∀ g, R g → ¬ Sb g) (hSf : ∀ g, w.heap.size ≤ g → ¬ Sb g) (hJ0 : J 0 w) (hJS : ∀ (j : Nat) (wa wb : World), J j wa → Upd (fun g => w.heap.size ≤ g) wa wb → J j wb) (hJX : ∀ (wa wb : World), Jx wa → Upd (fun g => w.heap.size ≤ g) wa wb → Jx wb) (hy : ∀ (j : Nat) (w9 : World), j < nE l b nn → J j w9 → (∀ (a' : Option Addr) (m' c' : Nat), Sl w9 (fun g => w.heap.size ≤ g) 1 (.slice a' m' c') m' (ints .u8 ((zL l b nn).getD j [])) → YieldC Tryz.prog ly #[.int .i64 ((j : Nat) : Int), .slice a' m' c'] w9 (fun e w' => (e = .returned (.bool true) ∧ (Upd Sb w9 w' ∧ J (j + 1) w')) ∨ (e = .returned (.bool false) ∧ (Upd Sb w9 w' ∧ Jx w'))))) :
  Calls Tryz.prog 70 #[.func (.yield ly) #[] #[], .pointer (some ⟨Bl, 0, none⟩), .pointer (some ⟨Bb, 0, none⟩), .pointer (some ⟨Bn, 0, none⟩)] w (Ret fun v w' => J (nE l b nn) w' ∨ Jx w') := by
 have HU := Upd.rno w
 refine calls_of_W func70 rfl ntmps70 (by simp) ?_
 refine W_scope ?_
 refine W_seq ?_
 refine W_label ?_
 refine W_block ?_
 refine W_unroll 1 ?_
 refine unrK_succ ?_
 refine W_block (W_seq (W_region ?_))
 refine Wl_load (v := .slice a n c) isAgg22 rfl hBl rfl ?_
 refine Wl_load (v := .slice a2 m d) isAgg32 rfl hBb rfl ?_
 refine Wl_load (v := .int .i64 nn) isAgg3 rfl hBn rfl ?_
 refine Wmv (.func (.yield ly) #[] #[]) ?_
 refine Wl_call (r_call4 rfl call49 rfl rfl rfl rfl) (goes_it (J := J) (Jx := Jx) (Sb := Sb) _ hs hsb hn hm hb hni hSR hSf hJ0 hJS hJX hy) ?_
 rintro v w1 hJ9
 refine Wl_nil ?_
 refine W_exit ?_
 refine nrm_end (v := .tuple #[]) rfl (res0 results70) ?_
 exact ⟨_, rfl, hJ9⟩
theorem zL_byt (l b : List Int) (n : Int) (i : Nat) : Byt ((zL l b n).getD i []) :=
 match i with
 | 0 => dcF_byt _ _ _
 | 1 => dcF_byt _ _ _
 | 2 => dcF_byt _ _ _
 | 3 => dcF_byt _ _ _
 | _ + 4 => byt_nil
set_option maxHeartbeats 8000000 in
theorem foureach {a a2 : Option Addr} {n c m d : Nat} {l b : List Int} {nn many : Int} (w : World) (hs : Sl w (fun g => g < w.heap.size) 1 (.slice a n c) n (ints .i64 l)) (hn : n ≤ 17592186044415) (hsb : Sl w (fun g => g < w.heap.size) 1 (.slice a2 m d) m (ints .u8 b)) (hb : Byt b) (hm : m ≤ 140737488351232) (rnn : -9223372036854775808 ≤ nn ∧ nn ≤ 9223372036854775807) (rmany : -9223372036854775808 ≤ many ∧ many ≤ 9223372036854775807) :
  Calls Tryz.prog 10 #[.slice a n c, .slice a2 m d, .int .i64 nn, .int .i64 many] w (Ret fun v w' => v = .bool true ∧ Upd No w w') := by
 have HU := Upd.rno w
 have hl_hs := ilen hs
 have hc_hs := hs.cap.1
 have hl_hsb := ilen hsb
 have hc_hsb := hsb.cap.1
 refine calls_of_W func10 rfl ntmps10 (by simp) ?_
 refine W_seq (W_region ?_)
 refine Wl_box (v := .int .i64 many) (cs := [.int .i64 many]) rfl rfl ?_
 intro B1 w1 hB1 hU1 hzz1 hb1
 have hzw1 := hU1.size
 replace hs := hs.upd0 hU1
 replace hsb := hsb.upd0 hU1
 replace HU := HU.trans0 hU1
 refine Wl_alloc (cs := [.bool false]) zeroValue4 rfl ?_
 intro B2 w2 hB2 hU2 hzz2 hb2
 have hzw2 := hU2.size
 replace hs := hs.upd0 hU2
 replace hsb := hsb.upd0 hU2
 replace HU := HU.trans0 hU2
 replace hb1 := hb1.upd0 hU2
 refine Wl_nil (W_seq (W_seq (W_region ?_)))
 refine Wmv (.slice a n c) ?_
 refine Wl_v (r_len underlying22 rfl) ?_
 refine Wl_v (r_gt rfl rfl) ?_
 refine Wmv (.bool (decide (300 < ((n : Nat) : Int)))) ?_
 by_cases q1 : 300 < ((n : Nat) : Int)
 ·rw [decide_eq_true q1]
  refine Wl_guard_f rfl (Wl_guard_f rfl (Wl_guard_f rfl ?_))
  refine Wl_v (r_pick_t (v := .bool true) rfl rfl) ?_
  refine Wl_nil ?_
  refine W_cond_t rfl ?_
  refine W_seq (W_region ?_)
  refine Wl_call (r_call0 rfl call16 ) (works18 _ ) ?_
  rintro v w3 ⟨rfl, hU3⟩
  have hzw3 := hU3.size
  replace HU := HU.trans0 hU3
  replace hb2 := hb2.upd0 hU3
  refine Wl_store (v := .bool true) (cs' := [.bool true]) sizeOf4 rfl rfl rfl rfl hb2 rfl rfl ?_
  intro w4 hU4 hzz4 hb2n
  replace hb2 := hb2n; clear hb2n
  have hzw4 := hU4.size
  replace HU := HU.t1 hU4 (by omega)
  refine Wl_nil ?_
  refine W_ret ?_
  refine ret_end (v := .bool true) rfl (rc1 results10 rfl (cellIs isAgg4 hb2)) ?_
  exact ⟨_, rfl, rfl, HU⟩
 rw [decide_eq_false q1]
 refine Wl_guard_t rfl ?_
 refine Wmv (.slice a2 m d) ?_
 refine Wl_guard_t rfl ?_
 refine Wl_v (r_len underlying32 rfl) ?_
 refine Wl_guard_t rfl ?_
 refine Wl_v (r_gt rfl rfl) ?_
 refine Wl_v (r_pick_f (v := .bool (decide (200 < ((m : Nat) : Int)))) rfl rfl) ?_
 refine Wl_nil ?_
 by_cases q2 : 200 < ((m : Nat) : Int)
 ·rw [decide_eq_true q2]
  refine W_cond_t rfl ?_
  refine W_seq (W_region ?_)
  refine Wl_call (r_call0 rfl call16 ) (works18 _ ) ?_
  rintro v w5 ⟨rfl, hU5⟩
  have hzw5 := hU5.size
  replace HU := HU.trans0 hU5
  replace hb2 := hb2.upd0 hU5
  refine Wl_store (v := .bool true) (cs' := [.bool true]) sizeOf4 rfl rfl rfl rfl hb2 rfl rfl ?_
  intro w6 hU6 hzz6 hb2n
  replace hb2 := hb2n; clear hb2n
  have hzw6 := hU6.size
  replace HU := HU.t1 hU6 (by omega)
  refine Wl_nil ?_
  refine W_ret ?_
  refine ret_end (v := .bool true) rfl (rc1 results10 rfl (cellIs isAgg4 hb2)) ?_
  exact ⟨_, rfl, rfl, HU⟩
 rw [decide_eq_false q2]
 refine W_cond_f rfl ?_
 refine W_skip (W_seq (W_region ?_))
 refine Wmv (.slice a n c) ?_
 refine Wmv (.slice a2 m d) ?_
 refine Wmv (.int .i64 nn) ?_
 refine Wl_call (r_call3 rfl call31 rfl rfl rfl) (rea_all _ hs (by omega) hsb.any hb (by omega) (by omega)) ?_
 rintro v w7 ⟨a7, c7, G7, rfl, hW7, hG1_7, hU7⟩
 have hzw7 := hU7.size
 replace hs := hs.upd0 hU7
 replace hsb := hsb.upd0 hU7
 replace HU := HU.trans0 hU7
 replace hb1 := hb1.upd0 hU7
 replace hb2 := hb2.upd0 hU7
 have hnE := nE_le l b nn
 refine Wmv (.tuple #[.slice a7 (nE l b nn) c7, .int .i64 ((d4F l b nn).2)]) ?_
 refine Wl_v (r_ext (v := .slice a7 (nE l b nn) c7) rfl rfl) ?_
 refine Wl_v (r_ext (v := .int .i64 ((d4F l b nn).2)) rfl rfl) ?_
 refine Wl_alloc (cs := [.slice none 0 0]) zeroValue41 rfl ?_
 intro B8 w8 hB8 hU8 hzz8 hb8
 have hzw8 := hU8.size
 replace hs := hs.upd0 hU8
 replace hsb := hsb.upd0 hU8
 replace HU := HU.trans0 hU8
 replace hb1 := hb1.upd0 hU8
 replace hb2 := hb2.upd0 hU8
 replace hW7 := hW7.upd0 hU8
 refine Wl_store (v := .slice a7 (nE l b nn) c7) (cs' := [.slice a7 (nE l b nn) c7]) sizeOf41 rfl rfl rfl rfl hb8 rfl rfl ?_
 intro w9 hU9 hzz9 hb8n
 replace hb8 := hb8n; clear hb8n
 have hzw9 := hU9.size
 replace hs := hs.upd1 hU9 (show ¬ (B8 < w.heap.size) by omega)
 replace hsb := hsb.upd1 hU9 (show ¬ (B8 < w.heap.size) by omega)
 replace HU := HU.t1 hU9 (by omega)
 replace hb1 := hb1.upd1 hU9 (by omega)
 replace hb2 := hb2.upd1 hU9 (by omega)
 replace hW7 := hW7.upd1 hU9 (by omega)
 refine Was (.int .i64 ((d4F l b nn).2)) ?_
 refine Wl_nil (W_seq (W_region ?_))
 refine Wmv (.slice a n c) ?_
 refine Wl_lit0 underlying32 sizeOf5 ?_
 intro B10 w10 hB10 hU10 hzz10 hs10
 have hzw10 := hU10.size
 replace hs := hs.upd0 hU10
 replace hsb := hsb.upd0 hU10
 replace HU := HU.trans0 hU10
 replace hb1 := hb1.upd0 hU10
 replace hb2 := hb2.upd0 hU10
 replace hW7 := hW7.upd0 hU10
 replace hb8 := hb8.upd0 hU10
 refine Wmv (.slice a2 m d) ?_
 refine Wl_appendi (xs := []) (ys := b) (zs := b) (k' := .u8) (tot := m) (by first | rfl | exact (rows_app _ _).symm | simp) underlying32 (ti := Tryz.t5) (z := .int .u8 0) (sz := 1) (by' := 1) rfl rfl rfl rfl rfl (by decide) rfl hs10 rfl hsb  (by omega) (by simp only [maxLen]; omega) (by omega) ?_
 intro a11 c11 w11 hU11 hzz11 hO11
 clear hs10
 have hzw11 := hU11.size
 replace hs := hs.upd hU11 (by intro x h1 h2; have h3 : x < w.heap.size := h1; have h4 : x = B10 := h2; omega)
 replace HU := HU.trans hU11 (by intro x hx; have hx2 : x = B10 := hx; show (False) ∨ w.heap.size ≤ x; omega)
 replace hb1 := hb1.upd hU11 (by intro hx; have hx2 : B1 = B10 := hx; omega)
 replace hb2 := hb2.upd hU11 (by intro hx; have hx2 : B2 = B10 := hx; omega)
 replace hW7 := hW7.upd hU11 (by intro x hx; have hx2 : x = B10 := hx; omega)
 replace hb8 := hb8.upd hU11 (by intro hx; have hx2 : B8 = B10 := hx; omega)
 replace hO11 := hO11.tight
 have hl_hO11 := ilen hO11.sl
 have hc_hO11 := hO11.sl.cap.1
 refine Wmv (.int .i64 nn) ?_
 refine Wl_call (r_call3 rfl call32 rfl rfl rfl) (dparts _ hs.any (by omega) hO11.sl.any (by omega)) ?_
 rintro v w12 ⟨Bl12, Bb12, Bn12, a12, c12, e12, f12, rfl, hBl12, hBb12, hBn12, hO12, hP12, hb1_12, hU12⟩
 have hzw12 := hU12.size
 replace HU := HU.trans0 hU12
 replace hb1 := hb1.upd0 hU12
 replace hb2 := hb2.upd0 hU12
 replace hW7 := hW7.upd0 hU12
 replace hb8 := hb8.upd0 hU12
 replace hO11 := hO11.upd0 hU12
 have hbl_hBl12 := hBl12.lt
 have hbl_hBb12 := hBb12.lt
 have hbl_hBn12 := hBn12.lt
 replace hO12 := hO12.tight
 have hl_hO12 := ilen hO12.sl
 have hc_hO12 := hO12.sl.cap.1
 replace hP12 := hP12.tight
 have hl_hP12 := ilen hP12.sl
 have hc_hP12 := hP12.sl.cap.1
 refine Was (.func (.func 70) #[] #[.pointer (some ⟨Bl12, 0, none⟩), .pointer (some ⟨Bb12, 0, none⟩), .pointer (some ⟨Bn12, 0, none⟩)]) ?_
 refine Wl_nil (W_seq (W_seq (W_region ?_)))
 refine Wmv (.func (.func 70) #[] #[.pointer (some ⟨Bl12, 0, none⟩), .pointer (some ⟨Bb12, 0, none⟩), .pointer (some ⟨Bn12, 0, none⟩)]) ?_
 refine Wl_v (r_eqfn_s underlying60 rfl rfl) ?_
 refine Wl_nil ?_
 refine W_cond_f rfl ?_
 refine W_skip (W_seq (W_seq (W_region ?_)))
 refine Wl_alloc (cs := [.int .i64 0]) zeroValue3 rfl ?_
 intro B13 w13 hB13 hU13 hzz13 hb13
 have hzw13 := hU13.size
 replace HU := HU.trans0 hU13
 replace hb1 := hb1.upd0 hU13
 replace hb2 := hb2.upd0 hU13
 replace hW7 := hW7.upd0 hU13
 replace hb8 := hb8.upd0 hU13
 replace hO11 := hO11.upd0 hU13
 replace hBl12 := hBl12.upd0 hU13
 replace hBb12 := hBb12.upd0 hU13
 replace hBn12 := hBn12.upd0 hU13
 replace hO12 := hO12.upd0 hU13
 replace hP12 := hP12.upd0 hU13
 refine Wl_store (v := .int .i64 0) (cs' := [.int .i64 0]) sizeOf3 rfl rfl rfl rfl hb13 rfl rfl ?_
 intro w14 hU14 hzz14 hb13n
 replace hb13 := hb13n; clear hb13n
 have hzw14 := hU14.size
 replace HU := HU.t1 hU14 (by omega)
 replace hb1 := hb1.upd1 hU14 (by omega)
 replace hb2 := hb2.upd1 hU14 (by omega)
 replace hW7 := hW7.upd1 hU14 (by omega)
 replace hb8 := hb8.upd1 hU14 (by omega)
 replace hO11 := hO11.upd1 hU14 (by intro h1; have h3 : ((((B13 = B10) ∨ B13 = w10.heap.size)) ∧ B13 < w11.heap.size) := h1; omega)
 replace hBl12 := hBl12.upd1 hU14 (by omega)
 replace hBb12 := hBb12.upd1 hU14 (by omega)
 replace hBn12 := hBn12.upd1 hU14 (by omega)
 replace hO12 := hO12.upd1 hU14 (show ¬ (((w11.heap.size ≤ B13) ∧ B13 < w12.heap.size)) by omega)
 replace hP12 := hP12.upd1 hU14 (show ¬ (((w11.heap.size ≤ B13) ∧ B13 < w12.heap.size)) by omega)
 refine Wl_nil (W_block ?_)
 refine W_unroll2 ?_
 refine W_seq (W_seq (W_region ?_))
 refine Wl_load (v := .int .i64 0) isAgg3 rfl hb13 rfl ?_
 refine Wl_v (v := .bool true) (r_lt (a := 0) (b := 2) rfl rfl) ?_
 refine Wl_nil ?_
 refine W_cond_t rfl ?_
 refine W_skip (W_seq (W_block (W_seq (W_region ?_))))
 refine Wl_alloc (cs := [.int .i64 0]) zeroValue3 rfl ?_
 intro B15 w15 hB15 hU15 hzz15 hb15
 have hzw15 := hU15.size
 replace HU := HU.trans0 hU15
 replace hb1 := hb1.upd0 hU15
 replace hb2 := hb2.upd0 hU15
 replace hW7 := hW7.upd0 hU15
 replace hb8 := hb8.upd0 hU15
 replace hO11 := hO11.upd0 hU15
 replace hBl12 := hBl12.upd0 hU15
 replace hBb12 := hBb12.upd0 hU15
 replace hBn12 := hBn12.upd0 hU15
 replace hO12 := hO12.upd0 hU15
 replace hP12 := hP12.upd0 hU15
 replace hb13 := hb13.upd0 hU15
 refine Wl_store (v := .int .i64 0) (cs' := [.int .i64 0]) sizeOf3 rfl rfl rfl rfl hb15 rfl rfl ?_
 intro w16 hU16 hzz16 hb15n
 replace hb15 := hb15n; clear hb15n
 have hzw16 := hU16.size
 replace HU := HU.t1 hU16 (by omega)
 replace hb1 := hb1.upd1 hU16 (by omega)
 replace hb2 := hb2.upd1 hU16 (by omega)
 replace hW7 := hW7.upd1 hU16 (by omega)
 replace hb8 := hb8.upd1 hU16 (by omega)
 replace hO11 := hO11.upd1 hU16 (by intro h1; have h3 : ((((B15 = B10) ∨ B15 = w10.heap.size)) ∧ B15 < w11.heap.size) := h1; omega)
 replace hBl12 := hBl12.upd1 hU16 (by omega)
 replace hBb12 := hBb12.upd1 hU16 (by omega)
 replace hBn12 := hBn12.upd1 hU16 (by omega)
 replace hO12 := hO12.upd1 hU16 (show ¬ (((w11.heap.size ≤ B15) ∧ B15 < w12.heap.size)) by omega)
 replace hP12 := hP12.upd1 hU16 (show ¬ (((w11.heap.size ≤ B15) ∧ B15 < w12.heap.size)) by omega)
 replace hb13 := hb13.upd1 hU16 (by omega)
 refine Wl_nil (W_seq (W_seq (W_region ?_)))
 refine Wmv (.func (.func 70) #[] #[.pointer (some ⟨Bl12, 0, none⟩), .pointer (some ⟨Bb12, 0, none⟩), .pointer (some ⟨Bn12, 0, none⟩)]) ?_
 refine Wl_nil (W_block ?_)
 refine W_range (gf := 70) (ar := fun y => #[y, .pointer (some ⟨Bl12, 0, none⟩), .pointer (some ⟨Bb12, 0, none⟩), .pointer (some ⟨Bn12, 0, none⟩)]) rfl call70 (fun y => by simp) ?_
 intro D17 fn17 w17 hD17 hU17 hzz17 hdf17 hrc170
 have hzw17 := hU17.size
 replace HU := HU.trans0 hU17
 replace hb1 := hb1.upd0 hU17
 replace hb2 := hb2.upd0 hU17
 replace hW7 := hW7.upd0 hU17
 replace hb8 := hb8.upd0 hU17
 replace hO11 := hO11.upd0 hU17
 replace hBl12 := hBl12.upd0 hU17
 replace hBb12 := hBb12.upd0 hU17
 replace hBn12 := hBn12.upd0 hU17
 replace hO12 := hO12.upd0 hU17
 replace hP12 := hP12.upd0 hU17
 replace hb13 := hb13.upd0 hU17
 replace hb15 := hb15.upd0 hU17
 obtain ⟨r17, hr17, hrc17⟩ : ∃ r, r = _ ∧ Rec w17 (D17 + 1) r := ⟨_, rfl, hrc170⟩
 clear hrc170
 obtain ⟨J17, hJ17⟩ : ∃ J : Nat → World → Prop, ∀ i w', J i w' ↔ (Rec w' (D17 + 1) r17 ∧ Dfr w' D17 ∧ Blk w' B15 [.int .i64 ((i : Nat) : Int)] ∧ Blk w' B1 [.int .i64 many] ∧ Blk w' B2 [.bool false] ∧ Rws w' w2.heap.size G7 a7 (nE l b nn) c7 (zL l b nn) ∧ Blk w' B8 [.slice a7 (nE l b nn) c7] ∧ Own w' (fun g => ((((g = B10) ∨ g = w10.heap.size)) ∧ g < w11.heap.size)) 5 1 (.slice a11 m c11) m (ints .u8 b) ∧ Blk w' Bl12 [.slice a12 n c12] ∧ Blk w' Bb12 [.slice e12 m f12] ∧ Blk w' Bn12 [.int .i64 nn] ∧ Own w' (fun g => ((w11.heap.size ≤ g) ∧ g < w12.heap.size)) 3 1 (.slice a12 n c12) n (ints .i64 l) ∧ Own w' (fun g => ((w11.heap.size ≤ g) ∧ g < w12.heap.size)) 5 1 (.slice e12 m f12) m (ints .u8 b) ∧ Blk w' B13 [.int .i64 0] ∧ Upd No w w' ∧ (i = 0 ∨ ((i : Nat) : Int) < many)) := ⟨_, fun _ _ => Iff.rfl⟩
 obtain ⟨Jx17, hJx17⟩ : ∃ Jx : World → Prop, ∀ w', Jx w' ↔ ((∃ ij : Nat, Rec w' (D17 + 1) { r17 with state := .done, pending := some (.exit 2) } ∧ Dfr w' D17 ∧ Blk w' B15 [.int .i64 (((ij : Nat) : Int) + 1)] ∧ Blk w' B1 [.int .i64 many] ∧ Blk w' B2 [.bool false] ∧ Rws w' w2.heap.size G7 a7 (nE l b nn) c7 (zL l b nn) ∧ Blk w' B8 [.slice a7 (nE l b nn) c7] ∧ Own w' (fun g => ((((g = B10) ∨ g = w10.heap.size)) ∧ g < w11.heap.size)) 5 1 (.slice a11 m c11) m (ints .u8 b) ∧ Blk w' Bl12 [.slice a12 n c12] ∧ Blk w' Bb12 [.slice e12 m f12] ∧ Blk w' Bn12 [.int .i64 nn] ∧ Own w' (fun g => ((w11.heap.size ≤ g) ∧ g < w12.heap.size)) 3 1 (.slice a12 n c12) n (ints .i64 l) ∧ Own w' (fun g => ((w11.heap.size ≤ g) ∧ g < w12.heap.size)) 5 1 (.slice e12 m f12) m (ints .u8 b) ∧ Blk w' B13 [.int .i64 0] ∧ Upd No w w' ∧ ij < nE l b nn ∧ many ≤ ((ij : Nat) : Int) + 1 ∧ (ij = 0 ∨ ((ij : Nat) : Int) < many))) := ⟨_, fun _ => Iff.rfl⟩
 refine (dparts1 (ly := (D17 + 1)) (J := J17) (Jx := Jx17) (Sb := (fun g => g = B15 ∨ g = D17 + 1)) w17 hBl12 hBb12 hBn12 hO12.sl hP12.sl (by omega) (by omega) hb rnn (by intro g h1 h2; have h3 : ((w11.heap.size ≤ g) ∧ g < w12.heap.size) := h1; have h4 : g = B15 ∨ g = D17 + 1 := h2; omega) (by intro g h1 h2; have h4 : g = B15 ∨ g = D17 + 1 := h2; omega) ?_ ?_ ?_ ?_).mono ?_
 ·exact (hJ17 _ _).2 ⟨hrc17, hdf17, hb15, hb1, hb2, hW7, hb8, hO11, hBl12, hBb12, hBn12, hO12, hP12, hb13, HU, (.inl rfl)⟩
 ·intro i wa wb hh hUs
  obtain ⟨hrc17, hdf17, hb15, hb1, hb2, hW7, hb8, hO11, hBl12, hBb12, hBn12, hO12, hP12, hb13, HU, hpm⟩ := (hJ17 _ _).1 hh
  replace hrc17 := hrc17.upd hUs (by show ¬ (_ ≤ _); omega)
  replace hdf17 := hdf17.upd hUs (by show ¬ (_ ≤ _); omega)
  replace hb15 := hb15.upd hUs (by show ¬ (_ ≤ _); omega)
  replace hb1 := hb1.upd hUs (by show ¬ (_ ≤ _); omega)
  replace hb2 := hb2.upd hUs (by show ¬ (_ ≤ _); omega)
  replace hW7 := hW7.upd hUs (by intro x hx; have hx2 : w17.heap.size ≤ x := hx; omega)
  replace hb8 := hb8.upd hUs (by show ¬ (_ ≤ _); omega)
  replace hO11 := hO11.upd hUs (by intro x h1 h2; have h3 : ((((x = B10) ∨ x = w10.heap.size)) ∧ x < w11.heap.size) := h1; have h4 : w17.heap.size ≤ x := h2; omega)
  replace hBl12 := hBl12.upd hUs (by show ¬ (_ ≤ _); omega)
  replace hBb12 := hBb12.upd hUs (by show ¬ (_ ≤ _); omega)
  replace hBn12 := hBn12.upd hUs (by show ¬ (_ ≤ _); omega)
  replace hO12 := hO12.upd hUs (by intro x h1 h2; have h3 : ((w11.heap.size ≤ x) ∧ x < w12.heap.size) := h1; have h4 : w17.heap.size ≤ x := h2; omega)
  replace hP12 := hP12.upd hUs (by intro x h1 h2; have h3 : ((w11.heap.size ≤ x) ∧ x < w12.heap.size) := h1; have h4 : w17.heap.size ≤ x := h2; omega)
  replace hb13 := hb13.upd hUs (by show ¬ (_ ≤ _); omega)
  replace HU := HU.trans hUs (by intro x hx; have hx2 : w17.heap.size ≤ x := hx; show (False) ∨ w.heap.size ≤ x; omega)
  exact (hJ17 _ _).2 ⟨hrc17, hdf17, hb15, hb1, hb2, hW7, hb8, hO11, hBl12, hBb12, hBn12, hO12, hP12, hb13, HU, hpm⟩
 ·intro wa wb hh hUs
  have hh2 := (hJx17 _).1 hh
  refine (hJx17 _).2 ?_
  obtain ⟨ij, hrc17, hdf17, hb15, hb1, hb2, hW7, hb8, hO11, hBl12, hBb12, hBn12, hO12, hP12, hb13, HU, hq0, hq1, hq2⟩ := hh2
  replace hrc17 := hrc17.upd hUs (by show ¬ (_ ≤ _); omega)
  replace hdf17 := hdf17.upd hUs (by show ¬ (_ ≤ _); omega)
  replace hb15 := hb15.upd hUs (by show ¬ (_ ≤ _); omega)
  replace hb1 := hb1.upd hUs (by show ¬ (_ ≤ _); omega)
  replace hb2 := hb2.upd hUs (by show ¬ (_ ≤ _); omega)
  replace hW7 := hW7.upd hUs (by intro x hx; have hx2 : w17.heap.size ≤ x := hx; omega)
  replace hb8 := hb8.upd hUs (by show ¬ (_ ≤ _); omega)
  replace hO11 := hO11.upd hUs (by intro x h1 h2; have h3 : ((((x = B10) ∨ x = w10.heap.size)) ∧ x < w11.heap.size) := h1; have h4 : w17.heap.size ≤ x := h2; omega)
  replace hBl12 := hBl12.upd hUs (by show ¬ (_ ≤ _); omega)
  replace hBb12 := hBb12.upd hUs (by show ¬ (_ ≤ _); omega)
  replace hBn12 := hBn12.upd hUs (by show ¬ (_ ≤ _); omega)
  replace hO12 := hO12.upd hUs (by intro x h1 h2; have h3 : ((w11.heap.size ≤ x) ∧ x < w12.heap.size) := h1; have h4 : w17.heap.size ≤ x := h2; omega)
  replace hP12 := hP12.upd hUs (by intro x h1 h2; have h3 : ((w11.heap.size ≤ x) ∧ x < w12.heap.size) := h1; have h4 : w17.heap.size ≤ x := h2; omega)
  replace hb13 := hb13.upd hUs (by show ¬ (_ ≤ _); omega)
  replace HU := HU.trans hUs (by intro x hx; have hx2 : w17.heap.size ≤ x := hx; show (False) ∨ w.heap.size ≤ x; omega)
  exact ⟨ij, hrc17, hdf17, hb15, hb1, hb2, hW7, hb8, hO11, hBl12, hBb12, hBn12, hO12, hP12, hb13, HU, hq0, hq1, hq2⟩
 ·intro i18 w18 hi18 hh
  obtain ⟨hrc17, hdf17, hb15, hb1, hb2, hW7, hb8, hO11, hBl12, hBb12, hBn12, hO12, hP12, hb13, HU, hpm⟩ := (hJ17 _ _).1 hh
  have hrl17 := hrc17.lt
  intro ax mx cx hsx
  have HB17 : Upd (fun g => g = B15 ∨ g = D17 + 1) w18 w18 := Upd.refl _ _
  refine yieldC_of_W (R := fun b c w' => (b = true ∧ Upd (fun g => g = B15 ∨ g = D17 + 1) w18 w' ∧ J17 (i18 + 1) w') ∨ (b = false ∧ Upd (fun g => g = B15 ∨ g = D17 + 1) w18 w' ∧ Jx17 w')) hrc17 (by rw [hr17]; rfl) (by rw [hr17]; exact zip2 _ _ _ _ _ _) ?_ ?_
  ·rw [hr17]
   refine W_seq (W_region ?_)
   refine Was (.int .i64 ((i18 : Nat) : Int)) ?_
   refine Wl_nil (W_region ?_)
   refine Was (.slice ax mx cx) ?_
   refine Wl_nil ?_
   refine ⟨rfl, _, hrc17, (by rw [hr17]), ?_⟩
   intro w19 hU19 hzz19 hrc17b
   have hzw19 := hU19.size
   replace hdf17 := hdf17.upd1 hU19 (by omega)
   replace hb15 := hb15.upd1 hU19 (by omega)
   replace hb1 := hb1.upd1 hU19 (by omega)
   replace hb2 := hb2.upd1 hU19 (by omega)
   replace hW7 := hW7.upd1 hU19 (by omega)
   replace hb8 := hb8.upd1 hU19 (by omega)
   replace hO11 := hO11.upd1 hU19 (by intro h1; have h3 : (((((D17 + 1) = B10) ∨ (D17 + 1) = w10.heap.size)) ∧ (D17 + 1) < w11.heap.size) := h1; omega)
   replace hBl12 := hBl12.upd1 hU19 (by omega)
   replace hBb12 := hBb12.upd1 hU19 (by omega)
   replace hBn12 := hBn12.upd1 hU19 (by omega)
   replace hO12 := hO12.upd1 hU19 (show ¬ (((w11.heap.size ≤ (D17 + 1)) ∧ (D17 + 1) < w12.heap.size)) by omega)
   replace hP12 := hP12.upd1 hU19 (show ¬ (((w11.heap.size ≤ (D17 + 1)) ∧ (D17 + 1) < w12.heap.size)) by omega)
   replace hb13 := hb13.upd1 hU19 (by omega)
   replace HU := HU.trans1 hU19 (by show (False) ∨ w.heap.size ≤ (D17 + 1); omega)
   replace hsx := hsx.upd1 hU19 (show ¬ (w17.heap.size ≤ (D17 + 1)) by omega)
   replace HB17 := HB17.trans1 hU19 (by show ((D17 + 1) = B15 ∨ (D17 + 1) = D17 + 1) ∨ w18.heap.size ≤ (D17 + 1); omega)
   clear hrc17
   have hrc17 := hrc17b
   clear hrc17b
   refine W_block (W_seq (W_seq ?_))
   refine W_drawt rfl (l0 := tf 0 19) (by kernel_rfl) ?_
   refine Tk 0 (tf 1 19) rfl (YI_v (v := .int .i64 ((i18 : Nat) : Int)) rfl (fun w' hw' => r_mv (v := .int .i64 ((i18 : Nat) : Int)) rfl)) ?_
   refine Tk 1 (tf 2 19) rfl (YI_v (v := .int .i64 ((i18 : Nat) : Int)) rfl (fun w' hw' => r_load isAgg3 rfl (by rw [(hb15.upd0 hw').cell]; rfl))) ?_
   refine Tk 2 (tf 3 19) rfl (YI_v (v := .bool (decide (((i18 : Nat) : Int) ≠ ((i18 : Nat) : Int)))) rfl (fun w' hw' => r_ne rfl rfl)) ?_
   refine Tk 3 (tf 4 19) rfl (YI_v (v := .bool (decide (((i18 : Nat) : Int) ≠ ((i18 : Nat) : Int)))) rfl (fun w' hw' => r_mv (v := .bool (decide (((i18 : Nat) : Int) ≠ ((i18 : Nat) : Int)))) rfl)) ?_
   have q3 : ¬ (((i18 : Nat) : Int) ≠ ((i18 : Nat) : Int)) := (by omega)
   rw [decide_eq_false q3]
   refine Tk 4 (tf 5 19) rfl (YI_v (v := .int .i64 ((i18 : Nat) : Int)) rfl (fun w' hw' => r_load isAgg3 rfl (by rw [(hb15.upd0 hw').cell]; rfl))) ?_
   refine Tk 5 (tf 6 19) rfl (YI_v (v := .slice a7 (nE l b nn) c7) rfl (fun w' hw' => r_load isAgg41 rfl (by rw [(hb8.upd0 hw').cell]; rfl))) ?_
   refine Tk 6 (tf 7 19) rfl (YI_v (v := .int .i64 (((nE l b nn) : Nat) : Int)) rfl (fun w' hw' => r_len underlying41 rfl)) ?_
   refine Tk 7 (tf 8 19) rfl (YI_v (v := .bool (decide ((((nE l b nn) : Nat) : Int) ≤ ((i18 : Nat) : Int)))) rfl (fun w' hw' => r_ge rfl rfl)) ?_
   refine Tk 8 (tf 9 19) rfl (YI_v rfl (fun w' hw' => r_pick_f (v := .bool (decide ((((nE l b nn) : Nat) : Int) ≤ ((i18 : Nat) : Int)))) rfl rfl)) ?_
   refine Tk 9 (tf 10 19) rfl (YI_v (v := .bool (decide ((((nE l b nn) : Nat) : Int) ≤ ((i18 : Nat) : Int)))) rfl (fun w' hw' => r_mv (v := .bool (decide ((((nE l b nn) : Nat) : Int) ≤ ((i18 : Nat) : Int)))) rfl)) ?_
   have q4 : ¬ ((((nE l b nn) : Nat) : Int) ≤ ((i18 : Nat) : Int)) := (by omega)
   rw [decide_eq_false q4]
   refine Tk 10 (tf 11 19) rfl (YI_v (v := .slice ax mx cx) rfl (fun w' hw' => r_mv (v := .slice ax mx cx) rfl)) ?_
   refine Tk 11 (tf 12 19) rfl (YI_v (v := .string (strOfNums ((zL l b nn).getD i18 []))) rfl (fun w' hw' => r_bstr underlying32 underlying5 underlying9 rfl (hsx.upd0 hw'))) ?_
   refine Tk 12 (tf 13 19) rfl (YI_v (v := .slice a7 (nE l b nn) c7) rfl (fun w' hw' => r_load isAgg41 rfl (by rw [(hb8.upd0 hw').cell]; rfl))) ?_
   refine Tk 13 (tf 14 19) rfl (YI_v (v := .int .i64 ((i18 : Nat) : Int)) rfl (fun w' hw' => r_load isAgg3 rfl (by rw [(hb15.upd0 hw').cell]; rfl))) ?_
   obtain ⟨ax20, mx20, cx20, ib20, io20, ha20, hc20, hsy20⟩ := hW7.at (i := i18) hi18
   refine Tk 14 (tf 15 19) rfl (YI_v (v := .pointer (some ⟨ib20, io20 + i18 * 1, none⟩)) rfl (fun w' hw' => r_idx (b := ib20) (off := io20) (m := (nE l b nn)) (c := c7) (o' := io20 + i18 * 1) underlying41 sizeOf32 (by rw [← ha20]; rfl) rfl (by omega) (by omega) (by omega))) ?_
   refine Tk 15 (tf 16 19) rfl (YI_v (v := .slice ax20 mx20 cx20) rfl (fun w' hw' => r_load isAgg32 rfl (hw'.cellk hc20))) ?_
   refine Tk 16 (tf 17 19) rfl (YI_v (v := .string (strOfNums ((zL l b nn).getD i18 []))) rfl (fun w' hw' => r_bstr underlying32 underlying5 underlying9 rfl (hsy20.upd0 hw'))) ?_
   refine Tk 17 (tf 18 19) rfl (YI_v (v := .bool (!decide (((zL l b nn).getD i18 []) = ((zL l b nn).getD i18 [])))) rfl (fun w' hw' => r_nestr (show Byt ((zL l b nn).getD i18 []) from (zL_byt _ _ _ _)) (show Byt ((zL l b nn).getD i18 []) from (zL_byt _ _ _ _)) rfl rfl)) ?_
   refine Tk 18 (tf 19 19) rfl (YI_v rfl (fun w' hw' => r_pick_f (v := .bool (!decide (((zL l b nn).getD i18 []) = ((zL l b nn).getD i18 [])))) rfl rfl)) ?_
   intro w21 hU21
   have hzw21 := hU21.size
   replace hrc17 := hrc17.upd0 hU21
   replace hdf17 := hdf17.upd0 hU21
   replace hb15 := hb15.upd0 hU21
   replace hb1 := hb1.upd0 hU21
   replace hb2 := hb2.upd0 hU21
   replace hW7 := hW7.upd0 hU21
   replace hb8 := hb8.upd0 hU21
   replace hO11 := hO11.upd0 hU21
   replace hBl12 := hBl12.upd0 hU21
   replace hBb12 := hBb12.upd0 hU21
   replace hBn12 := hBn12.upd0 hU21
   replace hO12 := hO12.upd0 hU21
   replace hP12 := hP12.upd0 hU21
   replace hb13 := hb13.upd0 hU21
   replace HU := HU.trans0 hU21
   replace HB17 := HB17.trans0 hU21
   refine Wa_done (by kernel_rfl) ?_
   have q5 : ((zL l b nn).getD i18 []) = ((zL l b nn).getD i18 []) := rfl
   rw [decide_eq_true q5]
   simp only [Bool.not_true, Bool.not_false]
   refine W_cond_f rfl ?_
   refine W_skip (W_seq (W_region ?_))
   refine Wl_load (v := .int .i64 ((i18 : Nat) : Int)) isAgg3 rfl hb15 rfl ?_
   refine Wl_v (r_add rfl rfl (wi64 (by omega) (by omega))) ?_
   refine Wl_store (v := .int .i64 (((i18 : Nat) : Int) + 1)) (cs' := [.int .i64 (((i18 : Nat) : Int) + 1)]) sizeOf3 rfl rfl rfl rfl hb15 rfl rfl ?_
   intro w22 hU22 hzz22 hb15n
   replace hb15 := hb15n; clear hb15n
   have hzw22 := hU22.size
   replace hrc17 := hrc17.upd1 hU22 (by omega)
   replace hdf17 := hdf17.upd1 hU22 (by omega)
   replace hb1 := hb1.upd1 hU22 (by omega)
   replace hb2 := hb2.upd1 hU22 (by omega)
   replace hW7 := hW7.upd1 hU22 (by omega)
   replace hb8 := hb8.upd1 hU22 (by omega)
   replace hO11 := hO11.upd1 hU22 (by intro h1; have h3 : ((((B15 = B10) ∨ B15 = w10.heap.size)) ∧ B15 < w11.heap.size) := h1; omega)
   replace hBl12 := hBl12.upd1 hU22 (by omega)
   replace hBb12 := hBb12.upd1 hU22 (by omega)
   replace hBn12 := hBn12.upd1 hU22 (by omega)
   replace hO12 := hO12.upd1 hU22 (show ¬ (((w11.heap.size ≤ B15) ∧ B15 < w12.heap.size)) by omega)
   replace hP12 := hP12.upd1 hU22 (show ¬ (((w11.heap.size ≤ B15) ∧ B15 < w12.heap.size)) by omega)
   replace hb13 := hb13.upd1 hU22 (by omega)
   replace HU := HU.t1 hU22 (by omega)
   replace HB17 := HB17.trans1 hU22 (by show (B15 = B15 ∨ B15 = D17 + 1) ∨ w18.heap.size ≤ B15; omega)
   refine Wl_nil (W_seq (W_region ?_))
   refine Wl_load (v := .int .i64 0) isAgg3 rfl hb13 rfl ?_
   refine Wl_v (v := .bool true) (r_eq (a := 0) (b := 0) rfl rfl) ?_
   refine Wmv (.bool true) ?_
   refine Wl_guard_t rfl ?_
   refine Wl_load (v := .int .i64 (((i18 : Nat) : Int) + 1)) isAgg3 rfl hb15 rfl ?_
   refine Wl_guard_t rfl ?_
   refine Wl_load (v := .int .i64 many) isAgg3 rfl hb1 rfl ?_
   refine Wl_guard_t rfl ?_
   refine Wl_v (r_ge rfl rfl) ?_
   refine Wl_v (r_pick_t (v := .bool (decide (many ≤ (((i18 : Nat) : Int) + 1)))) rfl rfl) ?_
   refine Wl_nil ?_
   by_cases q6 : many ≤ (((i18 : Nat) : Int) + 1)
   ·rw [decide_eq_true q6]
    refine W_cond_t rfl ?_
    refine W_exit ?_
    refine ⟨rfl, _, hrc17, ?_⟩
    intro w23 hU23 hzz23 hrz
    have hzw23 := hU23.size
    replace hdf17 := hdf17.upd1 hU23 (by omega)
    replace hb15 := hb15.upd1 hU23 (by omega)
    replace hb1 := hb1.upd1 hU23 (by omega)
    replace hb2 := hb2.upd1 hU23 (by omega)
    replace hW7 := hW7.upd1 hU23 (by omega)
    replace hb8 := hb8.upd1 hU23 (by omega)
    replace hO11 := hO11.upd1 hU23 (by intro h1; have h3 : (((((D17 + 1) = B10) ∨ (D17 + 1) = w10.heap.size)) ∧ (D17 + 1) < w11.heap.size) := h1; omega)
    replace hBl12 := hBl12.upd1 hU23 (by omega)
    replace hBb12 := hBb12.upd1 hU23 (by omega)
    replace hBn12 := hBn12.upd1 hU23 (by omega)
    replace hO12 := hO12.upd1 hU23 (show ¬ (((w11.heap.size ≤ (D17 + 1)) ∧ (D17 + 1) < w12.heap.size)) by omega)
    replace hP12 := hP12.upd1 hU23 (show ¬ (((w11.heap.size ≤ (D17 + 1)) ∧ (D17 + 1) < w12.heap.size)) by omega)
    replace hb13 := hb13.upd1 hU23 (by omega)
    replace HU := HU.trans1 hU23 (by show (False) ∨ w.heap.size ≤ (D17 + 1); omega)
    replace HB17 := HB17.trans1 hU23 (by show ((D17 + 1) = B15 ∨ (D17 + 1) = D17 + 1) ∨ w18.heap.size ≤ (D17 + 1); omega)
    exact Or.inr ⟨rfl, HB17, (hJx17 _).2 (⟨i18, (by rw [hr17]; rw [hr17] at hrz; exact hrz), hdf17, hb15, hb1, hb2, hW7, hb8, hO11, hBl12, hBb12, hBn12, hO12, hP12, hb13, HU, hi18, (by omega), (by omega)⟩)⟩
   rw [decide_eq_false q6]
   refine W_cond_f rfl ?_
   refine W_skip ?_
   refine ⟨rfl, _, hrc17, ?_⟩
   intro w24 hU24 hzz24 hrz
   have hzw24 := hU24.size
   replace hdf17 := hdf17.upd1 hU24 (by omega)
   replace hb15 := hb15.upd1 hU24 (by omega)
   replace hb1 := hb1.upd1 hU24 (by omega)
   replace hb2 := hb2.upd1 hU24 (by omega)
   replace hW7 := hW7.upd1 hU24 (by omega)
   replace hb8 := hb8.upd1 hU24 (by omega)
   replace hO11 := hO11.upd1 hU24 (by intro h1; have h3 : (((((D17 + 1) = B10) ∨ (D17 + 1) = w10.heap.size)) ∧ (D17 + 1) < w11.heap.size) := h1; omega)
   replace hBl12 := hBl12.upd1 hU24 (by omega)
   replace hBb12 := hBb12.upd1 hU24 (by omega)
   replace hBn12 := hBn12.upd1 hU24 (by omega)
   replace hO12 := hO12.upd1 hU24 (show ¬ (((w11.heap.size ≤ (D17 + 1)) ∧ (D17 + 1) < w12.heap.size)) by omega)
   replace hP12 := hP12.upd1 hU24 (show ¬ (((w11.heap.size ≤ (D17 + 1)) ∧ (D17 + 1) < w12.heap.size)) by omega)
   replace hb13 := hb13.upd1 hU24 (by omega)
   replace HU := HU.trans1 hU24 (by show (False) ∨ w.heap.size ≤ (D17 + 1); omega)
   replace HB17 := HB17.trans1 hU24 (by show ((D17 + 1) = B15 ∨ (D17 + 1) = D17 + 1) ∨ w18.heap.size ≤ (D17 + 1); omega)
   exact Or.inl ⟨rfl, HB17, (hJ17 _ _).2 ⟨(by rw [hr17]; rw [hr17] at hrz; exact hrz), hdf17, hb15, hb1, hb2, hW7, hb8, hO11, hBl12, hBb12, hBn12, hO12, hP12, hb13, HU, (by omega)⟩⟩
  rintro b c w9 (⟨rfl, h1, h2⟩ | ⟨rfl, h1, h2⟩)
  ·exact Or.inl ⟨rfl, h1, h2⟩
  exact Or.inr ⟨rfl, h1, h2⟩
 rintro e w25 ⟨v, rfl, hh | hh⟩
 ·obtain ⟨hrc17, hdf17, hb15, hb1, hb2, hW7, hb8, hO11, hBl12, hBb12, hBn12, hO12, hP12, hb13, HU, hpm⟩ := (hJ17 _ _).1 hh
  have hrl17 := hrc17.lt
  refine ⟨r17, hrc17, (by rw [hr17]; simp), ?_⟩
  intro w26 hU26 hzz26
  have hzw26 := hU26.size
  replace hdf17 := hdf17.upd1 hU26 (by omega)
  replace hb15 := hb15.upd1 hU26 (by omega)
  replace hb1 := hb1.upd1 hU26 (by omega)
  replace hb2 := hb2.upd1 hU26 (by omega)
  replace hW7 := hW7.upd1 hU26 (by omega)
  replace hb8 := hb8.upd1 hU26 (by omega)
  replace hO11 := hO11.upd1 hU26 (by intro h1; have h3 : (((((D17 + 1) = B10) ∨ (D17 + 1) = w10.heap.size)) ∧ (D17 + 1) < w11.heap.size) := h1; omega)
  replace hBl12 := hBl12.upd1 hU26 (by omega)
  replace hBb12 := hBb12.upd1 hU26 (by omega)
  replace hBn12 := hBn12.upd1 hU26 (by omega)
  replace hO12 := hO12.upd1 hU26 (show ¬ (((w11.heap.size ≤ (D17 + 1)) ∧ (D17 + 1) < w12.heap.size)) by omega)
  replace hP12 := hP12.upd1 hU26 (show ¬ (((w11.heap.size ≤ (D17 + 1)) ∧ (D17 + 1) < w12.heap.size)) by omega)
  replace hb13 := hb13.upd1 hU26 (by omega)
  replace HU := HU.trans1 hU26 (by show (False) ∨ w.heap.size ≤ (D17 + 1); omega)
  rw [hr17]
  skip
  refine W_seq (W_region ?_)
  refine Wl_load (v := .int .i64 0) isAgg3 rfl hb13 rfl ?_
  refine Wl_v (v := .bool true) (r_eq (a := 0) (b := 0) rfl rfl) ?_
  refine Wmv (.bool true) ?_
  refine Wl_guard_t rfl ?_
  refine Wl_load (v := .int .i64 ((nE l b nn : Nat) : Int)) isAgg3 rfl hb15 rfl ?_
  refine Wl_guard_t rfl ?_
  refine Wl_load (v := .slice a7 (nE l b nn) c7) isAgg41 rfl hb8 rfl ?_
  refine Wl_guard_t rfl ?_
  refine Wl_v (r_len underlying41 rfl) ?_
  refine Wl_guard_t rfl ?_
  refine Wl_load (v := .int .i64 many) isAgg3 rfl hb1 rfl ?_
  refine Wl_guard_t rfl ?_
  refine Wl_v (r_max rfl rfl) ?_
  refine Wl_guard_t rfl ?_
  refine Wl_v (r_min rfl rfl) ?_
  refine Wl_guard_t rfl ?_
  refine Wl_v (r_ne rfl rfl) ?_
  refine Wl_v (r_pick_t (v := .bool (decide (((nE l b nn : Nat) : Int) ≠ (min (((nE l b nn) : Nat) : Int) (max 1 many))))) rfl rfl) ?_
  refine Wmv (.bool (decide (((nE l b nn : Nat) : Int) ≠ (min (((nE l b nn) : Nat) : Int) (max 1 many))))) ?_
  have q7 : ¬ (((nE l b nn : Nat) : Int) ≠ (min (((nE l b nn) : Nat) : Int) (max 1 many))) := (by omega)
  rw [decide_eq_false q7]
  refine Wl_guard_t rfl ?_
  refine Wl_load (v := .int .i64 0) isAgg3 rfl hb13 rfl ?_
  refine Wl_guard_t rfl ?_
  refine Wl_v (v := .bool false) (r_eq (a := 0) (b := 1) rfl rfl) ?_
  refine Wl_guard_t rfl ?_
  refine Wmv (.bool false) ?_
  refine Wl_guard_f rfl (Wl_guard_f rfl (Wl_guard_f rfl (Wl_guard_f rfl (Wl_guard_t rfl ?_))))
  refine Wl_v (r_pick_f (v := .bool false) rfl rfl) ?_
  refine Wl_v (r_pick_f (v := .bool false) rfl rfl) ?_
  refine Wl_nil ?_
  refine W_cond_f rfl ?_
  refine W_skip (W_seq (W_seq (W_region ?_)))
  refine Wl_load (v := .int .i64 0) isAgg3 rfl hb13 rfl ?_
  refine Wl_nil (W_region ?_)
  refine Wl_alloc (cs := [.int .i64 0]) zeroValue3 rfl ?_
  intro B27 w27 hB27 hU27 hzz27 hb27
  have hzw27 := hU27.size
  replace hdf17 := hdf17.upd0 hU27
  replace hb15 := hb15.upd0 hU27
  replace hb1 := hb1.upd0 hU27
  replace hb2 := hb2.upd0 hU27
  replace hW7 := hW7.upd0 hU27
  replace hb8 := hb8.upd0 hU27
  replace hO11 := hO11.upd0 hU27
  replace hBl12 := hBl12.upd0 hU27
  replace hBb12 := hBb12.upd0 hU27
  replace hBn12 := hBn12.upd0 hU27
  replace hO12 := hO12.upd0 hU27
  replace hP12 := hP12.upd0 hU27
  replace hb13 := hb13.upd0 hU27
  replace HU := HU.trans0 hU27
  refine Wl_store (v := .int .i64 0) (cs' := [.int .i64 0]) sizeOf3 rfl rfl rfl rfl hb27 rfl rfl ?_
  intro w28 hU28 hzz28 hb27n
  replace hb27 := hb27n; clear hb27n
  have hzw28 := hU28.size
  replace hdf17 := hdf17.upd1 hU28 (by omega)
  replace hb15 := hb15.upd1 hU28 (by omega)
  replace hb1 := hb1.upd1 hU28 (by omega)
  replace hb2 := hb2.upd1 hU28 (by omega)
  replace hW7 := hW7.upd1 hU28 (by omega)
  replace hb8 := hb8.upd1 hU28 (by omega)
  replace hO11 := hO11.upd1 hU28 (by intro h1; have h3 : ((((B27 = B10) ∨ B27 = w10.heap.size)) ∧ B27 < w11.heap.size) := h1; omega)
  replace hBl12 := hBl12.upd1 hU28 (by omega)
  replace hBb12 := hBb12.upd1 hU28 (by omega)
  replace hBn12 := hBn12.upd1 hU28 (by omega)
  replace hO12 := hO12.upd1 hU28 (show ¬ (((w11.heap.size ≤ B27) ∧ B27 < w12.heap.size)) by omega)
  replace hP12 := hP12.upd1 hU28 (show ¬ (((w11.heap.size ≤ B27) ∧ B27 < w12.heap.size)) by omega)
  replace hb13 := hb13.upd1 hU28 (by omega)
  replace HU := HU.t1 hU28 (by omega)
  refine Wl_nil (W_region ?_)
  refine Wl_load (v := .int .i64 0) isAgg3 rfl hb27 rfl ?_
  refine Wl_v (r_add rfl rfl (show IntKind.i64.wrap (0 + 1) = 1 by decide)) ?_
  refine Wl_store (v := .int .i64 1) (cs' := [.int .i64 1]) sizeOf3 rfl rfl rfl rfl hb27 rfl rfl ?_
  intro w29 hU29 hzz29 hb27n
  replace hb27 := hb27n; clear hb27n
  have hzw29 := hU29.size
  replace hdf17 := hdf17.upd1 hU29 (by omega)
  replace hb15 := hb15.upd1 hU29 (by omega)
  replace hb1 := hb1.upd1 hU29 (by omega)
  replace hb2 := hb2.upd1 hU29 (by omega)
  replace hW7 := hW7.upd1 hU29 (by omega)
  replace hb8 := hb8.upd1 hU29 (by omega)
  replace hO11 := hO11.upd1 hU29 (by intro h1; have h3 : ((((B27 = B10) ∨ B27 = w10.heap.size)) ∧ B27 < w11.heap.size) := h1; omega)
  replace hBl12 := hBl12.upd1 hU29 (by omega)
  replace hBb12 := hBb12.upd1 hU29 (by omega)
  replace hBn12 := hBn12.upd1 hU29 (by omega)
  replace hO12 := hO12.upd1 hU29 (show ¬ (((w11.heap.size ≤ B27) ∧ B27 < w12.heap.size)) by omega)
  replace hP12 := hP12.upd1 hU29 (show ¬ (((w11.heap.size ≤ B27) ∧ B27 < w12.heap.size)) by omega)
  replace hb13 := hb13.upd1 hU29 (by omega)
  replace HU := HU.t1 hU29 (by omega)
  refine Wl_nil (W_seq (W_seq (W_region ?_)))
  refine Wl_load (v := .int .i64 1) isAgg3 rfl hb27 rfl ?_
  refine Wl_v (v := .bool true) (r_lt (a := 1) (b := 2) rfl rfl) ?_
  refine Wl_nil ?_
  refine W_cond_t rfl ?_
  refine W_skip (W_seq (W_block (W_seq (W_region ?_))))
  refine Wl_alloc (cs := [.int .i64 0]) zeroValue3 rfl ?_
  intro B30 w30 hB30 hU30 hzz30 hb30
  have hzw30 := hU30.size
  replace hdf17 := hdf17.upd0 hU30
  replace hb15 := hb15.upd0 hU30
  replace hb1 := hb1.upd0 hU30
  replace hb2 := hb2.upd0 hU30
  replace hW7 := hW7.upd0 hU30
  replace hb8 := hb8.upd0 hU30
  replace hO11 := hO11.upd0 hU30
  replace hBl12 := hBl12.upd0 hU30
  replace hBb12 := hBb12.upd0 hU30
  replace hBn12 := hBn12.upd0 hU30
  replace hO12 := hO12.upd0 hU30
  replace hP12 := hP12.upd0 hU30
  replace hb13 := hb13.upd0 hU30
  replace HU := HU.trans0 hU30
  replace hb27 := hb27.upd0 hU30
  refine Wl_store (v := .int .i64 0) (cs' := [.int .i64 0]) sizeOf3 rfl rfl rfl rfl hb30 rfl rfl ?_
  intro w31 hU31 hzz31 hb30n
  replace hb30 := hb30n; clear hb30n
  have hzw31 := hU31.size
  replace hdf17 := hdf17.upd1 hU31 (by omega)
  replace hb15 := hb15.upd1 hU31 (by omega)
  replace hb1 := hb1.upd1 hU31 (by omega)
  replace hb2 := hb2.upd1 hU31 (by omega)
  replace hW7 := hW7.upd1 hU31 (by omega)
  replace hb8 := hb8.upd1 hU31 (by omega)
  replace hO11 := hO11.upd1 hU31 (by intro h1; have h3 : ((((B30 = B10) ∨ B30 = w10.heap.size)) ∧ B30 < w11.heap.size) := h1; omega)
  replace hBl12 := hBl12.upd1 hU31 (by omega)
  replace hBb12 := hBb12.upd1 hU31 (by omega)
  replace hBn12 := hBn12.upd1 hU31 (by omega)
  replace hO12 := hO12.upd1 hU31 (show ¬ (((w11.heap.size ≤ B30) ∧ B30 < w12.heap.size)) by omega)
  replace hP12 := hP12.upd1 hU31 (show ¬ (((w11.heap.size ≤ B30) ∧ B30 < w12.heap.size)) by omega)
  replace hb13 := hb13.upd1 hU31 (by omega)
  replace HU := HU.t1 hU31 (by omega)
  replace hb27 := hb27.upd1 hU31 (by omega)
  refine Wl_nil (W_seq (W_seq (W_region ?_)))
  refine Wmv (.func (.func 70) #[] #[.pointer (some ⟨Bl12, 0, none⟩), .pointer (some ⟨Bb12, 0, none⟩), .pointer (some ⟨Bn12, 0, none⟩)]) ?_
  refine Wl_nil (W_block ?_)
  refine W_range (gf := 70) (ar := fun y => #[y, .pointer (some ⟨Bl12, 0, none⟩), .pointer (some ⟨Bb12, 0, none⟩), .pointer (some ⟨Bn12, 0, none⟩)]) rfl call70 (fun y => by simp) ?_
  intro D32 fn32 w32 hD32 hU32 hzz32 hdf32 hrc320
  have hzw32 := hU32.size
  replace hdf17 := hdf17.upd0 hU32
  replace hb15 := hb15.upd0 hU32
  replace hb1 := hb1.upd0 hU32
  replace hb2 := hb2.upd0 hU32
  replace hW7 := hW7.upd0 hU32
  replace hb8 := hb8.upd0 hU32
  replace hO11 := hO11.upd0 hU32
  replace hBl12 := hBl12.upd0 hU32
  replace hBb12 := hBb12.upd0 hU32
  replace hBn12 := hBn12.upd0 hU32
  replace hO12 := hO12.upd0 hU32
  replace hP12 := hP12.upd0 hU32
  replace hb13 := hb13.upd0 hU32
  replace HU := HU.trans0 hU32
  replace hb27 := hb27.upd0 hU32
  replace hb30 := hb30.upd0 hU32
  obtain ⟨r32, hr32, hrc32⟩ : ∃ r, r = _ ∧ Rec w32 (D32 + 1) r := ⟨_, rfl, hrc320⟩
  clear hrc320
  obtain ⟨J32, hJ32⟩ : ∃ J : Nat → World → Prop, ∀ i w', J i w' ↔ (Rec w' (D32 + 1) r32 ∧ Dfr w' D32 ∧ Blk w' B30 [.int .i64 ((i : Nat) : Int)] ∧ Dfr w' D17 ∧ Blk w' B15 [.int .i64 ((nE l b nn : Nat) : Int)] ∧ Blk w' B1 [.int .i64 many] ∧ Blk w' B2 [.bool false] ∧ Rws w' w2.heap.size G7 a7 (nE l b nn) c7 (zL l b nn) ∧ Blk w' B8 [.slice a7 (nE l b nn) c7] ∧ Own w' (fun g => ((((g = B10) ∨ g = w10.heap.size)) ∧ g < w11.heap.size)) 5 1 (.slice a11 m c11) m (ints .u8 b) ∧ Blk w' Bl12 [.slice a12 n c12] ∧ Blk w' Bb12 [.slice e12 m f12] ∧ Blk w' Bn12 [.int .i64 nn] ∧ Own w' (fun g => ((w11.heap.size ≤ g) ∧ g < w12.heap.size)) 3 1 (.slice a12 n c12) n (ints .i64 l) ∧ Own w' (fun g => ((w11.heap.size ≤ g) ∧ g < w12.heap.size)) 5 1 (.slice e12 m f12) m (ints .u8 b) ∧ Blk w' B13 [.int .i64 0] ∧ Blk w' B27 [.int .i64 1] ∧ Upd No w w') := ⟨_, fun _ _ => Iff.rfl⟩
  obtain ⟨Jx32, hJx32⟩ : ∃ Jx : World → Prop, ∀ w', Jx w' ↔ (False) := ⟨_, fun _ => Iff.rfl⟩
  refine (dparts1 (ly := (D32 + 1)) (J := J32) (Jx := Jx32) (Sb := (fun g => g = B30 ∨ g = D32 + 1)) w32 hBl12 hBb12 hBn12 hO12.sl hP12.sl (by omega) (by omega) hb rnn (by intro g h1 h2; have h3 : ((w11.heap.size ≤ g) ∧ g < w12.heap.size) := h1; have h4 : g = B30 ∨ g = D32 + 1 := h2; omega) (by intro g h1 h2; have h4 : g = B30 ∨ g = D32 + 1 := h2; omega) ?_ ?_ ?_ ?_).mono ?_
  ·exact (hJ32 _ _).2 ⟨hrc32, hdf32, hb30, hdf17, hb15, hb1, hb2, hW7, hb8, hO11, hBl12, hBb12, hBn12, hO12, hP12, hb13, hb27, HU⟩
  ·intro i wa wb hh hUs
   obtain ⟨hrc32, hdf32, hb30, hdf17, hb15, hb1, hb2, hW7, hb8, hO11, hBl12, hBb12, hBn12, hO12, hP12, hb13, hb27, HU⟩ := (hJ32 _ _).1 hh
   replace hrc32 := hrc32.upd hUs (by show ¬ (_ ≤ _); omega)
   replace hdf32 := hdf32.upd hUs (by show ¬ (_ ≤ _); omega)
   replace hb30 := hb30.upd hUs (by show ¬ (_ ≤ _); omega)
   replace hdf17 := hdf17.upd hUs (by show ¬ (_ ≤ _); omega)
   replace hb15 := hb15.upd hUs (by show ¬ (_ ≤ _); omega)
   replace hb1 := hb1.upd hUs (by show ¬ (_ ≤ _); omega)
   replace hb2 := hb2.upd hUs (by show ¬ (_ ≤ _); omega)
   replace hW7 := hW7.upd hUs (by intro x hx; have hx2 : w32.heap.size ≤ x := hx; omega)
   replace hb8 := hb8.upd hUs (by show ¬ (_ ≤ _); omega)
   replace hO11 := hO11.upd hUs (by intro x h1 h2; have h3 : ((((x = B10) ∨ x = w10.heap.size)) ∧ x < w11.heap.size) := h1; have h4 : w32.heap.size ≤ x := h2; omega)
   replace hBl12 := hBl12.upd hUs (by show ¬ (_ ≤ _); omega)
   replace hBb12 := hBb12.upd hUs (by show ¬ (_ ≤ _); omega)
   replace hBn12 := hBn12.upd hUs (by show ¬ (_ ≤ _); omega)
   replace hO12 := hO12.upd hUs (by intro x h1 h2; have h3 : ((w11.heap.size ≤ x) ∧ x < w12.heap.size) := h1; have h4 : w32.heap.size ≤ x := h2; omega)
   replace hP12 := hP12.upd hUs (by intro x h1 h2; have h3 : ((w11.heap.size ≤ x) ∧ x < w12.heap.size) := h1; have h4 : w32.heap.size ≤ x := h2; omega)
   replace hb13 := hb13.upd hUs (by show ¬ (_ ≤ _); omega)
   replace hb27 := hb27.upd hUs (by show ¬ (_ ≤ _); omega)
   replace HU := HU.trans hUs (by intro x hx; have hx2 : w32.heap.size ≤ x := hx; show (False) ∨ w.heap.size ≤ x; omega)
   exact (hJ32 _ _).2 ⟨hrc32, hdf32, hb30, hdf17, hb15, hb1, hb2, hW7, hb8, hO11, hBl12, hBb12, hBn12, hO12, hP12, hb13, hb27, HU⟩
  ·intro wa wb hh hUs
   exact ((hJx32 _).1 hh).elim
  ·intro i33 w33 hi33 hh
   obtain ⟨hrc32, hdf32, hb30, hdf17, hb15, hb1, hb2, hW7, hb8, hO11, hBl12, hBb12, hBn12, hO12, hP12, hb13, hb27, HU⟩ := (hJ32 _ _).1 hh
   have hrl32 := hrc32.lt
   intro ax mx cx hsx
   have HB32 : Upd (fun g => g = B30 ∨ g = D32 + 1) w33 w33 := Upd.refl _ _
   refine yieldC_of_W (R := fun b c w' => (b = true ∧ Upd (fun g => g = B30 ∨ g = D32 + 1) w33 w' ∧ J32 (i33 + 1) w') ∨ (b = false ∧ Upd (fun g => g = B30 ∨ g = D32 + 1) w33 w' ∧ Jx32 w')) hrc32 (by rw [hr32]; rfl) (by rw [hr32]; exact zip2 _ _ _ _ _ _) ?_ ?_
   ·rw [hr32]
    refine W_seq (W_region ?_)
    refine Was (.int .i64 ((i33 : Nat) : Int)) ?_
    refine Wl_nil (W_region ?_)
    refine Was (.slice ax mx cx) ?_
    refine Wl_nil ?_
    refine ⟨rfl, _, hrc32, (by rw [hr32]), ?_⟩
    intro w34 hU34 hzz34 hrc32b
    have hzw34 := hU34.size
    replace hdf32 := hdf32.upd1 hU34 (by omega)
    replace hb30 := hb30.upd1 hU34 (by omega)
    replace hdf17 := hdf17.upd1 hU34 (by omega)
    replace hb15 := hb15.upd1 hU34 (by omega)
    replace hb1 := hb1.upd1 hU34 (by omega)
    replace hb2 := hb2.upd1 hU34 (by omega)
    replace hW7 := hW7.upd1 hU34 (by omega)
    replace hb8 := hb8.upd1 hU34 (by omega)
    replace hO11 := hO11.upd1 hU34 (by intro h1; have h3 : (((((D32 + 1) = B10) ∨ (D32 + 1) = w10.heap.size)) ∧ (D32 + 1) < w11.heap.size) := h1; omega)
    replace hBl12 := hBl12.upd1 hU34 (by omega)
    replace hBb12 := hBb12.upd1 hU34 (by omega)
    replace hBn12 := hBn12.upd1 hU34 (by omega)
    replace hO12 := hO12.upd1 hU34 (show ¬ (((w11.heap.size ≤ (D32 + 1)) ∧ (D32 + 1) < w12.heap.size)) by omega)
    replace hP12 := hP12.upd1 hU34 (show ¬ (((w11.heap.size ≤ (D32 + 1)) ∧ (D32 + 1) < w12.heap.size)) by omega)
    replace hb13 := hb13.upd1 hU34 (by omega)
    replace hb27 := hb27.upd1 hU34 (by omega)
    replace HU := HU.trans1 hU34 (by show (False) ∨ w.heap.size ≤ (D32 + 1); omega)
    replace hsx := hsx.upd1 hU34 (show ¬ (w32.heap.size ≤ (D32 + 1)) by omega)
    replace HB32 := HB32.trans1 hU34 (by show ((D32 + 1) = B30 ∨ (D32 + 1) = D32 + 1) ∨ w33.heap.size ≤ (D32 + 1); omega)
    clear hrc32
    have hrc32 := hrc32b
    clear hrc32b
    refine W_block (W_seq (W_seq ?_))
    refine W_drawt rfl (l0 := tf 0 19) (by kernel_rfl) ?_
    refine Tk 0 (tf 1 19) rfl (YI_v (v := .int .i64 ((i33 : Nat) : Int)) rfl (fun w' hw' => r_mv (v := .int .i64 ((i33 : Nat) : Int)) rfl)) ?_
    refine Tk 1 (tf 2 19) rfl (YI_v (v := .int .i64 ((i33 : Nat) : Int)) rfl (fun w' hw' => r_load isAgg3 rfl (by rw [(hb30.upd0 hw').cell]; rfl))) ?_
    refine Tk 2 (tf 3 19) rfl (YI_v (v := .bool (decide (((i33 : Nat) : Int) ≠ ((i33 : Nat) : Int)))) rfl (fun w' hw' => r_ne rfl rfl)) ?_
    refine Tk 3 (tf 4 19) rfl (YI_v (v := .bool (decide (((i33 : Nat) : Int) ≠ ((i33 : Nat) : Int)))) rfl (fun w' hw' => r_mv (v := .bool (decide (((i33 : Nat) : Int) ≠ ((i33 : Nat) : Int)))) rfl)) ?_
    have q8 : ¬ (((i33 : Nat) : Int) ≠ ((i33 : Nat) : Int)) := (by omega)
    rw [decide_eq_false q8]
    refine Tk 4 (tf 5 19) rfl (YI_v (v := .int .i64 ((i33 : Nat) : Int)) rfl (fun w' hw' => r_load isAgg3 rfl (by rw [(hb30.upd0 hw').cell]; rfl))) ?_
    refine Tk 5 (tf 6 19) rfl (YI_v (v := .slice a7 (nE l b nn) c7) rfl (fun w' hw' => r_load isAgg41 rfl (by rw [(hb8.upd0 hw').cell]; rfl))) ?_
    refine Tk 6 (tf 7 19) rfl (YI_v (v := .int .i64 (((nE l b nn) : Nat) : Int)) rfl (fun w' hw' => r_len underlying41 rfl)) ?_
    refine Tk 7 (tf 8 19) rfl (YI_v (v := .bool (decide ((((nE l b nn) : Nat) : Int) ≤ ((i33 : Nat) : Int)))) rfl (fun w' hw' => r_ge rfl rfl)) ?_
    refine Tk 8 (tf 9 19) rfl (YI_v rfl (fun w' hw' => r_pick_f (v := .bool (decide ((((nE l b nn) : Nat) : Int) ≤ ((i33 : Nat) : Int)))) rfl rfl)) ?_
    refine Tk 9 (tf 10 19) rfl (YI_v (v := .bool (decide ((((nE l b nn) : Nat) : Int) ≤ ((i33 : Nat) : Int)))) rfl (fun w' hw' => r_mv (v := .bool (decide ((((nE l b nn) : Nat) : Int) ≤ ((i33 : Nat) : Int)))) rfl)) ?_
    have q9 : ¬ ((((nE l b nn) : Nat) : Int) ≤ ((i33 : Nat) : Int)) := (by omega)
    rw [decide_eq_false q9]
    refine Tk 10 (tf 11 19) rfl (YI_v (v := .slice ax mx cx) rfl (fun w' hw' => r_mv (v := .slice ax mx cx) rfl)) ?_
    refine Tk 11 (tf 12 19) rfl (YI_v (v := .string (strOfNums ((zL l b nn).getD i33 []))) rfl (fun w' hw' => r_bstr underlying32 underlying5 underlying9 rfl (hsx.upd0 hw'))) ?_
    refine Tk 12 (tf 13 19) rfl (YI_v (v := .slice a7 (nE l b nn) c7) rfl (fun w' hw' => r_load isAgg41 rfl (by rw [(hb8.upd0 hw').cell]; rfl))) ?_
    refine Tk 13 (tf 14 19) rfl (YI_v (v := .int .i64 ((i33 : Nat) : Int)) rfl (fun w' hw' => r_load isAgg3 rfl (by rw [(hb30.upd0 hw').cell]; rfl))) ?_
    obtain ⟨ax35, mx35, cx35, ib35, io35, ha35, hc35, hsy35⟩ := hW7.at (i := i33) hi33
    refine Tk 14 (tf 15 19) rfl (YI_v (v := .pointer (some ⟨ib35, io35 + i33 * 1, none⟩)) rfl (fun w' hw' => r_idx (b := ib35) (off := io35) (m := (nE l b nn)) (c := c7) (o' := io35 + i33 * 1) underlying41 sizeOf32 (by rw [← ha35]; rfl) rfl (by omega) (by omega) (by omega))) ?_
    refine Tk 15 (tf 16 19) rfl (YI_v (v := .slice ax35 mx35 cx35) rfl (fun w' hw' => r_load isAgg32 rfl (hw'.cellk hc35))) ?_
    refine Tk 16 (tf 17 19) rfl (YI_v (v := .string (strOfNums ((zL l b nn).getD i33 []))) rfl (fun w' hw' => r_bstr underlying32 underlying5 underlying9 rfl (hsy35.upd0 hw'))) ?_
    refine Tk 17 (tf 18 19) rfl (YI_v (v := .bool (!decide (((zL l b nn).getD i33 []) = ((zL l b nn).getD i33 [])))) rfl (fun w' hw' => r_nestr (show Byt ((zL l b nn).getD i33 []) from (zL_byt _ _ _ _)) (show Byt ((zL l b nn).getD i33 []) from (zL_byt _ _ _ _)) rfl rfl)) ?_
    refine Tk 18 (tf 19 19) rfl (YI_v rfl (fun w' hw' => r_pick_f (v := .bool (!decide (((zL l b nn).getD i33 []) = ((zL l b nn).getD i33 [])))) rfl rfl)) ?_
    intro w36 hU36
    have hzw36 := hU36.size
    replace hrc32 := hrc32.upd0 hU36
    replace hdf32 := hdf32.upd0 hU36
    replace hb30 := hb30.upd0 hU36
    replace hdf17 := hdf17.upd0 hU36
    replace hb15 := hb15.upd0 hU36
    replace hb1 := hb1.upd0 hU36
    replace hb2 := hb2.upd0 hU36
    replace hW7 := hW7.upd0 hU36
    replace hb8 := hb8.upd0 hU36
    replace hO11 := hO11.upd0 hU36
    replace hBl12 := hBl12.upd0 hU36
    replace hBb12 := hBb12.upd0 hU36
    replace hBn12 := hBn12.upd0 hU36
    replace hO12 := hO12.upd0 hU36
    replace hP12 := hP12.upd0 hU36
    replace hb13 := hb13.upd0 hU36
    replace hb27 := hb27.upd0 hU36
    replace HU := HU.trans0 hU36
    replace HB32 := HB32.trans0 hU36
    refine Wa_done (by kernel_rfl) ?_
    have q10 : ((zL l b nn).getD i33 []) = ((zL l b nn).getD i33 []) := rfl
    rw [decide_eq_true q10]
    simp only [Bool.not_true, Bool.not_false]
    refine W_cond_f rfl ?_
    refine W_skip (W_seq (W_region ?_))
    refine Wl_load (v := .int .i64 ((i33 : Nat) : Int)) isAgg3 rfl hb30 rfl ?_
    refine Wl_v (r_add rfl rfl (wi64 (by omega) (by omega))) ?_
    refine Wl_store (v := .int .i64 (((i33 : Nat) : Int) + 1)) (cs' := [.int .i64 (((i33 : Nat) : Int) + 1)]) sizeOf3 rfl rfl rfl rfl hb30 rfl rfl ?_
    intro w37 hU37 hzz37 hb30n
    replace hb30 := hb30n; clear hb30n
    have hzw37 := hU37.size
    replace hrc32 := hrc32.upd1 hU37 (by omega)
    replace hdf32 := hdf32.upd1 hU37 (by omega)
    replace hdf17 := hdf17.upd1 hU37 (by omega)
    replace hb15 := hb15.upd1 hU37 (by omega)
    replace hb1 := hb1.upd1 hU37 (by omega)
    replace hb2 := hb2.upd1 hU37 (by omega)
    replace hW7 := hW7.upd1 hU37 (by omega)
    replace hb8 := hb8.upd1 hU37 (by omega)
    replace hO11 := hO11.upd1 hU37 (by intro h1; have h3 : ((((B30 = B10) ∨ B30 = w10.heap.size)) ∧ B30 < w11.heap.size) := h1; omega)
    replace hBl12 := hBl12.upd1 hU37 (by omega)
    replace hBb12 := hBb12.upd1 hU37 (by omega)
    replace hBn12 := hBn12.upd1 hU37 (by omega)
    replace hO12 := hO12.upd1 hU37 (show ¬ (((w11.heap.size ≤ B30) ∧ B30 < w12.heap.size)) by omega)
    replace hP12 := hP12.upd1 hU37 (show ¬ (((w11.heap.size ≤ B30) ∧ B30 < w12.heap.size)) by omega)
    replace hb13 := hb13.upd1 hU37 (by omega)
    replace hb27 := hb27.upd1 hU37 (by omega)
    replace HU := HU.t1 hU37 (by omega)
    replace HB32 := HB32.trans1 hU37 (by show (B30 = B30 ∨ B30 = D32 + 1) ∨ w33.heap.size ≤ B30; omega)
    refine Wl_nil (W_seq (W_region ?_))
    refine Wl_load (v := .int .i64 1) isAgg3 rfl hb27 rfl ?_
    refine Wl_v (v := .bool false) (r_eq (a := 1) (b := 0) rfl rfl) ?_
    refine Wmv (.bool false) ?_
    refine Wl_guard_f rfl (Wl_guard_f rfl (Wl_guard_f rfl ?_))
    refine Wl_v (r_pick_f (v := .bool false) rfl rfl) ?_
    refine Wl_nil ?_
    refine W_cond_f rfl ?_
    refine W_skip ?_
    refine ⟨rfl, _, hrc32, ?_⟩
    intro w38 hU38 hzz38 hrz
    have hzw38 := hU38.size
    replace hdf32 := hdf32.upd1 hU38 (by omega)
    replace hb30 := hb30.upd1 hU38 (by omega)
    replace hdf17 := hdf17.upd1 hU38 (by omega)
    replace hb15 := hb15.upd1 hU38 (by omega)
    replace hb1 := hb1.upd1 hU38 (by omega)
    replace hb2 := hb2.upd1 hU38 (by omega)
    replace hW7 := hW7.upd1 hU38 (by omega)
    replace hb8 := hb8.upd1 hU38 (by omega)
    replace hO11 := hO11.upd1 hU38 (by intro h1; have h3 : (((((D32 + 1) = B10) ∨ (D32 + 1) = w10.heap.size)) ∧ (D32 + 1) < w11.heap.size) := h1; omega)
    replace hBl12 := hBl12.upd1 hU38 (by omega)
    replace hBb12 := hBb12.upd1 hU38 (by omega)
    replace hBn12 := hBn12.upd1 hU38 (by omega)
    replace hO12 := hO12.upd1 hU38 (show ¬ (((w11.heap.size ≤ (D32 + 1)) ∧ (D32 + 1) < w12.heap.size)) by omega)
    replace hP12 := hP12.upd1 hU38 (show ¬ (((w11.heap.size ≤ (D32 + 1)) ∧ (D32 + 1) < w12.heap.size)) by omega)
    replace hb13 := hb13.upd1 hU38 (by omega)
    replace hb27 := hb27.upd1 hU38 (by omega)
    replace HU := HU.trans1 hU38 (by show (False) ∨ w.heap.size ≤ (D32 + 1); omega)
    replace HB32 := HB32.trans1 hU38 (by show ((D32 + 1) = B30 ∨ (D32 + 1) = D32 + 1) ∨ w33.heap.size ≤ (D32 + 1); omega)
    exact Or.inl ⟨rfl, HB32, (hJ32 _ _).2 ⟨(by rw [hr32]; rw [hr32] at hrz; exact hrz), hdf32, hb30, hdf17, hb15, hb1, hb2, hW7, hb8, hO11, hBl12, hBb12, hBn12, hO12, hP12, hb13, hb27, HU⟩⟩
   rintro b c w9 (⟨rfl, h1, h2⟩ | ⟨rfl, h1, h2⟩)
   ·exact Or.inl ⟨rfl, h1, h2⟩
   exact Or.inr ⟨rfl, h1, h2⟩
  rintro e w39 ⟨v, rfl, hh | hh⟩
  ·obtain ⟨hrc32, hdf32, hb30, hdf17, hb15, hb1, hb2, hW7, hb8, hO11, hBl12, hBb12, hBn12, hO12, hP12, hb13, hb27, HU⟩ := (hJ32 _ _).1 hh
   have hrl32 := hrc32.lt
   refine ⟨r32, hrc32, (by rw [hr32]; simp), ?_⟩
   intro w40 hU40 hzz40
   have hzw40 := hU40.size
   replace hdf32 := hdf32.upd1 hU40 (by omega)
   replace hb30 := hb30.upd1 hU40 (by omega)
   replace hdf17 := hdf17.upd1 hU40 (by omega)
   replace hb2 := hb2.upd1 hU40 (by omega)
   replace hb8 := hb8.upd1 hU40 (by omega)
   replace hb27 := hb27.upd1 hU40 (by omega)
   replace HU := HU.trans1 hU40 (by show (False) ∨ w.heap.size ≤ (D32 + 1); omega)
   rw [hr32]
   skip
   refine W_seq (W_region ?_)
   refine Wl_load (v := .int .i64 1) isAgg3 rfl hb27 rfl ?_
   refine Wl_v (v := .bool false) (r_eq (a := 1) (b := 0) rfl rfl) ?_
   refine Wmv (.bool false) ?_
   refine Wl_guard_f rfl (Wl_guard_f rfl (Wl_guard_f rfl (Wl_guard_f rfl (Wl_guard_f rfl (Wl_guard_f rfl (Wl_guard_f rfl ?_))))))
   refine Wl_v (r_pick_f (v := .bool false) rfl rfl) ?_
   refine Wmv (.bool false) ?_
   refine Wl_guard_t rfl ?_
   refine Wl_load (v := .int .i64 1) isAgg3 rfl hb27 rfl ?_
   refine Wl_guard_t rfl ?_
   refine Wl_v (v := .bool true) (r_eq (a := 1) (b := 1) rfl rfl) ?_
   refine Wl_guard_t rfl ?_
   refine Wmv (.bool true) ?_
   refine Wl_guard_t rfl ?_
   refine Wl_load (v := .int .i64 ((nE l b nn : Nat) : Int)) isAgg3 rfl hb30 rfl ?_
   refine Wl_guard_t rfl ?_
   refine Wl_load (v := .slice a7 (nE l b nn) c7) isAgg41 rfl hb8 rfl ?_
   refine Wl_guard_t rfl ?_
   refine Wl_v (r_len underlying41 rfl) ?_
   refine Wl_guard_t rfl ?_
   refine Wl_v (r_ne rfl rfl) ?_
   refine Wl_guard_t rfl ?_
   refine Wl_v (r_pick_t (v := .bool (decide (((nE l b nn : Nat) : Int) ≠ (((nE l b nn) : Nat) : Int)))) rfl rfl) ?_
   refine Wl_v (r_pick_f (v := .bool (decide (((nE l b nn : Nat) : Int) ≠ (((nE l b nn) : Nat) : Int)))) rfl rfl) ?_
   refine Wl_nil ?_
   have q11 : ¬ (((nE l b nn : Nat) : Int) ≠ (((nE l b nn) : Nat) : Int)) := (by omega)
   rw [decide_eq_false q11]
   refine W_cond_f rfl ?_
   refine W_skip (W_seq (W_seq (W_region ?_)))
   refine Wl_load (v := .int .i64 1) isAgg3 rfl hb27 rfl ?_
   refine Wl_nil (W_region ?_)
   refine Wl_alloc (cs := [.int .i64 0]) zeroValue3 rfl ?_
   intro B41 w41 hB41 hU41 hzz41 hb41
   have hzw41 := hU41.size
   replace hdf32 := hdf32.upd0 hU41
   replace hdf17 := hdf17.upd0 hU41
   replace hb2 := hb2.upd0 hU41
   replace HU := HU.trans0 hU41
   refine Wl_store (v := .int .i64 1) (cs' := [.int .i64 1]) sizeOf3 rfl rfl rfl rfl hb41 rfl rfl ?_
   intro w42 hU42 hzz42 hb41n
   replace hb41 := hb41n; clear hb41n
   have hzw42 := hU42.size
   replace hdf32 := hdf32.upd1 hU42 (by omega)
   replace hdf17 := hdf17.upd1 hU42 (by omega)
   replace hb2 := hb2.upd1 hU42 (by omega)
   replace HU := HU.t1 hU42 (by omega)
   refine Wl_nil (W_region ?_)
   refine Wl_load (v := .int .i64 1) isAgg3 rfl hb41 rfl ?_
   refine Wl_v (r_add rfl rfl (show IntKind.i64.wrap (1 + 1) = 2 by decide)) ?_
   refine Wl_store (v := .int .i64 2) (cs' := [.int .i64 2]) sizeOf3 rfl rfl rfl rfl hb41 rfl rfl ?_
   intro w43 hU43 hzz43 hb41n
   replace hb41 := hb41n; clear hb41n
   have hzw43 := hU43.size
   replace hdf32 := hdf32.upd1 hU43 (by omega)
   replace hdf17 := hdf17.upd1 hU43 (by omega)
   replace hb2 := hb2.upd1 hU43 (by omega)
   replace HU := HU.t1 hU43 (by omega)
   refine Wl_nil (W_seq (W_seq (W_region ?_)))
   refine Wl_load (v := .int .i64 2) isAgg3 rfl hb41 rfl ?_
   refine Wl_v (v := .bool false) (r_lt (a := 2) (b := 2) rfl rfl) ?_
   refine Wl_nil ?_
   refine W_cond_f rfl ?_
   refine W_exit ?_
   refine W_seq (W_region ?_)
   refine Wl_call (r_call0 rfl call16 ) (works18 _ ) ?_
   rintro v w44 ⟨rfl, hU44⟩
   have hzw44 := hU44.size
   replace hdf32 := hdf32.upd0 hU44
   replace hdf17 := hdf17.upd0 hU44
   replace hb2 := hb2.upd0 hU44
   replace HU := HU.trans0 hU44
   refine Wl_store (v := .bool true) (cs' := [.bool true]) sizeOf4 rfl rfl rfl rfl hb2 rfl rfl ?_
   intro w45 hU45 hzz45 hb2n
   replace hb2 := hb2n; clear hb2n
   have hzw45 := hU45.size
   replace hdf32 := hdf32.upd1 hU45 (by omega)
   replace hdf17 := hdf17.upd1 hU45 (by omega)
   replace HU := HU.t1 hU45 (by omega)
   refine Wl_nil ?_
   refine W_ret ?_
   refine ret_ds rfl ?_
   refine lv_mark (by simp) hdf32 ?_
   intro w46 hU46 hzz46
   have hzw46 := hU46.size
   replace hdf17 := hdf17.upd1 hU46 (by omega)
   replace hb2 := hb2.upd1 hU46 (by omega)
   replace HU := HU.t1 hU46 (by omega)
   refine lv_mark (by simp) hdf17 ?_
   intro w47 hU47 hzz47
   have hzw47 := hU47.size
   replace hb2 := hb2.upd1 hU47 (by omega)
   replace HU := HU.t1 hU47 (by omega)
   refine lv_nil (v := .bool true) (rc1 results10 rfl (cellIs isAgg4 hb2)) ?_
   exact ⟨_, rfl, rfl, HU⟩
  exact ((hJx32 _).1 hh).elim
 obtain ⟨ij, hrc17, hdf17, hb15, hb1, hb2, hW7, hb8, hO11, hBl12, hBb12, hBn12, hO12, hP12, hb13, HU, hq0, hq1, hq2⟩ := (hJx17 _).1 hh
 have hrl17 := hrc17.lt
 refine ⟨_, hrc17, (by simp), ?_⟩
 intro w48 hU48 hzz48
 have hzw48 := hU48.size
 replace hdf17 := hdf17.upd1 hU48 (by omega)
 replace hb15 := hb15.upd1 hU48 (by omega)
 replace hb1 := hb1.upd1 hU48 (by omega)
 replace hb2 := hb2.upd1 hU48 (by omega)
 replace hW7 := hW7.upd1 hU48 (by omega)
 replace hb8 := hb8.upd1 hU48 (by omega)
 replace hO11 := hO11.upd1 hU48 (by intro h1; have h3 : (((((D17 + 1) = B10) ∨ (D17 + 1) = w10.heap.size)) ∧ (D17 + 1) < w11.heap.size) := h1; omega)
 replace hBl12 := hBl12.upd1 hU48 (by omega)
 replace hBb12 := hBb12.upd1 hU48 (by omega)
 replace hBn12 := hBn12.upd1 hU48 (by omega)
 replace hO12 := hO12.upd1 hU48 (show ¬ (((w11.heap.size ≤ (D17 + 1)) ∧ (D17 + 1) < w12.heap.size)) by omega)
 replace hP12 := hP12.upd1 hU48 (show ¬ (((w11.heap.size ≤ (D17 + 1)) ∧ (D17 + 1) < w12.heap.size)) by omega)
 replace hb13 := hb13.upd1 hU48 (by omega)
 replace HU := HU.trans1 hU48 (by show (False) ∨ w.heap.size ≤ (D17 + 1); omega)
 refine W_exit ?_
 refine W_seq (W_region ?_)
 refine Wl_load (v := .int .i64 0) isAgg3 rfl hb13 rfl ?_
 refine Wl_v (v := .bool true) (r_eq (a := 0) (b := 0) rfl rfl) ?_
 refine Wmv (.bool true) ?_
 refine Wl_guard_t rfl ?_
 refine Wl_load (v := .int .i64 (((ij : Nat) : Int) + 1)) isAgg3 rfl hb15 rfl ?_
 refine Wl_guard_t rfl ?_
 refine Wl_load (v := .slice a7 (nE l b nn) c7) isAgg41 rfl hb8 rfl ?_
 refine Wl_guard_t rfl ?_
 refine Wl_v (r_len underlying41 rfl) ?_
 refine Wl_guard_t rfl ?_
 refine Wl_load (v := .int .i64 many) isAgg3 rfl hb1 rfl ?_
 refine Wl_guard_t rfl ?_
 refine Wl_v (r_max rfl rfl) ?_
 refine Wl_guard_t rfl ?_
 refine Wl_v (r_min rfl rfl) ?_
 refine Wl_guard_t rfl ?_
 refine Wl_v (r_ne rfl rfl) ?_
 refine Wl_v (r_pick_t (v := .bool (decide ((((ij : Nat) : Int) + 1) ≠ (min (((nE l b nn) : Nat) : Int) (max 1 many))))) rfl rfl) ?_
 refine Wmv (.bool (decide ((((ij : Nat) : Int) + 1) ≠ (min (((nE l b nn) : Nat) : Int) (max 1 many))))) ?_
 have q12 : ¬ ((((ij : Nat) : Int) + 1) ≠ (min (((nE l b nn) : Nat) : Int) (max 1 many))) := (by omega)
 rw [decide_eq_false q12]
 refine Wl_guard_t rfl ?_
 refine Wl_load (v := .int .i64 0) isAgg3 rfl hb13 rfl ?_
 refine Wl_guard_t rfl ?_
 refine Wl_v (v := .bool false) (r_eq (a := 0) (b := 1) rfl rfl) ?_
 refine Wl_guard_t rfl ?_
 refine Wmv (.bool false) ?_
 refine Wl_guard_f rfl (Wl_guard_f rfl (Wl_guard_f rfl (Wl_guard_f rfl (Wl_guard_t rfl ?_))))
 refine Wl_v (r_pick_f (v := .bool false) rfl rfl) ?_
 refine Wl_v (r_pick_f (v := .bool false) rfl rfl) ?_
 refine Wl_nil ?_
 refine W_cond_f rfl ?_
 refine W_skip (W_seq (W_seq (W_region ?_)))
 refine Wl_load (v := .int .i64 0) isAgg3 rfl hb13 rfl ?_
 refine Wl_nil (W_region ?_)
 refine Wl_alloc (cs := [.int .i64 0]) zeroValue3 rfl ?_
 intro B49 w49 hB49 hU49 hzz49 hb49
 have hzw49 := hU49.size
 replace hdf17 := hdf17.upd0 hU49
 replace hb15 := hb15.upd0 hU49
 replace hb1 := hb1.upd0 hU49
 replace hb2 := hb2.upd0 hU49
 replace hW7 := hW7.upd0 hU49
 replace hb8 := hb8.upd0 hU49
 replace hO11 := hO11.upd0 hU49
 replace hBl12 := hBl12.upd0 hU49
 replace hBb12 := hBb12.upd0 hU49
 replace hBn12 := hBn12.upd0 hU49
 replace hO12 := hO12.upd0 hU49
 replace hP12 := hP12.upd0 hU49
 replace hb13 := hb13.upd0 hU49
 replace HU := HU.trans0 hU49
 refine Wl_store (v := .int .i64 0) (cs' := [.int .i64 0]) sizeOf3 rfl rfl rfl rfl hb49 rfl rfl ?_
 intro w50 hU50 hzz50 hb49n
 replace hb49 := hb49n; clear hb49n
 have hzw50 := hU50.size
 replace hdf17 := hdf17.upd1 hU50 (by omega)
 replace hb15 := hb15.upd1 hU50 (by omega)
 replace hb1 := hb1.upd1 hU50 (by omega)
 replace hb2 := hb2.upd1 hU50 (by omega)
 replace hW7 := hW7.upd1 hU50 (by omega)
 replace hb8 := hb8.upd1 hU50 (by omega)
 replace hO11 := hO11.upd1 hU50 (by intro h1; have h3 : ((((B49 = B10) ∨ B49 = w10.heap.size)) ∧ B49 < w11.heap.size) := h1; omega)
 replace hBl12 := hBl12.upd1 hU50 (by omega)
 replace hBb12 := hBb12.upd1 hU50 (by omega)
 replace hBn12 := hBn12.upd1 hU50 (by omega)
 replace hO12 := hO12.upd1 hU50 (show ¬ (((w11.heap.size ≤ B49) ∧ B49 < w12.heap.size)) by omega)
 replace hP12 := hP12.upd1 hU50 (show ¬ (((w11.heap.size ≤ B49) ∧ B49 < w12.heap.size)) by omega)
 replace hb13 := hb13.upd1 hU50 (by omega)
 replace HU := HU.t1 hU50 (by omega)
 refine Wl_nil (W_region ?_)
 refine Wl_load (v := .int .i64 0) isAgg3 rfl hb49 rfl ?_
 refine Wl_v (r_add rfl rfl (show IntKind.i64.wrap (0 + 1) = 1 by decide)) ?_
 refine Wl_store (v := .int .i64 1) (cs' := [.int .i64 1]) sizeOf3 rfl rfl rfl rfl hb49 rfl rfl ?_
 intro w51 hU51 hzz51 hb49n
 replace hb49 := hb49n; clear hb49n
 have hzw51 := hU51.size
 replace hdf17 := hdf17.upd1 hU51 (by omega)
 replace hb15 := hb15.upd1 hU51 (by omega)
 replace hb1 := hb1.upd1 hU51 (by omega)
 replace hb2 := hb2.upd1 hU51 (by omega)
 replace hW7 := hW7.upd1 hU51 (by omega)
 replace hb8 := hb8.upd1 hU51 (by omega)
 replace hO11 := hO11.upd1 hU51 (by intro h1; have h3 : ((((B49 = B10) ∨ B49 = w10.heap.size)) ∧ B49 < w11.heap.size) := h1; omega)
 replace hBl12 := hBl12.upd1 hU51 (by omega)
 replace hBb12 := hBb12.upd1 hU51 (by omega)
 replace hBn12 := hBn12.upd1 hU51 (by omega)
 replace hO12 := hO12.upd1 hU51 (show ¬ (((w11.heap.size ≤ B49) ∧ B49 < w12.heap.size)) by omega)
 replace hP12 := hP12.upd1 hU51 (show ¬ (((w11.heap.size ≤ B49) ∧ B49 < w12.heap.size)) by omega)
 replace hb13 := hb13.upd1 hU51 (by omega)
 replace HU := HU.t1 hU51 (by omega)
 refine Wl_nil (W_seq (W_seq (W_region ?_)))
 refine Wl_load (v := .int .i64 1) isAgg3 rfl hb49 rfl ?_
 refine Wl_v (v := .bool true) (r_lt (a := 1) (b := 2) rfl rfl) ?_
 refine Wl_nil ?_
 refine W_cond_t rfl ?_
 refine W_skip (W_seq (W_block (W_seq (W_region ?_))))
 refine Wl_alloc (cs := [.int .i64 0]) zeroValue3 rfl ?_
 intro B52 w52 hB52 hU52 hzz52 hb52
 have hzw52 := hU52.size
 replace hdf17 := hdf17.upd0 hU52
 replace hb15 := hb15.upd0 hU52
 replace hb1 := hb1.upd0 hU52
 replace hb2 := hb2.upd0 hU52
 replace hW7 := hW7.upd0 hU52
 replace hb8 := hb8.upd0 hU52
 replace hO11 := hO11.upd0 hU52
 replace hBl12 := hBl12.upd0 hU52
 replace hBb12 := hBb12.upd0 hU52
 replace hBn12 := hBn12.upd0 hU52
 replace hO12 := hO12.upd0 hU52
 replace hP12 := hP12.upd0 hU52
 replace hb13 := hb13.upd0 hU52
 replace HU := HU.trans0 hU52
 replace hb49 := hb49.upd0 hU52
 refine Wl_store (v := .int .i64 0) (cs' := [.int .i64 0]) sizeOf3 rfl rfl rfl rfl hb52 rfl rfl ?_
 intro w53 hU53 hzz53 hb52n
 replace hb52 := hb52n; clear hb52n
 have hzw53 := hU53.size
 replace hdf17 := hdf17.upd1 hU53 (by omega)
 replace hb15 := hb15.upd1 hU53 (by omega)
 replace hb1 := hb1.upd1 hU53 (by omega)
 replace hb2 := hb2.upd1 hU53 (by omega)
 replace hW7 := hW7.upd1 hU53 (by omega)
 replace hb8 := hb8.upd1 hU53 (by omega)
 replace hO11 := hO11.upd1 hU53 (by intro h1; have h3 : ((((B52 = B10) ∨ B52 = w10.heap.size)) ∧ B52 < w11.heap.size) := h1; omega)
 replace hBl12 := hBl12.upd1 hU53 (by omega)
 replace hBb12 := hBb12.upd1 hU53 (by omega)
 replace hBn12 := hBn12.upd1 hU53 (by omega)
 replace hO12 := hO12.upd1 hU53 (show ¬ (((w11.heap.size ≤ B52) ∧ B52 < w12.heap.size)) by omega)
 replace hP12 := hP12.upd1 hU53 (show ¬ (((w11.heap.size ≤ B52) ∧ B52 < w12.heap.size)) by omega)
 replace hb13 := hb13.upd1 hU53 (by omega)
 replace HU := HU.t1 hU53 (by omega)
 replace hb49 := hb49.upd1 hU53 (by omega)
 refine Wl_nil (W_seq (W_seq (W_region ?_)))
 refine Wmv (.func (.func 70) #[] #[.pointer (some ⟨Bl12, 0, none⟩), .pointer (some ⟨Bb12, 0, none⟩), .pointer (some ⟨Bn12, 0, none⟩)]) ?_
 refine Wl_nil (W_block ?_)
 refine W_range (gf := 70) (ar := fun y => #[y, .pointer (some ⟨Bl12, 0, none⟩), .pointer (some ⟨Bb12, 0, none⟩), .pointer (some ⟨Bn12, 0, none⟩)]) rfl call70 (fun y => by simp) ?_
 intro D54 fn54 w54 hD54 hU54 hzz54 hdf54 hrc540
 have hzw54 := hU54.size
 replace hdf17 := hdf17.upd0 hU54
 replace hb15 := hb15.upd0 hU54
 replace hb1 := hb1.upd0 hU54
 replace hb2 := hb2.upd0 hU54
 replace hW7 := hW7.upd0 hU54
 replace hb8 := hb8.upd0 hU54
 replace hO11 := hO11.upd0 hU54
 replace hBl12 := hBl12.upd0 hU54
 replace hBb12 := hBb12.upd0 hU54
 replace hBn12 := hBn12.upd0 hU54
 replace hO12 := hO12.upd0 hU54
 replace hP12 := hP12.upd0 hU54
 replace hb13 := hb13.upd0 hU54
 replace HU := HU.trans0 hU54
 replace hb49 := hb49.upd0 hU54
 replace hb52 := hb52.upd0 hU54
 obtain ⟨r54, hr54, hrc54⟩ : ∃ r, r = _ ∧ Rec w54 (D54 + 1) r := ⟨_, rfl, hrc540⟩
 clear hrc540
 obtain ⟨J54, hJ54⟩ : ∃ J : Nat → World → Prop, ∀ i w', J i w' ↔ (Rec w' (D54 + 1) r54 ∧ Dfr w' D54 ∧ Blk w' B52 [.int .i64 ((i : Nat) : Int)] ∧ Dfr w' D17 ∧ Blk w' B15 [.int .i64 (((ij : Nat) : Int) + 1)] ∧ Blk w' B1 [.int .i64 many] ∧ Blk w' B2 [.bool false] ∧ Rws w' w2.heap.size G7 a7 (nE l b nn) c7 (zL l b nn) ∧ Blk w' B8 [.slice a7 (nE l b nn) c7] ∧ Own w' (fun g => ((((g = B10) ∨ g = w10.heap.size)) ∧ g < w11.heap.size)) 5 1 (.slice a11 m c11) m (ints .u8 b) ∧ Blk w' Bl12 [.slice a12 n c12] ∧ Blk w' Bb12 [.slice e12 m f12] ∧ Blk w' Bn12 [.int .i64 nn] ∧ Own w' (fun g => ((w11.heap.size ≤ g) ∧ g < w12.heap.size)) 3 1 (.slice a12 n c12) n (ints .i64 l) ∧ Own w' (fun g => ((w11.heap.size ≤ g) ∧ g < w12.heap.size)) 5 1 (.slice e12 m f12) m (ints .u8 b) ∧ Blk w' B13 [.int .i64 0] ∧ Blk w' B49 [.int .i64 1] ∧ Upd No w w') := ⟨_, fun _ _ => Iff.rfl⟩
 obtain ⟨Jx54, hJx54⟩ : ∃ Jx : World → Prop, ∀ w', Jx w' ↔ (False) := ⟨_, fun _ => Iff.rfl⟩
 refine (dparts1 (ly := (D54 + 1)) (J := J54) (Jx := Jx54) (Sb := (fun g => g = B52 ∨ g = D54 + 1)) w54 hBl12 hBb12 hBn12 hO12.sl hP12.sl (by omega) (by omega) hb rnn (by intro g h1 h2; have h3 : ((w11.heap.size ≤ g) ∧ g < w12.heap.size) := h1; have h4 : g = B52 ∨ g = D54 + 1 := h2; omega) (by intro g h1 h2; have h4 : g = B52 ∨ g = D54 + 1 := h2; omega) ?_ ?_ ?_ ?_).mono ?_
 ·exact (hJ54 _ _).2 ⟨hrc54, hdf54, hb52, hdf17, hb15, hb1, hb2, hW7, hb8, hO11, hBl12, hBb12, hBn12, hO12, hP12, hb13, hb49, HU⟩
 ·intro i wa wb hh hUs
  obtain ⟨hrc54, hdf54, hb52, hdf17, hb15, hb1, hb2, hW7, hb8, hO11, hBl12, hBb12, hBn12, hO12, hP12, hb13, hb49, HU⟩ := (hJ54 _ _).1 hh
  replace hrc54 := hrc54.upd hUs (by show ¬ (_ ≤ _); omega)
  replace hdf54 := hdf54.upd hUs (by show ¬ (_ ≤ _); omega)
  replace hb52 := hb52.upd hUs (by show ¬ (_ ≤ _); omega)
  replace hdf17 := hdf17.upd hUs (by show ¬ (_ ≤ _); omega)
  replace hb15 := hb15.upd hUs (by show ¬ (_ ≤ _); omega)
  replace hb1 := hb1.upd hUs (by show ¬ (_ ≤ _); omega)
  replace hb2 := hb2.upd hUs (by show ¬ (_ ≤ _); omega)
  replace hW7 := hW7.upd hUs (by intro x hx; have hx2 : w54.heap.size ≤ x := hx; omega)
  replace hb8 := hb8.upd hUs (by show ¬ (_ ≤ _); omega)
  replace hO11 := hO11.upd hUs (by intro x h1 h2; have h3 : ((((x = B10) ∨ x = w10.heap.size)) ∧ x < w11.heap.size) := h1; have h4 : w54.heap.size ≤ x := h2; omega)
  replace hBl12 := hBl12.upd hUs (by show ¬ (_ ≤ _); omega)
  replace hBb12 := hBb12.upd hUs (by show ¬ (_ ≤ _); omega)
  replace hBn12 := hBn12.upd hUs (by show ¬ (_ ≤ _); omega)
  replace hO12 := hO12.upd hUs (by intro x h1 h2; have h3 : ((w11.heap.size ≤ x) ∧ x < w12.heap.size) := h1; have h4 : w54.heap.size ≤ x := h2; omega)
  replace hP12 := hP12.upd hUs (by intro x h1 h2; have h3 : ((w11.heap.size ≤ x) ∧ x < w12.heap.size) := h1; have h4 : w54.heap.size ≤ x := h2; omega)
  replace hb13 := hb13.upd hUs (by show ¬ (_ ≤ _); omega)
  replace hb49 := hb49.upd hUs (by show ¬ (_ ≤ _); omega)
  replace HU := HU.trans hUs (by intro x hx; have hx2 : w54.heap.size ≤ x := hx; show (False) ∨ w.heap.size ≤ x; omega)
  exact (hJ54 _ _).2 ⟨hrc54, hdf54, hb52, hdf17, hb15, hb1, hb2, hW7, hb8, hO11, hBl12, hBb12, hBn12, hO12, hP12, hb13, hb49, HU⟩
 ·intro wa wb hh hUs
  exact ((hJx54 _).1 hh).elim
 ·intro i55 w55 hi55 hh
  obtain ⟨hrc54, hdf54, hb52, hdf17, hb15, hb1, hb2, hW7, hb8, hO11, hBl12, hBb12, hBn12, hO12, hP12, hb13, hb49, HU⟩ := (hJ54 _ _).1 hh
  have hrl54 := hrc54.lt
  intro ax mx cx hsx
  have HB54 : Upd (fun g => g = B52 ∨ g = D54 + 1) w55 w55 := Upd.refl _ _
  refine yieldC_of_W (R := fun b c w' => (b = true ∧ Upd (fun g => g = B52 ∨ g = D54 + 1) w55 w' ∧ J54 (i55 + 1) w') ∨ (b = false ∧ Upd (fun g => g = B52 ∨ g = D54 + 1) w55 w' ∧ Jx54 w')) hrc54 (by rw [hr54]; rfl) (by rw [hr54]; exact zip2 _ _ _ _ _ _) ?_ ?_
  ·rw [hr54]
   refine W_seq (W_region ?_)
   refine Was (.int .i64 ((i55 : Nat) : Int)) ?_
   refine Wl_nil (W_region ?_)
   refine Was (.slice ax mx cx) ?_
   refine Wl_nil ?_
   refine ⟨rfl, _, hrc54, (by rw [hr54]), ?_⟩
   intro w56 hU56 hzz56 hrc54b
   have hzw56 := hU56.size
   replace hdf54 := hdf54.upd1 hU56 (by omega)
   replace hb52 := hb52.upd1 hU56 (by omega)
   replace hdf17 := hdf17.upd1 hU56 (by omega)
   replace hb15 := hb15.upd1 hU56 (by omega)
   replace hb1 := hb1.upd1 hU56 (by omega)
   replace hb2 := hb2.upd1 hU56 (by omega)
   replace hW7 := hW7.upd1 hU56 (by omega)
   replace hb8 := hb8.upd1 hU56 (by omega)
   replace hO11 := hO11.upd1 hU56 (by intro h1; have h3 : (((((D54 + 1) = B10) ∨ (D54 + 1) = w10.heap.size)) ∧ (D54 + 1) < w11.heap.size) := h1; omega)
   replace hBl12 := hBl12.upd1 hU56 (by omega)
   replace hBb12 := hBb12.upd1 hU56 (by omega)
   replace hBn12 := hBn12.upd1 hU56 (by omega)
   replace hO12 := hO12.upd1 hU56 (show ¬ (((w11.heap.size ≤ (D54 + 1)) ∧ (D54 + 1) < w12.heap.size)) by omega)
   replace hP12 := hP12.upd1 hU56 (show ¬ (((w11.heap.size ≤ (D54 + 1)) ∧ (D54 + 1) < w12.heap.size)) by omega)
   replace hb13 := hb13.upd1 hU56 (by omega)
   replace hb49 := hb49.upd1 hU56 (by omega)
   replace HU := HU.trans1 hU56 (by show (False) ∨ w.heap.size ≤ (D54 + 1); omega)
   replace hsx := hsx.upd1 hU56 (show ¬ (w54.heap.size ≤ (D54 + 1)) by omega)
   replace HB54 := HB54.trans1 hU56 (by show ((D54 + 1) = B52 ∨ (D54 + 1) = D54 + 1) ∨ w55.heap.size ≤ (D54 + 1); omega)
   clear hrc54
   have hrc54 := hrc54b
   clear hrc54b
   refine W_block (W_seq (W_seq ?_))
   refine W_drawt rfl (l0 := tf 0 19) (by kernel_rfl) ?_
   refine Tk 0 (tf 1 19) rfl (YI_v (v := .int .i64 ((i55 : Nat) : Int)) rfl (fun w' hw' => r_mv (v := .int .i64 ((i55 : Nat) : Int)) rfl)) ?_
   refine Tk 1 (tf 2 19) rfl (YI_v (v := .int .i64 ((i55 : Nat) : Int)) rfl (fun w' hw' => r_load isAgg3 rfl (by rw [(hb52.upd0 hw').cell]; rfl))) ?_
   refine Tk 2 (tf 3 19) rfl (YI_v (v := .bool (decide (((i55 : Nat) : Int) ≠ ((i55 : Nat) : Int)))) rfl (fun w' hw' => r_ne rfl rfl)) ?_
   refine Tk 3 (tf 4 19) rfl (YI_v (v := .bool (decide (((i55 : Nat) : Int) ≠ ((i55 : Nat) : Int)))) rfl (fun w' hw' => r_mv (v := .bool (decide (((i55 : Nat) : Int) ≠ ((i55 : Nat) : Int)))) rfl)) ?_
   have q13 : ¬ (((i55 : Nat) : Int) ≠ ((i55 : Nat) : Int)) := (by omega)
   rw [decide_eq_false q13]
   refine Tk 4 (tf 5 19) rfl (YI_v (v := .int .i64 ((i55 : Nat) : Int)) rfl (fun w' hw' => r_load isAgg3 rfl (by rw [(hb52.upd0 hw').cell]; rfl))) ?_
   refine Tk 5 (tf 6 19) rfl (YI_v (v := .slice a7 (nE l b nn) c7) rfl (fun w' hw' => r_load isAgg41 rfl (by rw [(hb8.upd0 hw').cell]; rfl))) ?_
   refine Tk 6 (tf 7 19) rfl (YI_v (v := .int .i64 (((nE l b nn) : Nat) : Int)) rfl (fun w' hw' => r_len underlying41 rfl)) ?_
   refine Tk 7 (tf 8 19) rfl (YI_v (v := .bool (decide ((((nE l b nn) : Nat) : Int) ≤ ((i55 : Nat) : Int)))) rfl (fun w' hw' => r_ge rfl rfl)) ?_
   refine Tk 8 (tf 9 19) rfl (YI_v rfl (fun w' hw' => r_pick_f (v := .bool (decide ((((nE l b nn) : Nat) : Int) ≤ ((i55 : Nat) : Int)))) rfl rfl)) ?_
   refine Tk 9 (tf 10 19) rfl (YI_v (v := .bool (decide ((((nE l b nn) : Nat) : Int) ≤ ((i55 : Nat) : Int)))) rfl (fun w' hw' => r_mv (v := .bool (decide ((((nE l b nn) : Nat) : Int) ≤ ((i55 : Nat) : Int)))) rfl)) ?_
   have q14 : ¬ ((((nE l b nn) : Nat) : Int) ≤ ((i55 : Nat) : Int)) := (by omega)
   rw [decide_eq_false q14]
   refine Tk 10 (tf 11 19) rfl (YI_v (v := .slice ax mx cx) rfl (fun w' hw' => r_mv (v := .slice ax mx cx) rfl)) ?_
   refine Tk 11 (tf 12 19) rfl (YI_v (v := .string (strOfNums ((zL l b nn).getD i55 []))) rfl (fun w' hw' => r_bstr underlying32 underlying5 underlying9 rfl (hsx.upd0 hw'))) ?_
   refine Tk 12 (tf 13 19) rfl (YI_v (v := .slice a7 (nE l b nn) c7) rfl (fun w' hw' => r_load isAgg41 rfl (by rw [(hb8.upd0 hw').cell]; rfl))) ?_
   refine Tk 13 (tf 14 19) rfl (YI_v (v := .int .i64 ((i55 : Nat) : Int)) rfl (fun w' hw' => r_load isAgg3 rfl (by rw [(hb52.upd0 hw').cell]; rfl))) ?_
   obtain ⟨ax57, mx57, cx57, ib57, io57, ha57, hc57, hsy57⟩ := hW7.at (i := i55) hi55
   refine Tk 14 (tf 15 19) rfl (YI_v (v := .pointer (some ⟨ib57, io57 + i55 * 1, none⟩)) rfl (fun w' hw' => r_idx (b := ib57) (off := io57) (m := (nE l b nn)) (c := c7) (o' := io57 + i55 * 1) underlying41 sizeOf32 (by rw [← ha57]; rfl) rfl (by omega) (by omega) (by omega))) ?_
   refine Tk 15 (tf 16 19) rfl (YI_v (v := .slice ax57 mx57 cx57) rfl (fun w' hw' => r_load isAgg32 rfl (hw'.cellk hc57))) ?_
   refine Tk 16 (tf 17 19) rfl (YI_v (v := .string (strOfNums ((zL l b nn).getD i55 []))) rfl (fun w' hw' => r_bstr underlying32 underlying5 underlying9 rfl (hsy57.upd0 hw'))) ?_
   refine Tk 17 (tf 18 19) rfl (YI_v (v := .bool (!decide (((zL l b nn).getD i55 []) = ((zL l b nn).getD i55 [])))) rfl (fun w' hw' => r_nestr (show Byt ((zL l b nn).getD i55 []) from (zL_byt _ _ _ _)) (show Byt ((zL l b nn).getD i55 []) from (zL_byt _ _ _ _)) rfl rfl)) ?_
   refine Tk 18 (tf 19 19) rfl (YI_v rfl (fun w' hw' => r_pick_f (v := .bool (!decide (((zL l b nn).getD i55 []) = ((zL l b nn).getD i55 [])))) rfl rfl)) ?_
   intro w58 hU58
   have hzw58 := hU58.size
   replace hrc54 := hrc54.upd0 hU58
   replace hdf54 := hdf54.upd0 hU58
   replace hb52 := hb52.upd0 hU58
   replace hdf17 := hdf17.upd0 hU58
   replace hb15 := hb15.upd0 hU58
   replace hb1 := hb1.upd0 hU58
   replace hb2 := hb2.upd0 hU58
   replace hW7 := hW7.upd0 hU58
   replace hb8 := hb8.upd0 hU58
   replace hO11 := hO11.upd0 hU58
   replace hBl12 := hBl12.upd0 hU58
   replace hBb12 := hBb12.upd0 hU58
   replace hBn12 := hBn12.upd0 hU58
   replace hO12 := hO12.upd0 hU58
   replace hP12 := hP12.upd0 hU58
   replace hb13 := hb13.upd0 hU58
   replace hb49 := hb49.upd0 hU58
   replace HU := HU.trans0 hU58
   replace HB54 := HB54.trans0 hU58
   refine Wa_done (by kernel_rfl) ?_
   have q15 : ((zL l b nn).getD i55 []) = ((zL l b nn).getD i55 []) := rfl
   rw [decide_eq_true q15]
   simp only [Bool.not_true, Bool.not_false]
   refine W_cond_f rfl ?_
   refine W_skip (W_seq (W_region ?_))
   refine Wl_load (v := .int .i64 ((i55 : Nat) : Int)) isAgg3 rfl hb52 rfl ?_
   refine Wl_v (r_add rfl rfl (wi64 (by omega) (by omega))) ?_
   refine Wl_store (v := .int .i64 (((i55 : Nat) : Int) + 1)) (cs' := [.int .i64 (((i55 : Nat) : Int) + 1)]) sizeOf3 rfl rfl rfl rfl hb52 rfl rfl ?_
   intro w59 hU59 hzz59 hb52n
   replace hb52 := hb52n; clear hb52n
   have hzw59 := hU59.size
   replace hrc54 := hrc54.upd1 hU59 (by omega)
   replace hdf54 := hdf54.upd1 hU59 (by omega)
   replace hdf17 := hdf17.upd1 hU59 (by omega)
   replace hb15 := hb15.upd1 hU59 (by omega)
   replace hb1 := hb1.upd1 hU59 (by omega)
   replace hb2 := hb2.upd1 hU59 (by omega)
   replace hW7 := hW7.upd1 hU59 (by omega)
   replace hb8 := hb8.upd1 hU59 (by omega)
   replace hO11 := hO11.upd1 hU59 (by intro h1; have h3 : ((((B52 = B10) ∨ B52 = w10.heap.size)) ∧ B52 < w11.heap.size) := h1; omega)
   replace hBl12 := hBl12.upd1 hU59 (by omega)
   replace hBb12 := hBb12.upd1 hU59 (by omega)
   replace hBn12 := hBn12.upd1 hU59 (by omega)
   replace hO12 := hO12.upd1 hU59 (show ¬ (((w11.heap.size ≤ B52) ∧ B52 < w12.heap.size)) by omega)
   replace hP12 := hP12.upd1 hU59 (show ¬ (((w11.heap.size ≤ B52) ∧ B52 < w12.heap.size)) by omega)
   replace hb13 := hb13.upd1 hU59 (by omega)
   replace hb49 := hb49.upd1 hU59 (by omega)
   replace HU := HU.t1 hU59 (by omega)
   replace HB54 := HB54.trans1 hU59 (by show (B52 = B52 ∨ B52 = D54 + 1) ∨ w55.heap.size ≤ B52; omega)
   refine Wl_nil (W_seq (W_region ?_))
   refine Wl_load (v := .int .i64 1) isAgg3 rfl hb49 rfl ?_
   refine Wl_v (v := .bool false) (r_eq (a := 1) (b := 0) rfl rfl) ?_
   refine Wmv (.bool false) ?_
   refine Wl_guard_f rfl (Wl_guard_f rfl (Wl_guard_f rfl ?_))
   refine Wl_v (r_pick_f (v := .bool false) rfl rfl) ?_
   refine Wl_nil ?_
   refine W_cond_f rfl ?_
   refine W_skip ?_
   refine ⟨rfl, _, hrc54, ?_⟩
   intro w60 hU60 hzz60 hrz
   have hzw60 := hU60.size
   replace hdf54 := hdf54.upd1 hU60 (by omega)
   replace hb52 := hb52.upd1 hU60 (by omega)
   replace hdf17 := hdf17.upd1 hU60 (by omega)
   replace hb15 := hb15.upd1 hU60 (by omega)
   replace hb1 := hb1.upd1 hU60 (by omega)
   replace hb2 := hb2.upd1 hU60 (by omega)
   replace hW7 := hW7.upd1 hU60 (by omega)
   replace hb8 := hb8.upd1 hU60 (by omega)
   replace hO11 := hO11.upd1 hU60 (by intro h1; have h3 : (((((D54 + 1) = B10) ∨ (D54 + 1) = w10.heap.size)) ∧ (D54 + 1) < w11.heap.size) := h1; omega)
   replace hBl12 := hBl12.upd1 hU60 (by omega)
   replace hBb12 := hBb12.upd1 hU60 (by omega)
   replace hBn12 := hBn12.upd1 hU60 (by omega)
   replace hO12 := hO12.upd1 hU60 (show ¬ (((w11.heap.size ≤ (D54 + 1)) ∧ (D54 + 1) < w12.heap.size)) by omega)
   replace hP12 := hP12.upd1 hU60 (show ¬ (((w11.heap.size ≤ (D54 + 1)) ∧ (D54 + 1) < w12.heap.size)) by omega)
   replace hb13 := hb13.upd1 hU60 (by omega)
   replace hb49 := hb49.upd1 hU60 (by omega)
   replace HU := HU.trans1 hU60 (by show (False) ∨ w.heap.size ≤ (D54 + 1); omega)
   replace HB54 := HB54.trans1 hU60 (by show ((D54 + 1) = B52 ∨ (D54 + 1) = D54 + 1) ∨ w55.heap.size ≤ (D54 + 1); omega)
   exact Or.inl ⟨rfl, HB54, (hJ54 _ _).2 ⟨(by rw [hr54]; rw [hr54] at hrz; exact hrz), hdf54, hb52, hdf17, hb15, hb1, hb2, hW7, hb8, hO11, hBl12, hBb12, hBn12, hO12, hP12, hb13, hb49, HU⟩⟩
  rintro b c w9 (⟨rfl, h1, h2⟩ | ⟨rfl, h1, h2⟩)
  ·exact Or.inl ⟨rfl, h1, h2⟩
  exact Or.inr ⟨rfl, h1, h2⟩
 rintro e w61 ⟨v, rfl, hh | hh⟩
 ·obtain ⟨hrc54, hdf54, hb52, hdf17, hb15, hb1, hb2, hW7, hb8, hO11, hBl12, hBb12, hBn12, hO12, hP12, hb13, hb49, HU⟩ := (hJ54 _ _).1 hh
  have hrl54 := hrc54.lt
  refine ⟨r54, hrc54, (by rw [hr54]; simp), ?_⟩
  intro w62 hU62 hzz62
  have hzw62 := hU62.size
  replace hdf54 := hdf54.upd1 hU62 (by omega)
  replace hb52 := hb52.upd1 hU62 (by omega)
  replace hdf17 := hdf17.upd1 hU62 (by omega)
  replace hb2 := hb2.upd1 hU62 (by omega)
  replace hb8 := hb8.upd1 hU62 (by omega)
  replace hb49 := hb49.upd1 hU62 (by omega)
  replace HU := HU.trans1 hU62 (by show (False) ∨ w.heap.size ≤ (D54 + 1); omega)
  rw [hr54]
  skip
  refine W_seq (W_region ?_)
  refine Wl_load (v := .int .i64 1) isAgg3 rfl hb49 rfl ?_
  refine Wl_v (v := .bool false) (r_eq (a := 1) (b := 0) rfl rfl) ?_
  refine Wmv (.bool false) ?_
  refine Wl_guard_f rfl (Wl_guard_f rfl (Wl_guard_f rfl (Wl_guard_f rfl (Wl_guard_f rfl (Wl_guard_f rfl (Wl_guard_f rfl ?_))))))
  refine Wl_v (r_pick_f (v := .bool false) rfl rfl) ?_
  refine Wmv (.bool false) ?_
  refine Wl_guard_t rfl ?_
  refine Wl_load (v := .int .i64 1) isAgg3 rfl hb49 rfl ?_
  refine Wl_guard_t rfl ?_
  refine Wl_v (v := .bool true) (r_eq (a := 1) (b := 1) rfl rfl) ?_
  refine Wl_guard_t rfl ?_
  refine Wmv (.bool true) ?_
  refine Wl_guard_t rfl ?_
  refine Wl_load (v := .int .i64 ((nE l b nn : Nat) : Int)) isAgg3 rfl hb52 rfl ?_
  refine Wl_guard_t rfl ?_
  refine Wl_load (v := .slice a7 (nE l b nn) c7) isAgg41 rfl hb8 rfl ?_
  refine Wl_guard_t rfl ?_
  refine Wl_v (r_len underlying41 rfl) ?_
  refine Wl_guard_t rfl ?_
  refine Wl_v (r_ne rfl rfl) ?_
  refine Wl_guard_t rfl ?_
  refine Wl_v (r_pick_t (v := .bool (decide (((nE l b nn : Nat) : Int) ≠ (((nE l b nn) : Nat) : Int)))) rfl rfl) ?_
  refine Wl_v (r_pick_f (v := .bool (decide (((nE l b nn : Nat) : Int) ≠ (((nE l b nn) : Nat) : Int)))) rfl rfl) ?_
  refine Wl_nil ?_
  have q16 : ¬ (((nE l b nn : Nat) : Int) ≠ (((nE l b nn) : Nat) : Int)) := (by omega)
  rw [decide_eq_false q16]
  refine W_cond_f rfl ?_
  refine W_skip (W_seq (W_seq (W_region ?_)))
  refine Wl_load (v := .int .i64 1) isAgg3 rfl hb49 rfl ?_
  refine Wl_nil (W_region ?_)
  refine Wl_alloc (cs := [.int .i64 0]) zeroValue3 rfl ?_
  intro B63 w63 hB63 hU63 hzz63 hb63
  have hzw63 := hU63.size
  replace hdf54 := hdf54.upd0 hU63
  replace hdf17 := hdf17.upd0 hU63
  replace hb2 := hb2.upd0 hU63
  replace HU := HU.trans0 hU63
  refine Wl_store (v := .int .i64 1) (cs' := [.int .i64 1]) sizeOf3 rfl rfl rfl rfl hb63 rfl rfl ?_
  intro w64 hU64 hzz64 hb63n
  replace hb63 := hb63n; clear hb63n
  have hzw64 := hU64.size
  replace hdf54 := hdf54.upd1 hU64 (by omega)
  replace hdf17 := hdf17.upd1 hU64 (by omega)
  replace hb2 := hb2.upd1 hU64 (by omega)
  replace HU := HU.t1 hU64 (by omega)
  refine Wl_nil (W_region ?_)
  refine Wl_load (v := .int .i64 1) isAgg3 rfl hb63 rfl ?_
  refine Wl_v (r_add rfl rfl (show IntKind.i64.wrap (1 + 1) = 2 by decide)) ?_
  refine Wl_store (v := .int .i64 2) (cs' := [.int .i64 2]) sizeOf3 rfl rfl rfl rfl hb63 rfl rfl ?_
  intro w65 hU65 hzz65 hb63n
  replace hb63 := hb63n; clear hb63n
  have hzw65 := hU65.size
  replace hdf54 := hdf54.upd1 hU65 (by omega)
  replace hdf17 := hdf17.upd1 hU65 (by omega)
  replace hb2 := hb2.upd1 hU65 (by omega)
  replace HU := HU.t1 hU65 (by omega)
  refine Wl_nil (W_seq (W_seq (W_region ?_)))
  refine Wl_load (v := .int .i64 2) isAgg3 rfl hb63 rfl ?_
  refine Wl_v (v := .bool false) (r_lt (a := 2) (b := 2) rfl rfl) ?_
  refine Wl_nil ?_
  refine W_cond_f rfl ?_
  refine W_exit ?_
  refine W_seq (W_region ?_)
  refine Wl_call (r_call0 rfl call16 ) (works18 _ ) ?_
  rintro v w66 ⟨rfl, hU66⟩
  have hzw66 := hU66.size
  replace hdf54 := hdf54.upd0 hU66
  replace hdf17 := hdf17.upd0 hU66
  replace hb2 := hb2.upd0 hU66
  replace HU := HU.trans0 hU66
  refine Wl_store (v := .bool true) (cs' := [.bool true]) sizeOf4 rfl rfl rfl rfl hb2 rfl rfl ?_
  intro w67 hU67 hzz67 hb2n
  replace hb2 := hb2n; clear hb2n
  have hzw67 := hU67.size
  replace hdf54 := hdf54.upd1 hU67 (by omega)
  replace hdf17 := hdf17.upd1 hU67 (by omega)
  replace HU := HU.t1 hU67 (by omega)
  refine Wl_nil ?_
  refine W_ret ?_
  refine ret_ds rfl ?_
  refine lv_mark (by simp) hdf54 ?_
  intro w68 hU68 hzz68
  have hzw68 := hU68.size
  replace hdf17 := hdf17.upd1 hU68 (by omega)
  replace hb2 := hb2.upd1 hU68 (by omega)
  replace HU := HU.t1 hU68 (by omega)
  refine lv_mark (by simp) hdf17 ?_
  intro w69 hU69 hzz69
  have hzw69 := hU69.size
  replace hb2 := hb2.upd1 hU69 (by omega)
  replace HU := HU.t1 hU69 (by omega)
  refine lv_nil (v := .bool true) (rc1 results10 rfl (cellIs isAgg4 hb2)) ?_
  exact ⟨_, rfl, rfl, HU⟩
 exact ((hJx54 _).1 hh).elim
end Go.Proofs.YtdppageondgjkaaGreat
