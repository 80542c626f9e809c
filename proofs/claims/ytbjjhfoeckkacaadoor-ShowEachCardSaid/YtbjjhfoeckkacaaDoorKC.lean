/-
  Several texts of this project, put together.
-/
import Derived.Test.YtbjjhfoeckkacaaDoorHA
import Derived.Test.YtbjjhfoeckkacaaDoorFB
set_option linter.unusedVariables false
set_option linter.unusedSimpArgs false
set_option maxRecDepth 100000
namespace Go.Proofs.YtbjjhfoeckkacaaDoor
open Go.Fw _root_.Go.Proofs.Tryd
theorem gword_in {bs : List Int} {q : Nat} (h : (gword bs q).2.2 = 0) : q + 4 ≤ bs.length ∧ (gword bs q).2.1 = q + 4 := by
 unfold gword at h ⊢
 by_cases h1 : bs.length < q + 4
 ·rw [if_pos h1] at h; simp at h
 rw [if_neg h1]; exact ⟨by omega, rfl⟩
theorem gword_cut0 {bs : List Int} {p q q' : Nat} {t : Nat} (hq : q + 4 ≤ t) (h : (gword bs (p + q)).2.2 = 0) (hq' : q' = q + 4) : gword ((bs.drop p).take t) q = ((gword bs (p + q)).1, q', 0) := by
 rw [gword_cut hq, if_pos h, h, (gword_in h).2, hq', show p + q + 4 - p = q + 4 from by omega]
theorem gword_cutE {bs : List Int} {p q : Nat} {t : Nat} (hq : q + 4 ≤ t) (h : ¬ (gword bs (p + q)).2.2 = 0) : gword ((bs.drop p).take t) q = ((gword bs (p + q)).1, q, (gword bs (p + q)).2.2) := by
 rw [gword_cut hq, if_neg h]
theorem gvar_cut0 {bs : List Int} {p q : Nat} {t : Nat} (hq : q + 9 ≤ t) (h : (gvar bs (p + q)).2.2 = 0) : gvar ((bs.drop p).take t) q = ((gvar bs (p + q)).1, (gvar bs (p + q)).2.1 - p, 0) := by
 rw [gvar_cut hq, if_pos h, h]
theorem gvar_cutE {bs : List Int} {p q : Nat} {t : Nat} (hq : q + 9 ≤ t) (h : ¬ (gvar bs (p + q)).2.2 = 0) : gvar ((bs.drop p).take t) q = ((gvar bs (p + q)).1, q, (gvar bs (p + q)).2.2) := by
 rw [gvar_cut hq, if_neg h]
theorem gvar_9 (bs : List Int) (q : Nat) : (gvar bs q).2.1 ≤ q + 9 := by
 have h9 := run_le 9 (bs.drop q)
 unfold gvar
 simp only
 split
 ·exact Nat.le_add_right _ _
 split
 ·exact Nat.le_add_right _ _
 split
 ·exact Nat.le_add_right _ _
 split
 ·exact Nat.le_add_right _ _
 show q + _ + 1 ≤ _; omega
theorem hdict_skip {bs : List Int} {p : Nat} (h : ¬ bs.getD (p + 4) 0 / 4 = 1) : hdict bs p = (0, p + 6, 0) := if_neg h
theorem hdict_do {bs : List Int} {p : Nat} (h : bs.getD (p + 4) 0 / 4 = 1) : hdict bs p = gword bs (p + 6) := if_pos h
theorem hsize_skip {bs : List Int} {p q : Nat} (h : ¬ bs.getD (p + 4) 0 % 2 = 1) : hsize bs p q = (-1, q, 0) := if_neg h
theorem hsize_do {bs : List Int} {p q : Nat} (h : bs.getD (p + 4) 0 % 2 = 1) : hsize bs p q = gvar bs q := if_pos h
theorem Hm_len {bs : List Int} {p : Nat} (h : Hm bs p) : ¬ bs.length < p + 4 := fun h2 => by have := hmk_short h2; have := h.1; simp_all
set_option maxHeartbeats 4000000 in
theorem get_spec {pb : Nat} {a : Option Addr} {n c p : Nat} {bs : List Int} (w : World) (hp : Blk w pb [.slice a n c, .int .i64 ((p : Nat) : Int)]) (hs : Sl w (fun g => g < w.heap.size ∧ g ≠ pb) 1 (.slice a n c) n (ints .u8 bs)) (hb : Byt bs) (hpn : p ≤ n) (hn : n ≤ 140737488355328) :
  Calls Tryd.prog 70 #[.pointer (some ⟨pb, 0, none⟩)] w (Ret fun v w' => v = .tuple #[.agg #[.int .i64 ((ghead bs p).1.1), .int .i64 ((ghead bs p).1.2.1), .int .u32 ((ghead bs p).1.2.2.1), .bool (decide ((ghead bs p).1.2.2.2 = true))], .int .i64 ((ghead bs p).2.2)] ∧ Blk w' pb [.slice a n c, .int .i64 (((ghead bs p).2.1 : Nat) : Int)] ∧ Upd (Is pb) w w') := by
 have HU : Upd (fun b => b = pb) w w := Upd.refl _ _
 have hbl_hp := hp.lt
 have hl_hs := ilen hs
 have hc_hs := hs.cap.1
 obtain ⟨t, ht⟩ : ∃ t, t = min 19 (n - p) := ⟨_, rfl⟩
 refine calls_of_W func70 rfl ntmps70 (by simp) ?_
 refine W_seq (W_region ?_)
 refine Wl_alloc (cs := [.int .i64 0, .int .i64 0, .int .u32 0, .bool false]) zeroValue41 rfl ?_
 intro B1 w1 hB1 hU1 hzz1 hb1
 have hzw1 := hU1.size
 replace hp := hp.upd0 hU1
 replace hs := hs.upd0 hU1
 replace HU := HU.trans0 hU1
 refine Was (.int .i64 0) ?_
 refine Wl_nil ?_
 refine W_scope ?_
 refine W_seq (W_region ?_)
 refine Wmv (.pointer (some ⟨pb, 0, none⟩)) ?_
 refine Wl_call (r_call1 rfl call66 rfl) (isf_spec _ hp (hs.cur (by intro h1; have h3 : (pb < w.heap.size ∧ pb ≠ pb) := h1; first | omega | simp at h3)) hb (by omega) (by omega)) ?_
 rintro v w2 ⟨rfl, hU2⟩
 have hzw2 := hU2.size
 replace hp := hp.upd0 hU2
 replace hs := hs.upd0 hU2
 replace HU := HU.trans0 hU2
 replace hb1 := hb1.upd0 hU2
 refine Wmv (.tuple #[.bool (decide ((hmk bs p).1 = 1)), .int .i64 ((hmk bs p).2)]) ?_
 refine Wl_v (r_ext (v := .bool (decide ((hmk bs p).1 = 1))) rfl rfl) ?_
 refine Wl_v (r_ext (v := .int .i64 ((hmk bs p).2)) rfl rfl) ?_
 refine Was (.bool (decide ((hmk bs p).1 = 1))) ?_
 refine Was (.int .i64 ((hmk bs p).2)) ?_
 refine Wl_nil (W_seq (W_seq (W_region ?_)))
 refine Wmv (.int .i64 ((hmk bs p).2)) ?_
 refine Wl_v (r_eq rfl rfl) ?_
 refine Wmv (.bool (decide (((hmk bs p).2) = 0))) ?_
 by_cases q1 : ((hmk bs p).2) = 0
 ·rw [decide_eq_true q1]
  refine Wl_guard_t rfl ?_
  refine Wmv (.bool (decide ((hmk bs p).1 = 1))) ?_
  refine Wl_guard_t rfl ?_
  refine Wl_v (r_not rfl) ?_
  refine Wl_v (r_pick_t (v := .bool (!decide ((hmk bs p).1 = 1))) rfl rfl) ?_
  refine Wl_nil ?_
  by_cases q2 : (hmk bs p).1 = 1
  ·have HM : Hm bs p := ⟨q1, q2⟩
   have hml := Hm_len HM
   have hq4_ := byt_gd hb (p + 4)
   have hq5_ := byt_gd hb (p + 5)
   rw [decide_eq_true q2]
   simp only [Bool.not_true, Bool.not_false]
   refine W_cond_f rfl ?_
   refine W_skip (W_seq (W_seq (W_region ?_)))
   refine Wmv (.int .i64 ((hmk bs p).2)) ?_
   refine Wl_v (r_ne rfl rfl) ?_
   refine Wl_nil ?_
   have q3 : ¬ (((hmk bs p).2) ≠ 0) := (fun h2 => h2 q1)
   rw [decide_eq_false q3]
   refine W_cond_f rfl ?_
   refine W_skip (W_seq (W_region ?_))
   refine Wmv (.pointer (some ⟨pb, 0, none⟩)) ?_
   refine Wl_call (r_call2 rfl call81 rfl rfl) (peek_k (t := t) (K := 19) _ hp (hs.cur (by intro h1; have h3 : (pb < w.heap.size ∧ pb ≠ pb) := h1; first | omega | simp at h3)) hb (by omega) (by omega) ht) ?_
   rintro v w3 ⟨a3, c3, rfl, hO3, hU3⟩
   have hzw3 := hU3.size
   replace hp := hp.upd0 hU3
   replace hs := hs.upd0 hU3
   replace HU := HU.trans0 hU3
   replace hb1 := hb1.upd0 hU3
   replace hO3 := hO3.tight
   have hl_hO3 := ilen hO3.sl
   have hc_hO3 := hO3.sl.cap.1
   refine Wl_call (r_call1 rfl call54 rfl) (new_spec _ hO3.sl.any (by omega)) ?_
   rintro v w4 ⟨pb4, a4, c4, rfl, hp4, hO4, hpg_4, hU4⟩
   have hzw4 := hU4.size
   replace hp := hp.upd0 hU4
   replace hs := hs.upd0 hU4
   replace HU := HU.trans0 hU4
   replace hb1 := hb1.upd0 hU4
   have hbl_hp4 := hp4.lt
   replace hO4 := hO4.tight
   have hl_hO4 := ilen hO4.sl
   have hc_hO4 := hO4.sl.cap.1
   refine Wl_alloc (cs := [.pointer none]) zeroValue112 rfl ?_
   intro B5 w5 hB5 hU5 hzz5 hb5
   have hzw5 := hU5.size
   replace hp := hp.upd0 hU5
   replace hs := hs.upd0 hU5
   replace HU := HU.trans0 hU5
   replace hb1 := hb1.upd0 hU5
   replace hp4 := hp4.upd0 hU5
   replace hO4 := hO4.upd0 hU5
   refine Wl_store (v := .pointer (some ⟨pb4, 0, none⟩)) (cs' := [.pointer (some ⟨pb4, 0, none⟩)]) sizeOf112 rfl rfl rfl rfl hb5 rfl rfl ?_
   intro w6 hU6 hzz6 hb5n
   replace hb5 := hb5n; clear hb5n
   have hzw6 := hU6.size
   replace hp := hp.upd1 hU6 (by omega)
   replace hs := hs.upd1 hU6 (show ¬ ((B5 < w.heap.size ∧ B5 ≠ pb)) by omega)
   replace HU := HU.trans1 hU6 (by show (B5 = pb) ∨ w.heap.size ≤ B5; omega)
   replace hb1 := hb1.upd1 hU6 (by omega)
   replace hp4 := hp4.upd1 hU6 (by omega)
   replace hO4 := hO4.upd1 hU6 (show ¬ (((w3.heap.size ≤ B5 ∧ B5 ≠ pb4) ∧ B5 < w4.heap.size)) by omega)
   refine Wl_nil (W_seq (W_region ?_))
   refine Wl_load (v := .pointer (some ⟨pb4, 0, none⟩)) isAgg112 rfl hb5 rfl ?_
   refine Wl_call (r_call2 rfl call82 rfl rfl) (cbytes_k (K := 4) (p := 0) _ hp4 (hO4.sl.cur (by intro h1; have h3 : ((w3.heap.size ≤ pb4 ∧ pb4 ≠ pb4) ∧ pb4 < w4.heap.size) := h1; first | omega | simp at h3)) (byt_take (byt_drop hb _) _) (by omega) (by omega) (by omega)) ?_
   rintro v w7 ⟨a7, c7, rfl, hp7, hO7, hU7⟩
   have hzw7 := hU7.size
   replace hp := hp.upd1 hU7 (by omega)
   replace hs := hs.upd1 hU7 (show ¬ ((pb4 < w.heap.size ∧ pb4 ≠ pb)) by omega)
   replace HU := HU.trans1 hU7 (by show (pb4 = pb) ∨ w.heap.size ≤ pb4; omega)
   replace hb1 := hb1.upd1 hU7 (by omega)
   replace hO4 := hO4.upd1 hU7 (show ¬ (((w3.heap.size ≤ pb4 ∧ pb4 ≠ pb4) ∧ pb4 < w4.heap.size)) by omega)
   replace hb5 := hb5.upd1 hU7 (by omega)
   have hbl_hp7 := hp7.lt
   replace hO7 := hO7.tight
   have hl_hO7 := ilen hO7.sl
   have hc_hO7 := hO7.sl.cap.1
   replace hp7 : Blk w7 pb4 [.slice a4 t c4, .int .i64 ((4 : Nat) : Int)] := hp7
   refine Wl_nil (W_seq (W_region ?_))
   refine Wl_v (r_build (pl := #[(0, 1), (1, 1), (2, 1), (3, 1)]) (pv := [(1, .int .i64 (-1))]) (cs := #[.int .i64 0, .int .i64 (-1), .int .u32 0, .bool false]) zeroValue41 underlying41 (fun w => by kernel_rfl) (by simp only [List.map_toArray, List.map_cons, List.map_nil] <;> rfl) (by kernel_rfl)) ?_
   refine Wl_alloc (cs := [.int .i64 0, .int .i64 0, .int .u32 0, .bool false]) zeroValue41 rfl ?_
   intro B8 w8 hB8 hU8 hzz8 hb8
   have hzw8 := hU8.size
   replace hp := hp.upd0 hU8
   replace hs := hs.upd0 hU8
   replace HU := HU.trans0 hU8
   replace hb1 := hb1.upd0 hU8
   replace hO4 := hO4.upd0 hU8
   replace hb5 := hb5.upd0 hU8
   replace hp7 := hp7.upd0 hU8
   refine Wl_storea (off := 0) (vs := [.int .i64 0, .int .i64 (-1), .int .u32 0, .bool false]) (cs' := [.int .i64 0, .int .i64 (-1), .int .u32 0, .bool false]) sizeOf41 rfl rfl rfl (by simp only [List.mem_cons, List.not_mem_nil, or_false, forall_eq_or_imp, forall_eq]; exact ⟨rfl, rfl, rfl, rfl⟩) hb8 (by simp) rfl ?_
   intro w9 hU9 hzz9 hb8n
   replace hb8 := hb8n; clear hb8n
   have hzw9 := hU9.size
   replace hp := hp.upd1 hU9 (by omega)
   replace hs := hs.upd1 hU9 (show ¬ ((B8 < w.heap.size ∧ B8 ≠ pb)) by omega)
   replace HU := HU.trans1 hU9 (by show (B8 = pb) ∨ w.heap.size ≤ B8; omega)
   replace hb1 := hb1.upd1 hU9 (by omega)
   replace hO4 := hO4.upd1 hU9 (show ¬ (((w3.heap.size ≤ B8 ∧ B8 ≠ pb4) ∧ B8 < w4.heap.size)) by omega)
   replace hb5 := hb5.upd1 hU9 (by omega)
   replace hp7 := hp7.upd1 hU9 (by omega)
   refine Wl_nil (W_seq (W_region ?_))
   refine Wl_alloc (cs := [.int .u8 0]) zeroValue5 rfl ?_
   intro B10 w10 hB10 hU10 hzz10 hb10
   have hzw10 := hU10.size
   replace hp := hp.upd0 hU10
   replace hs := hs.upd0 hU10
   replace HU := HU.trans0 hU10
   replace hb1 := hb1.upd0 hU10
   replace hO4 := hO4.upd0 hU10
   replace hb5 := hb5.upd0 hU10
   replace hp7 := hp7.upd0 hU10
   replace hb8 := hb8.upd0 hU10
   refine Wl_nil (W_seq (W_region ?_))
   refine Wl_v (r_mkf2 (v0 := .pointer (some ⟨B5, 0, none⟩)) (v1 := .pointer (some ⟨B10, 0, none⟩)) rfl rfl) ?_
   refine Wl_v (r_mkf2 (v0 := .pointer (some ⟨B5, 0, none⟩)) (v1 := .pointer (some ⟨B8, 0, none⟩)) rfl rfl) ?_
   refine Wl_v (r_mkf3 (v0 := .pointer (some ⟨B10, 0, none⟩)) (v1 := .pointer (some ⟨B5, 0, none⟩)) (v2 := .pointer (some ⟨B8, 0, none⟩)) rfl rfl rfl) ?_
   refine Wl_v (r_mkf3 (v0 := .pointer (some ⟨B10, 0, none⟩)) (v1 := .pointer (some ⟨B5, 0, none⟩)) (v2 := .pointer (some ⟨B8, 0, none⟩)) rfl rfl rfl) ?_
   refine Wl_lit (pv := [(0, .func (.func 83) #[] #[.pointer (some ⟨B5, 0, none⟩), .pointer (some ⟨B10, 0, none⟩)]), (1, .func (.func 85) #[] #[.pointer (some ⟨B5, 0, none⟩), .pointer (some ⟨B8, 0, none⟩)]), (2, .func (.func 87) #[] #[.pointer (some ⟨B10, 0, none⟩), .pointer (some ⟨B5, 0, none⟩), .pointer (some ⟨B8, 0, none⟩)]), (3, .func (.func 88) #[] #[.pointer (some ⟨B10, 0, none⟩), .pointer (some ⟨B5, 0, none⟩), .pointer (some ⟨B8, 0, none⟩)])]) (cs := [.func (.func 83) #[] #[.pointer (some ⟨B5, 0, none⟩), .pointer (some ⟨B10, 0, none⟩)], .func (.func 85) #[] #[.pointer (some ⟨B5, 0, none⟩), .pointer (some ⟨B8, 0, none⟩)], .func (.func 87) #[] #[.pointer (some ⟨B10, 0, none⟩), .pointer (some ⟨B5, 0, none⟩), .pointer (some ⟨B8, 0, none⟩)], .func (.func 88) #[] #[.pointer (some ⟨B10, 0, none⟩), .pointer (some ⟨B5, 0, none⟩), .pointer (some ⟨B8, 0, none⟩)]]) underlying158 sizeOf153 zeroValue153 (by decide) (by decide) (by simp only [List.map_toArray, List.map_cons, List.map_nil] <;> rfl) (by kernel_rfl) rfl (by decide) ?_
   intro B11 w11 hB11 hU11 hzz11 hs11
   have hzw11 := hU11.size
   replace hp := hp.upd0 hU11
   replace hs := hs.upd0 hU11
   replace HU := HU.trans0 hU11
   replace hb1 := hb1.upd0 hU11
   replace hO4 := hO4.upd0 hU11
   replace hb5 := hb5.upd0 hU11
   replace hp7 := hp7.upd0 hU11
   replace hb8 := hb8.upd0 hU11
   replace hb10 := hb10.upd0 hU11
   refine Was (.slice (some ⟨B11, 0, none⟩) 4 4) ?_
   refine Wl_nil (W_seq ?_)
   refine W_label ?_
   refine W_seq (W_seq (W_region ?_))
   refine Wmv (.slice (some ⟨B11, 0, none⟩) 4 4) ?_
   refine Wl_v (r_len underlying158 rfl) ?_
   refine Wmv (.int .i64 0) ?_
   refine Wl_nil (W_block ?_)
   refine W_unroll 5 ?_
   refine unrK_succ ?_
   refine W_seq (W_region ?_)
   refine Wl_v (v := .bool true) (r_lt (a := 0) (b := 4) rfl rfl) ?_
   refine Wl_nil (W_seq ?_)
   refine W_cond_t rfl ?_
   refine W_skip (W_seq (W_block (W_seq (W_region ?_))))
   have hc12 : w11.cell? ⟨B11, 0, none⟩ = some (.func (.func 83) #[] #[.pointer (some ⟨B5, 0, none⟩), .pointer (some ⟨B10, 0, none⟩)]) := hs11.cellc (i := 0) (by decide)
   refine Wl_v (r_idx (b := B11) (off := 0) (m := 4) (c := 4) (o' := 0) underlying158 sizeOf153 rfl rfl (by omega) (by omega) (by omega)) ?_
   refine Wl_loadc isAgg153 rfl hc12 ?_
   refine Was (.func (.func 83) #[] #[.pointer (some ⟨B5, 0, none⟩), .pointer (some ⟨B10, 0, none⟩)]) ?_
   refine Wl_nil (W_seq (W_region ?_))
   refine Wmv (.func (.func 83) #[] #[.pointer (some ⟨B5, 0, none⟩), .pointer (some ⟨B10, 0, none⟩)]) ?_
   by_cases q4 : n < p + 5
   ·refine Wl_call (r_clos0 call83 rfl  (by first | (simp; done) | (simp; rfl))) (get1_end _ hb5 hb10 hp7 (hO4.sl.cur (by intro h1; have h3 : ((w3.heap.size ≤ pb4 ∧ pb4 ≠ pb4) ∧ pb4 < w4.heap.size) := h1; first | omega | simp at h3)) (byt_take (byt_drop hb _) _) (by omega) (by omega) (by omega) (by omega)) ?_
    rintro v w13 ⟨rfl, hbb13, hp13, hU13⟩
    have hzw13 := hU13.size
    replace hp := hp.upd hU13 (by intro hx; have hx2 : pb = B10 ∨ pb = pb4 := hx; omega)
    replace HU := HU.trans hU13 (by intro x hx; have hx2 : x = B10 ∨ x = pb4 := hx; show (x = pb) ∨ w.heap.size ≤ x; omega)
    replace hb1 := hb1.upd hU13 (by intro hx; have hx2 : B1 = B10 ∨ B1 = pb4 := hx; omega)
    have hbl_hbb13 := hbb13.lt
    have hbl_hp13 := hp13.lt
    refine Was (.int .i64 3) ?_
    refine Wl_nil (W_seq (W_region ?_))
    refine Wmv (.int .i64 3) ?_
    refine Wl_v (v := .bool true) (r_ne (a := 3) (b := 0) rfl rfl) ?_
    refine Wl_nil ?_
    refine W_cond_t rfl ?_
    refine W_exit ?_
    refine W_seq (W_seq (W_region ?_))
    refine Wmv (.int .i64 3) ?_
    refine Wl_v (v := .bool true) (r_ne (a := 3) (b := 0) rfl rfl) ?_
    refine Wl_nil ?_
    refine W_cond_t rfl ?_
    refine W_seq (W_region ?_)
    refine Wl_v (r_build (pl := #[(0, 1), (1, 1), (2, 1), (3, 1)]) (pv := []) (cs := #[.int .i64 0, .int .i64 0, .int .u32 0, .bool false]) zeroValue41 underlying41 (fun w => by kernel_rfl) (by simp only [List.map_toArray, List.map_cons, List.map_nil] <;> rfl) (by kernel_rfl)) ?_
    refine Wmv (.int .i64 3) ?_
    refine Wl_storea (off := 0) (vs := [.int .i64 0, .int .i64 0, .int .u32 0, .bool false]) (cs' := [.int .i64 0, .int .i64 0, .int .u32 0, .bool false]) sizeOf41 rfl rfl rfl (by simp only [List.mem_cons, List.not_mem_nil, or_false, forall_eq_or_imp, forall_eq]; exact ⟨rfl, rfl, rfl, rfl⟩) hb1 (by simp) rfl ?_
    intro w14 hU14 hzz14 hb1n
    replace hb1 := hb1n; clear hb1n
    have hzw14 := hU14.size
    replace hp := hp.upd1 hU14 (by omega)
    replace HU := HU.trans1 hU14 (by show (B1 = pb) ∨ w.heap.size ≤ B1; omega)
    refine Was (.int .i64 3) ?_
    refine Wl_nil ?_
    refine W_ret ?_
    refine ret_end (v := .tuple #[.agg #[.int .i64 0, .int .i64 0, .int .u32 0, .bool false], .int .i64 3]) rfl (rm_ct results70 rfl rfl (cellAgg isAgg41 sizeOf41 rfl hb1)) ?_
    have HG := gh_5 HM (by omega)
    exact ⟨_, rfl, (vtup2 (by first | (rw [HG]; rfl) | (rw [HG, show (decide ((bs.getD (p + 4) 0) / 2 % 2 * 2 ≠ 0)) = decide ((bs.getD (p + 4) 0) / 2 % 2 = 1) from by rw [decide_eq_decide]; omega]; simp) | (rw [HG]; simp)) (by simp [HG])), (by rw [HG]; first | (simpa using hp) | (dsimp only; rw [show (gvar bs (p + 6)).2.1 = p + ((gvar bs (p + 6)).2.1 - p) from by omega]; exact hp) | (dsimp only; rw [show (gvar bs (p + 10)).2.1 = p + ((gvar bs (p + 10)).2.1 - p) from by omega]; exact hp)), HU⟩
   by_cases q5 : 7 < bs.getD (p + 4) 0
   ·refine Wl_call (r_clos0 call83 rfl  (by first | (simp; done) | (simp; rfl))) (get1_bad (b := bs.getD (p + 4) 0) _ hb5 hb10 hp7 (hO4.sl.cur (by intro h1; have h3 : ((w3.heap.size ≤ pb4 ∧ pb4 ≠ pb4) ∧ pb4 < w4.heap.size) := h1; first | omega | simp at h3)) (byt_take (byt_drop hb _) _) (by omega) (by omega) (by omega) (by omega) (gd_cut (by omega)) (by omega)) ?_
    rintro v w15 ⟨rfl, hbb15, hp15, hU15⟩
    have hzw15 := hU15.size
    replace hp := hp.upd hU15 (by intro hx; have hx2 : pb = B10 ∨ pb = pb4 := hx; omega)
    replace HU := HU.trans hU15 (by intro x hx; have hx2 : x = B10 ∨ x = pb4 := hx; show (x = pb) ∨ w.heap.size ≤ x; omega)
    replace hb1 := hb1.upd hU15 (by intro hx; have hx2 : B1 = B10 ∨ B1 = pb4 := hx; omega)
    have hbl_hbb15 := hbb15.lt
    have hbl_hp15 := hp15.lt
    refine Was (.int .i64 7) ?_
    refine Wl_nil (W_seq (W_region ?_))
    refine Wmv (.int .i64 7) ?_
    refine Wl_v (v := .bool true) (r_ne (a := 7) (b := 0) rfl rfl) ?_
    refine Wl_nil ?_
    refine W_cond_t rfl ?_
    refine W_exit ?_
    refine W_seq (W_seq (W_region ?_))
    refine Wmv (.int .i64 7) ?_
    refine Wl_v (v := .bool true) (r_ne (a := 7) (b := 0) rfl rfl) ?_
    refine Wl_nil ?_
    refine W_cond_t rfl ?_
    refine W_seq (W_region ?_)
    refine Wl_v (r_build (pl := #[(0, 1), (1, 1), (2, 1), (3, 1)]) (pv := []) (cs := #[.int .i64 0, .int .i64 0, .int .u32 0, .bool false]) zeroValue41 underlying41 (fun w => by kernel_rfl) (by simp only [List.map_toArray, List.map_cons, List.map_nil] <;> rfl) (by kernel_rfl)) ?_
    refine Wmv (.int .i64 7) ?_
    refine Wl_storea (off := 0) (vs := [.int .i64 0, .int .i64 0, .int .u32 0, .bool false]) (cs' := [.int .i64 0, .int .i64 0, .int .u32 0, .bool false]) sizeOf41 rfl rfl rfl (by simp only [List.mem_cons, List.not_mem_nil, or_false, forall_eq_or_imp, forall_eq]; exact ⟨rfl, rfl, rfl, rfl⟩) hb1 (by simp) rfl ?_
    intro w16 hU16 hzz16 hb1n
    replace hb1 := hb1n; clear hb1n
    have hzw16 := hU16.size
    replace hp := hp.upd1 hU16 (by omega)
    replace HU := HU.trans1 hU16 (by show (B1 = pb) ∨ w.heap.size ≤ B1; omega)
    refine Was (.int .i64 7) ?_
    refine Wl_nil ?_
    refine W_ret ?_
    refine ret_end (v := .tuple #[.agg #[.int .i64 0, .int .i64 0, .int .u32 0, .bool false], .int .i64 7]) rfl (rm_ct results70 rfl rfl (cellAgg isAgg41 sizeOf41 rfl hb1)) ?_
    have HG := gh_bits HM (by omega) (by omega)
    exact ⟨_, rfl, (vtup2 (by first | (rw [HG]; rfl) | (rw [HG, show (decide ((bs.getD (p + 4) 0) / 2 % 2 * 2 ≠ 0)) = decide ((bs.getD (p + 4) 0) / 2 % 2 = 1) from by rw [decide_eq_decide]; omega]; simp) | (rw [HG]; simp)) (by simp [HG])), (by rw [HG]; first | (simpa using hp) | (dsimp only; rw [show (gvar bs (p + 6)).2.1 = p + ((gvar bs (p + 6)).2.1 - p) from by omega]; exact hp) | (dsimp only; rw [show (gvar bs (p + 10)).2.1 = p + ((gvar bs (p + 10)).2.1 - p) from by omega]; exact hp)), HU⟩
   refine Wl_call (r_clos0 call83 rfl  (by first | (simp; done) | (simp; rfl))) (get1_ok (b := bs.getD (p + 4) 0) _ hb5 hb10 hp7 (hO4.sl.cur (by intro h1; have h3 : ((w3.heap.size ≤ pb4 ∧ pb4 ≠ pb4) ∧ pb4 < w4.heap.size) := h1; first | omega | simp at h3)) (byt_take (byt_drop hb _) _) (by omega) (by omega) (by omega) (by omega) (gd_cut (by omega)) (by omega)) ?_
   rintro v w17 ⟨rfl, hbb17, hp17, hU17⟩
   have hzw17 := hU17.size
   replace hp := hp.upd hU17 (by intro hx; have hx2 : pb = B10 ∨ pb = pb4 := hx; omega)
   replace hs := hs.upd hU17 (by intro x h1 h2; have h3 : (x < w.heap.size ∧ x ≠ pb) := h1; have h4 : x = B10 ∨ x = pb4 := h2; omega)
   replace HU := HU.trans hU17 (by intro x hx; have hx2 : x = B10 ∨ x = pb4 := hx; show (x = pb) ∨ w.heap.size ≤ x; omega)
   replace hb1 := hb1.upd hU17 (by intro hx; have hx2 : B1 = B10 ∨ B1 = pb4 := hx; omega)
   replace hO4 := hO4.upd hU17 (by intro x h1 h2; have h3 : ((w3.heap.size ≤ x ∧ x ≠ pb4) ∧ x < w4.heap.size) := h1; have h4 : x = B10 ∨ x = pb4 := h2; omega)
   replace hb5 := hb5.upd hU17 (by intro hx; have hx2 : B5 = B10 ∨ B5 = pb4 := hx; omega)
   replace hb8 := hb8.upd hU17 (by intro hx; have hx2 : B8 = B10 ∨ B8 = pb4 := hx; omega)
   replace hs11 := hs11.upd hU17 (by intro x h1 h2; have h3 : x = B11 := h1; have h4 : x = B10 ∨ x = pb4 := h2; omega)
   have hbl_hbb17 := hbb17.lt
   have hbl_hp17 := hp17.lt
   refine Was (.int .i64 0) ?_
   refine Wl_nil (W_seq (W_region ?_))
   refine Wmv (.int .i64 0) ?_
   refine Wl_v (v := .bool false) (r_ne (a := 0) (b := 0) rfl rfl) ?_
   refine Wl_nil ?_
   refine W_cond_f rfl ?_
   refine W_skip (W_region ?_)
   refine Wl_v (r_add rfl rfl (show _ = (1 : Int) from by decide)) ?_
   refine Wmv (.int .i64 1) ?_
   refine Wl_nil ?_
   refine unrK_succ ?_
   refine W_seq (W_region ?_)
   refine Wl_v (v := .bool true) (r_lt (a := 1) (b := 4) rfl rfl) ?_
   refine Wl_nil (W_seq ?_)
   refine W_cond_t rfl ?_
   refine W_skip (W_seq (W_block (W_seq (W_region ?_))))
   have hc18 : w17.cell? ⟨B11, 1, none⟩ = some (.func (.func 85) #[] #[.pointer (some ⟨B5, 0, none⟩), .pointer (some ⟨B8, 0, none⟩)]) := hs11.cellc (i := 1) (by decide)
   refine Wl_v (r_idx (b := B11) (off := 0) (m := 4) (c := 4) (o' := 1) underlying158 sizeOf153 rfl rfl (by omega) (by omega) (by omega)) ?_
   refine Wl_loadc isAgg153 rfl hc18 ?_
   refine Was (.func (.func 85) #[] #[.pointer (some ⟨B5, 0, none⟩), .pointer (some ⟨B8, 0, none⟩)]) ?_
   refine Wl_nil (W_seq (W_region ?_))
   refine Wmv (.func (.func 85) #[] #[.pointer (some ⟨B5, 0, none⟩), .pointer (some ⟨B8, 0, none⟩)]) ?_
   by_cases q6 : n < p + 6
   ·refine Wl_call (r_clos0 call85 rfl  (by first | (simp; done) | (simp; rfl))) (get2_end _ hb5 hb8 hp17 (hO4.sl.cur (by intro h1; have h3 : ((w3.heap.size ≤ pb4 ∧ pb4 ≠ pb4) ∧ pb4 < w4.heap.size) := h1; first | omega | simp at h3)) (byt_take (byt_drop hb _) _) (by omega) (by omega) (by omega) (by omega)) ?_
    rintro v w19 ⟨rfl, hh19, hp19, hU19⟩
    have hzw19 := hU19.size
    replace hp := hp.upd hU19 (by intro hx; have hx2 : pb = B8 ∨ pb = pb4 := hx; omega)
    replace HU := HU.trans hU19 (by intro x hx; have hx2 : x = B8 ∨ x = pb4 := hx; show (x = pb) ∨ w.heap.size ≤ x; omega)
    replace hb1 := hb1.upd hU19 (by intro hx; have hx2 : B1 = B8 ∨ B1 = pb4 := hx; omega)
    have hbl_hh19 := hh19.lt
    have hbl_hp19 := hp19.lt
    refine Was (.int .i64 3) ?_
    refine Wl_nil (W_seq (W_region ?_))
    refine Wmv (.int .i64 3) ?_
    refine Wl_v (v := .bool true) (r_ne (a := 3) (b := 0) rfl rfl) ?_
    refine Wl_nil ?_
    refine W_cond_t rfl ?_
    refine W_exit ?_
    refine W_seq (W_seq (W_region ?_))
    refine Wmv (.int .i64 3) ?_
    refine Wl_v (v := .bool true) (r_ne (a := 3) (b := 0) rfl rfl) ?_
    refine Wl_nil ?_
    refine W_cond_t rfl ?_
    refine W_seq (W_region ?_)
    refine Wl_v (r_build (pl := #[(0, 1), (1, 1), (2, 1), (3, 1)]) (pv := []) (cs := #[.int .i64 0, .int .i64 0, .int .u32 0, .bool false]) zeroValue41 underlying41 (fun w => by kernel_rfl) (by simp only [List.map_toArray, List.map_cons, List.map_nil] <;> rfl) (by kernel_rfl)) ?_
    refine Wmv (.int .i64 3) ?_
    refine Wl_storea (off := 0) (vs := [.int .i64 0, .int .i64 0, .int .u32 0, .bool false]) (cs' := [.int .i64 0, .int .i64 0, .int .u32 0, .bool false]) sizeOf41 rfl rfl rfl (by simp only [List.mem_cons, List.not_mem_nil, or_false, forall_eq_or_imp, forall_eq]; exact ⟨rfl, rfl, rfl, rfl⟩) hb1 (by simp) rfl ?_
    intro w20 hU20 hzz20 hb1n
    replace hb1 := hb1n; clear hb1n
    have hzw20 := hU20.size
    replace hp := hp.upd1 hU20 (by omega)
    replace HU := HU.trans1 hU20 (by show (B1 = pb) ∨ w.heap.size ≤ B1; omega)
    refine Was (.int .i64 3) ?_
    refine Wl_nil ?_
    refine W_ret ?_
    refine ret_end (v := .tuple #[.agg #[.int .i64 0, .int .i64 0, .int .u32 0, .bool false], .int .i64 3]) rfl (rm_ct results70 rfl rfl (cellAgg isAgg41 sizeOf41 rfl hb1)) ?_
    have HG := gh_6 HM (by omega) (by omega) (by omega)
    exact ⟨_, rfl, (vtup2 (by first | (rw [HG]; rfl) | (rw [HG, show (decide ((bs.getD (p + 4) 0) / 2 % 2 * 2 ≠ 0)) = decide ((bs.getD (p + 4) 0) / 2 % 2 = 1) from by rw [decide_eq_decide]; omega]; simp) | (rw [HG]; simp)) (by simp [HG])), (by rw [HG]; first | (simpa using hp) | (dsimp only; rw [show (gvar bs (p + 6)).2.1 = p + ((gvar bs (p + 6)).2.1 - p) from by omega]; exact hp) | (dsimp only; rw [show (gvar bs (p + 10)).2.1 = p + ((gvar bs (p + 10)).2.1 - p) from by omega]; exact hp)), HU⟩
   by_cases q7 : 136 < bs.getD (p + 5) 0
   ·have hww := hw_outI q7 hq5_.2
    refine Wl_call (r_clos0 call85 rfl  (by first | (simp; done) | (simp; rfl))) (get2_bad (b := bs.getD (p + 5) 0) _ hb5 hb8 hp17 (hO4.sl.cur (by intro h1; have h3 : ((w3.heap.size ≤ pb4 ∧ pb4 ≠ pb4) ∧ pb4 < w4.heap.size) := h1; first | omega | simp at h3)) (byt_take (byt_drop hb _) _) (by omega) (by omega) (by omega) (by omega) (gd_cut (by omega)) (by omega)) ?_
    rintro v w21 ⟨rfl, hh21, hp21, hU21⟩
    have hzw21 := hU21.size
    replace hp := hp.upd hU21 (by intro hx; have hx2 : pb = B8 ∨ pb = pb4 := hx; omega)
    replace HU := HU.trans hU21 (by intro x hx; have hx2 : x = B8 ∨ x = pb4 := hx; show (x = pb) ∨ w.heap.size ≤ x; omega)
    replace hb1 := hb1.upd hU21 (by intro hx; have hx2 : B1 = B8 ∨ B1 = pb4 := hx; omega)
    have hbl_hh21 := hh21.lt
    have hbl_hp21 := hp21.lt
    refine Was (.int .i64 7) ?_
    refine Wl_nil (W_seq (W_region ?_))
    refine Wmv (.int .i64 7) ?_
    refine Wl_v (v := .bool true) (r_ne (a := 7) (b := 0) rfl rfl) ?_
    refine Wl_nil ?_
    refine W_cond_t rfl ?_
    refine W_exit ?_
    refine W_seq (W_seq (W_region ?_))
    refine Wmv (.int .i64 7) ?_
    refine Wl_v (v := .bool true) (r_ne (a := 7) (b := 0) rfl rfl) ?_
    refine Wl_nil ?_
    refine W_cond_t rfl ?_
    refine W_seq (W_region ?_)
    refine Wl_v (r_build (pl := #[(0, 1), (1, 1), (2, 1), (3, 1)]) (pv := []) (cs := #[.int .i64 0, .int .i64 0, .int .u32 0, .bool false]) zeroValue41 underlying41 (fun w => by kernel_rfl) (by simp only [List.map_toArray, List.map_cons, List.map_nil] <;> rfl) (by kernel_rfl)) ?_
    refine Wmv (.int .i64 7) ?_
    refine Wl_storea (off := 0) (vs := [.int .i64 0, .int .i64 0, .int .u32 0, .bool false]) (cs' := [.int .i64 0, .int .i64 0, .int .u32 0, .bool false]) sizeOf41 rfl rfl rfl (by simp only [List.mem_cons, List.not_mem_nil, or_false, forall_eq_or_imp, forall_eq]; exact ⟨rfl, rfl, rfl, rfl⟩) hb1 (by simp) rfl ?_
    intro w22 hU22 hzz22 hb1n
    replace hb1 := hb1n; clear hb1n
    have hzw22 := hU22.size
    replace hp := hp.upd1 hU22 (by omega)
    replace HU := HU.trans1 hU22 (by show (B1 = pb) ∨ w.heap.size ≤ B1; omega)
    refine Was (.int .i64 7) ?_
    refine Wl_nil ?_
    refine W_ret ?_
    refine ret_end (v := .tuple #[.agg #[.int .i64 0, .int .i64 0, .int .u32 0, .bool false], .int .i64 7]) rfl (rm_ct results70 rfl rfl (cellAgg isAgg41 sizeOf41 rfl hb1)) ?_
    have HG := gh_win HM (by omega) (by omega) (by omega) hww.1
    exact ⟨_, rfl, (vtup2 (by first | (rw [HG]; rfl) | (rw [HG, show (decide ((bs.getD (p + 4) 0) / 2 % 2 * 2 ≠ 0)) = decide ((bs.getD (p + 4) 0) / 2 % 2 = 1) from by rw [decide_eq_decide]; omega]; simp) | (rw [HG]; simp)) (by simp [HG])), (by rw [HG]; first | (simpa using hp) | (dsimp only; rw [show (gvar bs (p + 6)).2.1 = p + ((gvar bs (p + 6)).2.1 - p) from by omega]; exact hp) | (dsimp only; rw [show (gvar bs (p + 10)).2.1 = p + ((gvar bs (p + 10)).2.1 - p) from by omega]; exact hp)), HU⟩
   have hww := hw_inI hq5_.1 (by omega)
   refine Wl_call (r_clos0 call85 rfl  (by first | (simp; done) | (simp; rfl))) (get2_ok (b := bs.getD (p + 5) 0) _ hb5 hb8 hp17 (hO4.sl.cur (by intro h1; have h3 : ((w3.heap.size ≤ pb4 ∧ pb4 ≠ pb4) ∧ pb4 < w4.heap.size) := h1; first | omega | simp at h3)) (byt_take (byt_drop hb _) _) (by omega) (by omega) (by omega) (by omega) (gd_cut (by omega)) (by omega)) ?_
   rintro v w23 ⟨rfl, hh23, hp23, hU23⟩
   have hzw23 := hU23.size
   replace hp := hp.upd hU23 (by intro hx; have hx2 : pb = B8 ∨ pb = pb4 := hx; omega)
   replace hs := hs.upd hU23 (by intro x h1 h2; have h3 : (x < w.heap.size ∧ x ≠ pb) := h1; have h4 : x = B8 ∨ x = pb4 := h2; omega)
   replace HU := HU.trans hU23 (by intro x hx; have hx2 : x = B8 ∨ x = pb4 := hx; show (x = pb) ∨ w.heap.size ≤ x; omega)
   replace hb1 := hb1.upd hU23 (by intro hx; have hx2 : B1 = B8 ∨ B1 = pb4 := hx; omega)
   replace hO4 := hO4.upd hU23 (by intro x h1 h2; have h3 : ((w3.heap.size ≤ x ∧ x ≠ pb4) ∧ x < w4.heap.size) := h1; have h4 : x = B8 ∨ x = pb4 := h2; omega)
   replace hb5 := hb5.upd hU23 (by intro hx; have hx2 : B5 = B8 ∨ B5 = pb4 := hx; omega)
   replace hs11 := hs11.upd hU23 (by intro x h1 h2; have h3 : x = B11 := h1; have h4 : x = B8 ∨ x = pb4 := h2; omega)
   replace hbb17 := hbb17.upd hU23 (by intro hx; have hx2 : B10 = B8 ∨ B10 = pb4 := hx; omega)
   have hbl_hh23 := hh23.lt
   have hbl_hp23 := hp23.lt
   refine Was (.int .i64 0) ?_
   refine Wl_nil (W_seq (W_region ?_))
   refine Wmv (.int .i64 0) ?_
   refine Wl_v (v := .bool false) (r_ne (a := 0) (b := 0) rfl rfl) ?_
   refine Wl_nil ?_
   refine W_cond_f rfl ?_
   refine W_skip (W_region ?_)
   refine Wl_v (r_add rfl rfl (show _ = (2 : Int) from by decide)) ?_
   refine Wmv (.int .i64 2) ?_
   refine Wl_nil ?_
   refine unrK_succ ?_
   refine W_seq (W_region ?_)
   refine Wl_v (v := .bool true) (r_lt (a := 2) (b := 4) rfl rfl) ?_
   refine Wl_nil (W_seq ?_)
   refine W_cond_t rfl ?_
   refine W_skip (W_seq (W_block (W_seq (W_region ?_))))
   have hc24 : w23.cell? ⟨B11, 2, none⟩ = some (.func (.func 87) #[] #[.pointer (some ⟨B10, 0, none⟩), .pointer (some ⟨B5, 0, none⟩), .pointer (some ⟨B8, 0, none⟩)]) := hs11.cellc (i := 2) (by decide)
   refine Wl_v (r_idx (b := B11) (off := 0) (m := 4) (c := 4) (o' := 2) underlying158 sizeOf153 rfl rfl (by omega) (by omega) (by omega)) ?_
   refine Wl_loadc isAgg153 rfl hc24 ?_
   refine Was (.func (.func 87) #[] #[.pointer (some ⟨B10, 0, none⟩), .pointer (some ⟨B5, 0, none⟩), .pointer (some ⟨B8, 0, none⟩)]) ?_
   refine Wl_nil (W_seq (W_region ?_))
   refine Wmv (.func (.func 87) #[] #[.pointer (some ⟨B10, 0, none⟩), .pointer (some ⟨B5, 0, none⟩), .pointer (some ⟨B8, 0, none⟩)]) ?_
   by_cases q8 : bs.getD (p + 4) 0 / 4 = 1
   ·by_cases q9 : (gword bs (p + 6)).2.2 = 0
    ·by_cases q10 : (gword bs (p + 6)).1 = 0
     ·refine Wl_call (r_clos0 call87 rfl  (by first | (simp; done) | (simp; rfl))) (get3_zero (dv := (gword bs (p + 6)).1) (q := 10) (er := 0) (b := bs.getD (p + 4) 0) _ hb5 hbb17 hh23 hp23 (hO4.sl.cur (by intro h1; have h3 : ((w3.heap.size ≤ pb4 ∧ pb4 ≠ pb4) ∧ pb4 < w4.heap.size) := h1; first | omega | simp at h3)) (byt_take (byt_drop hb _) _) (by omega) (by omega) (by omega) (by omega) (by omega) (gword_cut0 (by omega) q9 rfl) ⟨rfl, q10⟩) ?_
      rintro v w25 ⟨rfl, hh25, hp25, hU25⟩
      have hzw25 := hU25.size
      replace hp := hp.upd hU25 (by intro hx; have hx2 : pb = B8 ∨ pb = pb4 := hx; omega)
      replace HU := HU.trans hU25 (by intro x hx; have hx2 : x = B8 ∨ x = pb4 := hx; show (x = pb) ∨ w.heap.size ≤ x; omega)
      replace hb1 := hb1.upd hU25 (by intro hx; have hx2 : B1 = B8 ∨ B1 = pb4 := hx; omega)
      have hbl_hh25 := hh25.lt
      have hbl_hp25 := hp25.lt
      refine Was (.int .i64 7) ?_
      refine Wl_nil (W_seq (W_region ?_))
      refine Wmv (.int .i64 7) ?_
      refine Wl_v (v := .bool true) (r_ne (a := 7) (b := 0) rfl rfl) ?_
      refine Wl_nil ?_
      refine W_cond_t rfl ?_
      refine W_exit ?_
      refine W_seq (W_seq (W_region ?_))
      refine Wmv (.int .i64 7) ?_
      refine Wl_v (v := .bool true) (r_ne (a := 7) (b := 0) rfl rfl) ?_
      refine Wl_nil ?_
      refine W_cond_t rfl ?_
      refine W_seq (W_region ?_)
      refine Wl_v (r_build (pl := #[(0, 1), (1, 1), (2, 1), (3, 1)]) (pv := []) (cs := #[.int .i64 0, .int .i64 0, .int .u32 0, .bool false]) zeroValue41 underlying41 (fun w => by kernel_rfl) (by simp only [List.map_toArray, List.map_cons, List.map_nil] <;> rfl) (by kernel_rfl)) ?_
      refine Wmv (.int .i64 7) ?_
      refine Wl_storea (off := 0) (vs := [.int .i64 0, .int .i64 0, .int .u32 0, .bool false]) (cs' := [.int .i64 0, .int .i64 0, .int .u32 0, .bool false]) sizeOf41 rfl rfl rfl (by simp only [List.mem_cons, List.not_mem_nil, or_false, forall_eq_or_imp, forall_eq]; exact ⟨rfl, rfl, rfl, rfl⟩) hb1 (by simp) rfl ?_
      intro w26 hU26 hzz26 hb1n
      replace hb1 := hb1n; clear hb1n
      have hzw26 := hU26.size
      replace hp := hp.upd1 hU26 (by omega)
      replace HU := HU.trans1 hU26 (by show (B1 = pb) ∨ w.heap.size ≤ B1; omega)
      refine Was (.int .i64 7) ?_
      refine Wl_nil ?_
      refine W_ret ?_
      refine ret_end (v := .tuple #[.agg #[.int .i64 0, .int .i64 0, .int .u32 0, .bool false], .int .i64 7]) rfl (rm_ct results70 rfl rfl (cellAgg isAgg41 sizeOf41 rfl hb1)) ?_
      have HD := hdict_do q8
      have HG := gh_zero HM (by omega) (by omega) (by omega) (by rw [HD]; exact q9) ⟨q8, by rw [HD]; exact q10⟩
      exact ⟨_, rfl, (vtup2 (by first | (rw [HG]; rfl) | (rw [HG, show (decide ((bs.getD (p + 4) 0) / 2 % 2 * 2 ≠ 0)) = decide ((bs.getD (p + 4) 0) / 2 % 2 = 1) from by rw [decide_eq_decide]; omega]; simp) | (rw [HG]; simp)) (by simp [HG])), (by rw [HG]; first | (simpa using hp) | (dsimp only; rw [show (gvar bs (p + 6)).2.1 = p + ((gvar bs (p + 6)).2.1 - p) from by omega]; exact hp) | (dsimp only; rw [show (gvar bs (p + 10)).2.1 = p + ((gvar bs (p + 10)).2.1 - p) from by omega]; exact hp)), HU⟩
     refine Wl_call (r_clos0 call87 rfl  (by first | (simp; done) | (simp; rfl))) (get3_ok (dv := (gword bs (p + 6)).1) (q := 10) (er := 0) (b := bs.getD (p + 4) 0) _ hb5 hbb17 hh23 hp23 (hO4.sl.cur (by intro h1; have h3 : ((w3.heap.size ≤ pb4 ∧ pb4 ≠ pb4) ∧ pb4 < w4.heap.size) := h1; first | omega | simp at h3)) (byt_take (byt_drop hb _) _) (by omega) (by omega) (by omega) (by omega) (by omega) (gword_cut0 (by omega) q9 rfl) ⟨rfl, q10⟩) ?_
     rintro v w27 ⟨rfl, hh27, hp27, hU27⟩
     have hzw27 := hU27.size
     replace hp := hp.upd hU27 (by intro hx; have hx2 : pb = B8 ∨ pb = pb4 := hx; omega)
     replace hs := hs.upd hU27 (by intro x h1 h2; have h3 : (x < w.heap.size ∧ x ≠ pb) := h1; have h4 : x = B8 ∨ x = pb4 := h2; omega)
     replace HU := HU.trans hU27 (by intro x hx; have hx2 : x = B8 ∨ x = pb4 := hx; show (x = pb) ∨ w.heap.size ≤ x; omega)
     replace hb1 := hb1.upd hU27 (by intro hx; have hx2 : B1 = B8 ∨ B1 = pb4 := hx; omega)
     replace hO4 := hO4.upd hU27 (by intro x h1 h2; have h3 : ((w3.heap.size ≤ x ∧ x ≠ pb4) ∧ x < w4.heap.size) := h1; have h4 : x = B8 ∨ x = pb4 := h2; omega)
     replace hb5 := hb5.upd hU27 (by intro hx; have hx2 : B5 = B8 ∨ B5 = pb4 := hx; omega)
     replace hs11 := hs11.upd hU27 (by intro x h1 h2; have h3 : x = B11 := h1; have h4 : x = B8 ∨ x = pb4 := h2; omega)
     replace hbb17 := hbb17.upd hU27 (by intro hx; have hx2 : B10 = B8 ∨ B10 = pb4 := hx; omega)
     have hbl_hh27 := hh27.lt
     have hbl_hp27 := hp27.lt
     refine Was (.int .i64 0) ?_
     refine Wl_nil (W_seq (W_region ?_))
     refine Wmv (.int .i64 0) ?_
     refine Wl_v (v := .bool false) (r_ne (a := 0) (b := 0) rfl rfl) ?_
     refine Wl_nil ?_
     refine W_cond_f rfl ?_
     refine W_skip (W_region ?_)
     refine Wl_v (r_add rfl rfl (show _ = (3 : Int) from by decide)) ?_
     refine Wmv (.int .i64 3) ?_
     refine Wl_nil ?_
     refine unrK_succ ?_
     refine W_seq (W_region ?_)
     refine Wl_v (v := .bool true) (r_lt (a := 3) (b := 4) rfl rfl) ?_
     refine Wl_nil (W_seq ?_)
     refine W_cond_t rfl ?_
     refine W_skip (W_seq (W_block (W_seq (W_region ?_))))
     have hc28 : w27.cell? ⟨B11, 3, none⟩ = some (.func (.func 88) #[] #[.pointer (some ⟨B10, 0, none⟩), .pointer (some ⟨B5, 0, none⟩), .pointer (some ⟨B8, 0, none⟩)]) := hs11.cellc (i := 3) (by decide)
     refine Wl_v (r_idx (b := B11) (off := 0) (m := 4) (c := 4) (o' := 3) underlying158 sizeOf153 rfl rfl (by omega) (by omega) (by omega)) ?_
     refine Wl_loadc isAgg153 rfl hc28 ?_
     refine Was (.func (.func 88) #[] #[.pointer (some ⟨B10, 0, none⟩), .pointer (some ⟨B5, 0, none⟩), .pointer (some ⟨B8, 0, none⟩)]) ?_
     refine Wl_nil (W_seq (W_region ?_))
     refine Wmv (.func (.func 88) #[] #[.pointer (some ⟨B10, 0, none⟩), .pointer (some ⟨B5, 0, none⟩), .pointer (some ⟨B8, 0, none⟩)]) ?_
     by_cases q11 : bs.getD (p + 4) 0 % 2 = 1
     ·have hgi := gword_in (bs := bs) q9
      have hgp := gvar_props bs (p + 10) (by omega)
      have hg9 := gvar_9 bs (p + 10)
      by_cases q12 : (gvar bs (p + 10)).2.2 = 0
      ·refine Wl_call (r_clos0 call88 rfl  (by first | (simp; done) | (simp; rfl))) (get4_do (nv := (gvar bs (p + 10)).1) (q := (gvar bs (p + 10)).2.1 - p) (er := 0) (b := bs.getD (p + 4) 0) (dv := (gword bs (p + 6)).1) _ hb5 hbb17 hh27 hp27 (hO4.sl.cur (by intro h1; have h3 : ((w3.heap.size ≤ pb4 ∧ pb4 ≠ pb4) ∧ pb4 < w4.heap.size) := h1; first | omega | simp at h3)) (byt_take (byt_drop hb _) _) (by omega) (by omega) (by omega) (by omega) (by omega) (gvar_cut0 (by omega) q12) (by omega)) ?_
       rintro v w29 ⟨rfl, hh29, hp29, hU29⟩
       have hzw29 := hU29.size
       replace hp := hp.upd hU29 (by intro hx; have hx2 : pb = B8 ∨ pb = pb4 := hx; omega)
       replace hs := hs.upd hU29 (by intro x h1 h2; have h3 : (x < w.heap.size ∧ x ≠ pb) := h1; have h4 : x = B8 ∨ x = pb4 := h2; omega)
       replace HU := HU.trans hU29 (by intro x hx; have hx2 : x = B8 ∨ x = pb4 := hx; show (x = pb) ∨ w.heap.size ≤ x; omega)
       replace hb1 := hb1.upd hU29 (by intro hx; have hx2 : B1 = B8 ∨ B1 = pb4 := hx; omega)
       replace hb5 := hb5.upd hU29 (by intro hx; have hx2 : B5 = B8 ∨ B5 = pb4 := hx; omega)
       replace hbb17 := hbb17.upd hU29 (by intro hx; have hx2 : B10 = B8 ∨ B10 = pb4 := hx; omega)
       have hbl_hh29 := hh29.lt
       have hbl_hp29 := hp29.lt
       refine Was (.int .i64 0) ?_
       refine Wl_nil (W_seq (W_region ?_))
       refine Wmv (.int .i64 0) ?_
       refine Wl_v (v := .bool false) (r_ne (a := 0) (b := 0) rfl rfl) ?_
       refine Wl_nil ?_
       refine W_cond_f rfl ?_
       refine W_skip (W_region ?_)
       refine Wl_v (r_add rfl rfl (show _ = (4 : Int) from by decide)) ?_
       refine Wmv (.int .i64 4) ?_
       refine Wl_nil ?_
       refine unrK_succ ?_
       refine W_seq (W_region ?_)
       refine Wl_v (v := .bool false) (r_lt (a := 4) (b := 4) rfl rfl) ?_
       refine Wl_nil (W_seq ?_)
       refine W_cond_f rfl ?_
       refine W_exit ?_
       refine W_seq (W_seq (W_region ?_))
       refine Wmv (.int .i64 0) ?_
       refine Wl_v (v := .bool false) (r_ne (a := 0) (b := 0) rfl rfl) ?_
       refine Wl_nil ?_
       refine W_cond_f rfl ?_
       refine W_skip (W_seq (W_region ?_))
       refine Wl_load (v := .int .u8 (bs.getD (p + 4) 0)) isAgg5 rfl hbb17 rfl ?_
       refine Wl_v (r_and rfl rfl (and2 (by omega) (by omega))) ?_
       refine Wl_v (r_ne rfl rfl) ?_
       refine Wl_v (r_fld underlying41 rfl sizeOf4 rfl rfl) ?_
       refine Wl_store (v := .bool (decide (((bs.getD (p + 4) 0) / 2 % 2 * 2) ≠ 0))) (cs' := [.int .i64 (hw (bs.getD (p + 5) 0)), .int .i64 ((gvar bs (p + 10)).1), .int .u32 ((gword bs (p + 6)).1), .bool (decide (((bs.getD (p + 4) 0) / 2 % 2 * 2) ≠ 0))]) sizeOf4 rfl rfl rfl rfl hh29 rfl rfl ?_
       intro w30 hU30 hzz30 hh29n
       replace hh29 := hh29n; clear hh29n
       have hzw30 := hU30.size
       replace hp := hp.upd1 hU30 (by omega)
       replace hs := hs.upd1 hU30 (show ¬ ((B8 < w.heap.size ∧ B8 ≠ pb)) by omega)
       replace HU := HU.trans1 hU30 (by show (B8 = pb) ∨ w.heap.size ≤ B8; omega)
       replace hb1 := hb1.upd1 hU30 (by omega)
       replace hb5 := hb5.upd1 hU30 (by omega)
       replace hp29 := hp29.upd1 hU30 (by omega)
       refine Wl_nil (W_seq (W_region ?_))
       refine Wmv (.pointer (some ⟨pb, 0, none⟩)) ?_
       refine Wl_load (v := .pointer (some ⟨pb4, 0, none⟩)) isAgg112 rfl hb5 rfl ?_
       refine Wl_call (r_call1 rfl call64 rfl) (at_spec _ hp29 (by omega) (by omega) (by omega)) ?_
       rintro v w31 ⟨rfl, hU31⟩
       have hzw31 := hU31.size
       replace hp := hp.upd0 hU31
       replace hs := hs.upd0 hU31
       replace HU := HU.trans0 hU31
       replace hb1 := hb1.upd0 hU31
       replace hh29 := hh29.upd0 hU31
       refine Wl_call (r_call2 rfl call82 rfl rfl) (cbytes_k _ hp (hs.cur (by intro h1; have h3 : (pb < w.heap.size ∧ pb ≠ pb) := h1; first | omega | simp at h3)) hb (by omega) (by omega) (by omega)) ?_
       rintro v w32 ⟨a32, c32, rfl, hp32, hO32, hU32⟩
       have hzw32 := hU32.size
       replace HU := HU.trans1 hU32 (by show (pb = pb) ∨ w.heap.size ≤ pb; omega)
       replace hb1 := hb1.upd1 hU32 (by omega)
       replace hh29 := hh29.upd1 hU32 (by omega)
       have hbl_hp32 := hp32.lt
       replace hO32 := hO32.tight
       have hl_hO32 := ilen hO32.sl
       have hc_hO32 := hO32.sl.cap.1
       refine Wl_nil (W_seq (W_region ?_))
       refine Wl_v (r_loada (b := B8) (off := 0) (cs := [.int .i64 (hw (bs.getD (p + 5) 0)), .int .i64 ((gvar bs (p + 10)).1), .int .u32 ((gword bs (p + 6)).1), .bool (decide (((bs.getD (p + 4) 0) / 2 % 2 * 2) ≠ 0))]) isAgg41 sizeOf41 rfl rfl (fun j hj => by rw [hh29.cell]; match j, hj with | 0, _ => rfl | 1, _ => rfl | 2, _ => rfl | 3, _ => rfl)) ?_
       refine Wl_storea (off := 0) (vs := [.int .i64 (hw (bs.getD (p + 5) 0)), .int .i64 ((gvar bs (p + 10)).1), .int .u32 ((gword bs (p + 6)).1), .bool (decide (((bs.getD (p + 4) 0) / 2 % 2 * 2) ≠ 0))]) (cs' := [.int .i64 (hw (bs.getD (p + 5) 0)), .int .i64 ((gvar bs (p + 10)).1), .int .u32 ((gword bs (p + 6)).1), .bool (decide (((bs.getD (p + 4) 0) / 2 % 2 * 2) ≠ 0))]) sizeOf41 rfl rfl rfl (by simp only [List.mem_cons, List.not_mem_nil, or_false, forall_eq_or_imp, forall_eq]; exact ⟨rfl, rfl, rfl, rfl⟩) hb1 (by simp) rfl ?_
       intro w33 hU33 hzz33 hb1n
       replace hb1 := hb1n; clear hb1n
       have hzw33 := hU33.size
       replace HU := HU.trans1 hU33 (by show (B1 = pb) ∨ w.heap.size ≤ B1; omega)
       replace hp32 := hp32.upd1 hU33 (by omega)
       refine Was (.int .i64 0) ?_
       refine Wl_nil ?_
       refine W_ret ?_
       refine ret_end (v := .tuple #[.agg #[.int .i64 (hw (bs.getD (p + 5) 0)), .int .i64 ((gvar bs (p + 10)).1), .int .u32 ((gword bs (p + 6)).1), .bool (decide (((bs.getD (p + 4) 0) / 2 % 2 * 2) ≠ 0))], .int .i64 0]) rfl (rm_ct results70 rfl rfl (cellAgg isAgg41 sizeOf41 rfl hb1)) ?_
       have HD := hdict_do q8
       have hgi := gword_in (bs := bs) q9
       have HQ : (hdict bs p).2.1 = p + 10 := by rw [HD]; omega
       have HV : (hdict bs p).1 = (gword bs (p + 6)).1 := by rw [HD]
       have HS := hsize_do (q := p + 10) q11
       have HG := gh_ok HM (by omega) (by omega) (by omega) (by rw [HD]; exact q9) (fun h => by rw [HD] at h; exact q10 h.2) (by rw [HQ, HS]; exact q12)
       rw [HQ, HS, HV] at HG
       exact ⟨_, rfl, (vtup2 (by first | (rw [HG]; rfl) | (rw [HG, show (decide ((bs.getD (p + 4) 0) / 2 % 2 * 2 ≠ 0)) = decide ((bs.getD (p + 4) 0) / 2 % 2 = 1) from by rw [decide_eq_decide]; omega]; simp) | (rw [HG]; simp)) (by simp [HG])), (by rw [HG]; first | (simpa using hp32) | (dsimp only; rw [show (gvar bs (p + 6)).2.1 = p + ((gvar bs (p + 6)).2.1 - p) from by omega]; exact hp32) | (dsimp only; rw [show (gvar bs (p + 10)).2.1 = p + ((gvar bs (p + 10)).2.1 - p) from by omega]; exact hp32)), HU⟩
      refine Wl_call (r_clos0 call88 rfl  (by first | (simp; done) | (simp; rfl))) (get4_do (nv := (gvar bs (p + 10)).1) (q := 10) (er := (gvar bs (p + 10)).2.2) (b := bs.getD (p + 4) 0) (dv := (gword bs (p + 6)).1) _ hb5 hbb17 hh27 hp27 (hO4.sl.cur (by intro h1; have h3 : ((w3.heap.size ≤ pb4 ∧ pb4 ≠ pb4) ∧ pb4 < w4.heap.size) := h1; first | omega | simp at h3)) (byt_take (byt_drop hb _) _) (by omega) (by omega) (by omega) (by omega) (by omega) (gvar_cutE (by omega) q12) (by omega)) ?_
      rintro v w34 ⟨rfl, hh34, hp34, hU34⟩
      have hzw34 := hU34.size
      replace hp := hp.upd hU34 (by intro hx; have hx2 : pb = B8 ∨ pb = pb4 := hx; omega)
      replace HU := HU.trans hU34 (by intro x hx; have hx2 : x = B8 ∨ x = pb4 := hx; show (x = pb) ∨ w.heap.size ≤ x; omega)
      replace hb1 := hb1.upd hU34 (by intro hx; have hx2 : B1 = B8 ∨ B1 = pb4 := hx; omega)
      have hbl_hh34 := hh34.lt
      have hbl_hp34 := hp34.lt
      refine Was (.int .i64 ((gvar bs (p + 10)).2.2)) ?_
      refine Wl_nil (W_seq (W_region ?_))
      refine Wmv (.int .i64 ((gvar bs (p + 10)).2.2)) ?_
      refine Wl_v (r_ne rfl rfl) ?_
      refine Wl_nil ?_
      have q13 : ((gvar bs (p + 10)).2.2) ≠ 0 := q12
      rw [decide_eq_true q13]
      refine W_cond_t rfl ?_
      refine W_exit ?_
      refine W_seq (W_seq (W_region ?_))
      refine Wmv (.int .i64 ((gvar bs (p + 10)).2.2)) ?_
      refine Wl_v (r_ne rfl rfl) ?_
      refine Wl_nil ?_
      have q14 : ((gvar bs (p + 10)).2.2) ≠ 0 := q13
      rw [decide_eq_true q14]
      refine W_cond_t rfl ?_
      refine W_seq (W_region ?_)
      refine Wl_v (r_build (pl := #[(0, 1), (1, 1), (2, 1), (3, 1)]) (pv := []) (cs := #[.int .i64 0, .int .i64 0, .int .u32 0, .bool false]) zeroValue41 underlying41 (fun w => by kernel_rfl) (by simp only [List.map_toArray, List.map_cons, List.map_nil] <;> rfl) (by kernel_rfl)) ?_
      refine Wmv (.int .i64 ((gvar bs (p + 10)).2.2)) ?_
      refine Wl_storea (off := 0) (vs := [.int .i64 0, .int .i64 0, .int .u32 0, .bool false]) (cs' := [.int .i64 0, .int .i64 0, .int .u32 0, .bool false]) sizeOf41 rfl rfl rfl (by simp only [List.mem_cons, List.not_mem_nil, or_false, forall_eq_or_imp, forall_eq]; exact ⟨rfl, rfl, rfl, rfl⟩) hb1 (by simp) rfl ?_
      intro w35 hU35 hzz35 hb1n
      replace hb1 := hb1n; clear hb1n
      have hzw35 := hU35.size
      replace hp := hp.upd1 hU35 (by omega)
      replace HU := HU.trans1 hU35 (by show (B1 = pb) ∨ w.heap.size ≤ B1; omega)
      refine Was (.int .i64 ((gvar bs (p + 10)).2.2)) ?_
      refine Wl_nil ?_
      refine W_ret ?_
      refine ret_end (v := .tuple #[.agg #[.int .i64 0, .int .i64 0, .int .u32 0, .bool false], .int .i64 ((gvar bs (p + 10)).2.2)]) rfl (rm_ct results70 rfl rfl (cellAgg isAgg41 sizeOf41 rfl hb1)) ?_
      have HD := hdict_do q8
      have hgi := gword_in (bs := bs) q9
      have HQ : (hdict bs p).2.1 = p + 10 := by rw [HD]; omega
      have HV : (hdict bs p).1 = (gword bs (p + 6)).1 := by rw [HD]
      have HS := hsize_do (q := p + 10) q11
      have HG := gh_size HM (by omega) (by omega) (by omega) (by rw [HD]; exact q9) (fun h => by rw [HD] at h; exact q10 h.2) (by rw [HQ, HS]; exact q12)
      rw [HQ, HS] at HG
      exact ⟨_, rfl, (vtup2 (by first | (rw [HG]; rfl) | (rw [HG, show (decide ((bs.getD (p + 4) 0) / 2 % 2 * 2 ≠ 0)) = decide ((bs.getD (p + 4) 0) / 2 % 2 = 1) from by rw [decide_eq_decide]; omega]; simp) | (rw [HG]; simp)) (by simp [HG])), (by rw [HG]; first | (simpa using hp) | (dsimp only; rw [show (gvar bs (p + 6)).2.1 = p + ((gvar bs (p + 6)).2.1 - p) from by omega]; exact hp) | (dsimp only; rw [show (gvar bs (p + 10)).2.1 = p + ((gvar bs (p + 10)).2.1 - p) from by omega]; exact hp)), HU⟩
     have hgi := gword_in (bs := bs) q9
     refine Wl_call (r_clos0 call88 rfl  (by first | (simp; done) | (simp; rfl))) (get4_skip (dv := (gword bs (p + 6)).1) _ hb5 hbb17 hh27 hp27 (hO4.sl.cur (by intro h1; have h3 : ((w3.heap.size ≤ pb4 ∧ pb4 ≠ pb4) ∧ pb4 < w4.heap.size) := h1; first | omega | simp at h3)) (byt_take (byt_drop hb _) _) (by omega) (by omega) (by omega) (by omega) (by omega)) ?_
     rintro v w36 ⟨rfl, hU36⟩
     have hzw36 := hU36.size
     replace hp := hp.upd0 hU36
     replace hs := hs.upd0 hU36
     replace HU := HU.trans0 hU36
     replace hb1 := hb1.upd0 hU36
     replace hb5 := hb5.upd0 hU36
     replace hbb17 := hbb17.upd0 hU36
     replace hh27 := hh27.upd0 hU36
     replace hp27 := hp27.upd0 hU36
     refine Was (.int .i64 0) ?_
     refine Wl_nil (W_seq (W_region ?_))
     refine Wmv (.int .i64 0) ?_
     refine Wl_v (v := .bool false) (r_ne (a := 0) (b := 0) rfl rfl) ?_
     refine Wl_nil ?_
     refine W_cond_f rfl ?_
     refine W_skip (W_region ?_)
     refine Wl_v (r_add rfl rfl (show _ = (4 : Int) from by decide)) ?_
     refine Wmv (.int .i64 4) ?_
     refine Wl_nil ?_
     refine unrK_succ ?_
     refine W_seq (W_region ?_)
     refine Wl_v (v := .bool false) (r_lt (a := 4) (b := 4) rfl rfl) ?_
     refine Wl_nil (W_seq ?_)
     refine W_cond_f rfl ?_
     refine W_exit ?_
     refine W_seq (W_seq (W_region ?_))
     refine Wmv (.int .i64 0) ?_
     refine Wl_v (v := .bool false) (r_ne (a := 0) (b := 0) rfl rfl) ?_
     refine Wl_nil ?_
     refine W_cond_f rfl ?_
     refine W_skip (W_seq (W_region ?_))
     refine Wl_load (v := .int .u8 (bs.getD (p + 4) 0)) isAgg5 rfl hbb17 rfl ?_
     refine Wl_v (r_and rfl rfl (and2 (by omega) (by omega))) ?_
     refine Wl_v (r_ne rfl rfl) ?_
     refine Wl_v (r_fld underlying41 rfl sizeOf4 rfl rfl) ?_
     refine Wl_store (v := .bool (decide (((bs.getD (p + 4) 0) / 2 % 2 * 2) ≠ 0))) (cs' := [.int .i64 (hw (bs.getD (p + 5) 0)), .int .i64 (-1), .int .u32 ((gword bs (p + 6)).1), .bool (decide (((bs.getD (p + 4) 0) / 2 % 2 * 2) ≠ 0))]) sizeOf4 rfl rfl rfl rfl hh27 rfl rfl ?_
     intro w37 hU37 hzz37 hh27n
     replace hh27 := hh27n; clear hh27n
     have hzw37 := hU37.size
     replace hp := hp.upd1 hU37 (by omega)
     replace hs := hs.upd1 hU37 (show ¬ ((B8 < w.heap.size ∧ B8 ≠ pb)) by omega)
     replace HU := HU.trans1 hU37 (by show (B8 = pb) ∨ w.heap.size ≤ B8; omega)
     replace hb1 := hb1.upd1 hU37 (by omega)
     replace hb5 := hb5.upd1 hU37 (by omega)
     replace hp27 := hp27.upd1 hU37 (by omega)
     refine Wl_nil (W_seq (W_region ?_))
     refine Wmv (.pointer (some ⟨pb, 0, none⟩)) ?_
     refine Wl_load (v := .pointer (some ⟨pb4, 0, none⟩)) isAgg112 rfl hb5 rfl ?_
     refine Wl_call (r_call1 rfl call64 rfl) (at_spec _ hp27 (by omega) (by omega) (by omega)) ?_
     rintro v w38 ⟨rfl, hU38⟩
     have hzw38 := hU38.size
     replace hp := hp.upd0 hU38
     replace hs := hs.upd0 hU38
     replace HU := HU.trans0 hU38
     replace hb1 := hb1.upd0 hU38
     replace hh27 := hh27.upd0 hU38
     refine Wl_call (r_call2 rfl call82 rfl rfl) (cbytes_k _ hp (hs.cur (by intro h1; have h3 : (pb < w.heap.size ∧ pb ≠ pb) := h1; first | omega | simp at h3)) hb (by omega) (by omega) (by omega)) ?_
     rintro v w39 ⟨a39, c39, rfl, hp39, hO39, hU39⟩
     have hzw39 := hU39.size
     replace HU := HU.trans1 hU39 (by show (pb = pb) ∨ w.heap.size ≤ pb; omega)
     replace hb1 := hb1.upd1 hU39 (by omega)
     replace hh27 := hh27.upd1 hU39 (by omega)
     have hbl_hp39 := hp39.lt
     replace hO39 := hO39.tight
     have hl_hO39 := ilen hO39.sl
     have hc_hO39 := hO39.sl.cap.1
     refine Wl_nil (W_seq (W_region ?_))
     refine Wl_v (r_loada (b := B8) (off := 0) (cs := [.int .i64 (hw (bs.getD (p + 5) 0)), .int .i64 (-1), .int .u32 ((gword bs (p + 6)).1), .bool (decide (((bs.getD (p + 4) 0) / 2 % 2 * 2) ≠ 0))]) isAgg41 sizeOf41 rfl rfl (fun j hj => by rw [hh27.cell]; match j, hj with | 0, _ => rfl | 1, _ => rfl | 2, _ => rfl | 3, _ => rfl)) ?_
     refine Wl_storea (off := 0) (vs := [.int .i64 (hw (bs.getD (p + 5) 0)), .int .i64 (-1), .int .u32 ((gword bs (p + 6)).1), .bool (decide (((bs.getD (p + 4) 0) / 2 % 2 * 2) ≠ 0))]) (cs' := [.int .i64 (hw (bs.getD (p + 5) 0)), .int .i64 (-1), .int .u32 ((gword bs (p + 6)).1), .bool (decide (((bs.getD (p + 4) 0) / 2 % 2 * 2) ≠ 0))]) sizeOf41 rfl rfl rfl (by simp only [List.mem_cons, List.not_mem_nil, or_false, forall_eq_or_imp, forall_eq]; exact ⟨rfl, rfl, rfl, rfl⟩) hb1 (by simp) rfl ?_
     intro w40 hU40 hzz40 hb1n
     replace hb1 := hb1n; clear hb1n
     have hzw40 := hU40.size
     replace HU := HU.trans1 hU40 (by show (B1 = pb) ∨ w.heap.size ≤ B1; omega)
     replace hp39 := hp39.upd1 hU40 (by omega)
     refine Was (.int .i64 0) ?_
     refine Wl_nil ?_
     refine W_ret ?_
     refine ret_end (v := .tuple #[.agg #[.int .i64 (hw (bs.getD (p + 5) 0)), .int .i64 (-1), .int .u32 ((gword bs (p + 6)).1), .bool (decide (((bs.getD (p + 4) 0) / 2 % 2 * 2) ≠ 0))], .int .i64 0]) rfl (rm_ct results70 rfl rfl (cellAgg isAgg41 sizeOf41 rfl hb1)) ?_
     have HD := hdict_do q8
     have hgi := gword_in (bs := bs) q9
     have HQ : (hdict bs p).2.1 = p + 10 := by rw [HD]; omega
     have HV : (hdict bs p).1 = (gword bs (p + 6)).1 := by rw [HD]
     have HS := hsize_skip (q := p + 10) q11
     have HG := gh_ok HM (by omega) (by omega) (by omega) (by rw [HD]; exact q9) (fun h => by rw [HD] at h; exact q10 h.2) (by rw [HQ, HS])
     rw [HQ, HS, HV] at HG
     exact ⟨_, rfl, (vtup2 (by first | (rw [HG]; rfl) | (rw [HG, show (decide ((bs.getD (p + 4) 0) / 2 % 2 * 2 ≠ 0)) = decide ((bs.getD (p + 4) 0) / 2 % 2 = 1) from by rw [decide_eq_decide]; omega]; simp) | (rw [HG]; simp)) (by simp [HG])), (by rw [HG]; first | (simpa using hp39) | (dsimp only; rw [show (gvar bs (p + 6)).2.1 = p + ((gvar bs (p + 6)).2.1 - p) from by omega]; exact hp39) | (dsimp only; rw [show (gvar bs (p + 10)).2.1 = p + ((gvar bs (p + 10)).2.1 - p) from by omega]; exact hp39)), HU⟩
    refine Wl_call (r_clos0 call87 rfl  (by first | (simp; done) | (simp; rfl))) (get3_err (dv := (gword bs (p + 6)).1) (q := 6) (er := (gword bs (p + 6)).2.2) (b := bs.getD (p + 4) 0) _ hb5 hbb17 hh23 hp23 (hO4.sl.cur (by intro h1; have h3 : ((w3.heap.size ≤ pb4 ∧ pb4 ≠ pb4) ∧ pb4 < w4.heap.size) := h1; first | omega | simp at h3)) (byt_take (byt_drop hb _) _) (by omega) (by omega) (by omega) (by omega) (by omega) (gword_cutE (by omega) q9) q9) ?_
    rintro v w41 ⟨rfl, hh41, hp41, hU41⟩
    have hzw41 := hU41.size
    replace hp := hp.upd hU41 (by intro hx; have hx2 : pb = B8 ∨ pb = pb4 := hx; omega)
    replace HU := HU.trans hU41 (by intro x hx; have hx2 : x = B8 ∨ x = pb4 := hx; show (x = pb) ∨ w.heap.size ≤ x; omega)
    replace hb1 := hb1.upd hU41 (by intro hx; have hx2 : B1 = B8 ∨ B1 = pb4 := hx; omega)
    have hbl_hh41 := hh41.lt
    have hbl_hp41 := hp41.lt
    refine Was (.int .i64 ((gword bs (p + 6)).2.2)) ?_
    refine Wl_nil (W_seq (W_region ?_))
    refine Wmv (.int .i64 ((gword bs (p + 6)).2.2)) ?_
    refine Wl_v (r_ne rfl rfl) ?_
    refine Wl_nil ?_
    have q15 : ((gword bs (p + 6)).2.2) ≠ 0 := q9
    rw [decide_eq_true q15]
    refine W_cond_t rfl ?_
    refine W_exit ?_
    refine W_seq (W_seq (W_region ?_))
    refine Wmv (.int .i64 ((gword bs (p + 6)).2.2)) ?_
    refine Wl_v (r_ne rfl rfl) ?_
    refine Wl_nil ?_
    have q16 : ((gword bs (p + 6)).2.2) ≠ 0 := q15
    rw [decide_eq_true q16]
    refine W_cond_t rfl ?_
    refine W_seq (W_region ?_)
    refine Wl_v (r_build (pl := #[(0, 1), (1, 1), (2, 1), (3, 1)]) (pv := []) (cs := #[.int .i64 0, .int .i64 0, .int .u32 0, .bool false]) zeroValue41 underlying41 (fun w => by kernel_rfl) (by simp only [List.map_toArray, List.map_cons, List.map_nil] <;> rfl) (by kernel_rfl)) ?_
    refine Wmv (.int .i64 ((gword bs (p + 6)).2.2)) ?_
    refine Wl_storea (off := 0) (vs := [.int .i64 0, .int .i64 0, .int .u32 0, .bool false]) (cs' := [.int .i64 0, .int .i64 0, .int .u32 0, .bool false]) sizeOf41 rfl rfl rfl (by simp only [List.mem_cons, List.not_mem_nil, or_false, forall_eq_or_imp, forall_eq]; exact ⟨rfl, rfl, rfl, rfl⟩) hb1 (by simp) rfl ?_
    intro w42 hU42 hzz42 hb1n
    replace hb1 := hb1n; clear hb1n
    have hzw42 := hU42.size
    replace hp := hp.upd1 hU42 (by omega)
    replace HU := HU.trans1 hU42 (by show (B1 = pb) ∨ w.heap.size ≤ B1; omega)
    refine Was (.int .i64 ((gword bs (p + 6)).2.2)) ?_
    refine Wl_nil ?_
    refine W_ret ?_
    refine ret_end (v := .tuple #[.agg #[.int .i64 0, .int .i64 0, .int .u32 0, .bool false], .int .i64 ((gword bs (p + 6)).2.2)]) rfl (rm_ct results70 rfl rfl (cellAgg isAgg41 sizeOf41 rfl hb1)) ?_
    have HD := hdict_do q8
    have HG := gh_dict HM (by omega) (by omega) (by omega) (by rw [HD]; exact q9)
    rw [HD] at HG
    exact ⟨_, rfl, (vtup2 (by first | (rw [HG]; rfl) | (rw [HG, show (decide ((bs.getD (p + 4) 0) / 2 % 2 * 2 ≠ 0)) = decide ((bs.getD (p + 4) 0) / 2 % 2 = 1) from by rw [decide_eq_decide]; omega]; simp) | (rw [HG]; simp)) (by simp [HG])), (by rw [HG]; first | (simpa using hp) | (dsimp only; rw [show (gvar bs (p + 6)).2.1 = p + ((gvar bs (p + 6)).2.1 - p) from by omega]; exact hp) | (dsimp only; rw [show (gvar bs (p + 10)).2.1 = p + ((gvar bs (p + 10)).2.1 - p) from by omega]; exact hp)), HU⟩
   refine Wl_call (r_clos0 call87 rfl  (by first | (simp; done) | (simp; rfl))) (get3_skip _ hb5 hbb17 hh23 hp23 (hO4.sl.cur (by intro h1; have h3 : ((w3.heap.size ≤ pb4 ∧ pb4 ≠ pb4) ∧ pb4 < w4.heap.size) := h1; first | omega | simp at h3)) (byt_take (byt_drop hb _) _) (by omega) (by omega) (by omega) (by omega) (by omega)) ?_
   rintro v w43 ⟨rfl, hU43⟩
   have hzw43 := hU43.size
   replace hp := hp.upd0 hU43
   replace hs := hs.upd0 hU43
   replace HU := HU.trans0 hU43
   replace hb1 := hb1.upd0 hU43
   replace hO4 := hO4.upd0 hU43
   replace hb5 := hb5.upd0 hU43
   replace hs11 := hs11.upd0 hU43
   replace hbb17 := hbb17.upd0 hU43
   replace hh23 := hh23.upd0 hU43
   replace hp23 := hp23.upd0 hU43
   refine Was (.int .i64 0) ?_
   refine Wl_nil (W_seq (W_region ?_))
   refine Wmv (.int .i64 0) ?_
   refine Wl_v (v := .bool false) (r_ne (a := 0) (b := 0) rfl rfl) ?_
   refine Wl_nil ?_
   refine W_cond_f rfl ?_
   refine W_skip (W_region ?_)
   refine Wl_v (r_add rfl rfl (show _ = (3 : Int) from by decide)) ?_
   refine Wmv (.int .i64 3) ?_
   refine Wl_nil ?_
   refine unrK_succ ?_
   refine W_seq (W_region ?_)
   refine Wl_v (v := .bool true) (r_lt (a := 3) (b := 4) rfl rfl) ?_
   refine Wl_nil (W_seq ?_)
   refine W_cond_t rfl ?_
   refine W_skip (W_seq (W_block (W_seq (W_region ?_))))
   have hc44 : w43.cell? ⟨B11, 3, none⟩ = some (.func (.func 88) #[] #[.pointer (some ⟨B10, 0, none⟩), .pointer (some ⟨B5, 0, none⟩), .pointer (some ⟨B8, 0, none⟩)]) := hs11.cellc (i := 3) (by decide)
   refine Wl_v (r_idx (b := B11) (off := 0) (m := 4) (c := 4) (o' := 3) underlying158 sizeOf153 rfl rfl (by omega) (by omega) (by omega)) ?_
   refine Wl_loadc isAgg153 rfl hc44 ?_
   refine Was (.func (.func 88) #[] #[.pointer (some ⟨B10, 0, none⟩), .pointer (some ⟨B5, 0, none⟩), .pointer (some ⟨B8, 0, none⟩)]) ?_
   refine Wl_nil (W_seq (W_region ?_))
   refine Wmv (.func (.func 88) #[] #[.pointer (some ⟨B10, 0, none⟩), .pointer (some ⟨B5, 0, none⟩), .pointer (some ⟨B8, 0, none⟩)]) ?_
   by_cases q17 : bs.getD (p + 4) 0 % 2 = 1
   ·have hgp := gvar_props bs (p + 6) (by omega)
    have hg9 := gvar_9 bs (p + 6)
    by_cases q18 : (gvar bs (p + 6)).2.2 = 0
    ·refine Wl_call (r_clos0 call88 rfl  (by first | (simp; done) | (simp; rfl))) (get4_do (nv := (gvar bs (p + 6)).1) (q := (gvar bs (p + 6)).2.1 - p) (er := 0) (b := bs.getD (p + 4) 0) (dv := 0) _ hb5 hbb17 hh23 hp23 (hO4.sl.cur (by intro h1; have h3 : ((w3.heap.size ≤ pb4 ∧ pb4 ≠ pb4) ∧ pb4 < w4.heap.size) := h1; first | omega | simp at h3)) (byt_take (byt_drop hb _) _) (by omega) (by omega) (by omega) (by omega) (by omega) (gvar_cut0 (by omega) q18) (by omega)) ?_
     rintro v w45 ⟨rfl, hh45, hp45, hU45⟩
     have hzw45 := hU45.size
     replace hp := hp.upd hU45 (by intro hx; have hx2 : pb = B8 ∨ pb = pb4 := hx; omega)
     replace hs := hs.upd hU45 (by intro x h1 h2; have h3 : (x < w.heap.size ∧ x ≠ pb) := h1; have h4 : x = B8 ∨ x = pb4 := h2; omega)
     replace HU := HU.trans hU45 (by intro x hx; have hx2 : x = B8 ∨ x = pb4 := hx; show (x = pb) ∨ w.heap.size ≤ x; omega)
     replace hb1 := hb1.upd hU45 (by intro hx; have hx2 : B1 = B8 ∨ B1 = pb4 := hx; omega)
     replace hb5 := hb5.upd hU45 (by intro hx; have hx2 : B5 = B8 ∨ B5 = pb4 := hx; omega)
     replace hbb17 := hbb17.upd hU45 (by intro hx; have hx2 : B10 = B8 ∨ B10 = pb4 := hx; omega)
     have hbl_hh45 := hh45.lt
     have hbl_hp45 := hp45.lt
     refine Was (.int .i64 0) ?_
     refine Wl_nil (W_seq (W_region ?_))
     refine Wmv (.int .i64 0) ?_
     refine Wl_v (v := .bool false) (r_ne (a := 0) (b := 0) rfl rfl) ?_
     refine Wl_nil ?_
     refine W_cond_f rfl ?_
     refine W_skip (W_region ?_)
     refine Wl_v (r_add rfl rfl (show _ = (4 : Int) from by decide)) ?_
     refine Wmv (.int .i64 4) ?_
     refine Wl_nil ?_
     refine unrK_succ ?_
     refine W_seq (W_region ?_)
     refine Wl_v (v := .bool false) (r_lt (a := 4) (b := 4) rfl rfl) ?_
     refine Wl_nil (W_seq ?_)
     refine W_cond_f rfl ?_
     refine W_exit ?_
     refine W_seq (W_seq (W_region ?_))
     refine Wmv (.int .i64 0) ?_
     refine Wl_v (v := .bool false) (r_ne (a := 0) (b := 0) rfl rfl) ?_
     refine Wl_nil ?_
     refine W_cond_f rfl ?_
     refine W_skip (W_seq (W_region ?_))
     refine Wl_load (v := .int .u8 (bs.getD (p + 4) 0)) isAgg5 rfl hbb17 rfl ?_
     refine Wl_v (r_and rfl rfl (and2 (by omega) (by omega))) ?_
     refine Wl_v (r_ne rfl rfl) ?_
     refine Wl_v (r_fld underlying41 rfl sizeOf4 rfl rfl) ?_
     refine Wl_store (v := .bool (decide (((bs.getD (p + 4) 0) / 2 % 2 * 2) ≠ 0))) (cs' := [.int .i64 (hw (bs.getD (p + 5) 0)), .int .i64 ((gvar bs (p + 6)).1), .int .u32 0, .bool (decide (((bs.getD (p + 4) 0) / 2 % 2 * 2) ≠ 0))]) sizeOf4 rfl rfl rfl rfl hh45 rfl rfl ?_
     intro w46 hU46 hzz46 hh45n
     replace hh45 := hh45n; clear hh45n
     have hzw46 := hU46.size
     replace hp := hp.upd1 hU46 (by omega)
     replace hs := hs.upd1 hU46 (show ¬ ((B8 < w.heap.size ∧ B8 ≠ pb)) by omega)
     replace HU := HU.trans1 hU46 (by show (B8 = pb) ∨ w.heap.size ≤ B8; omega)
     replace hb1 := hb1.upd1 hU46 (by omega)
     replace hb5 := hb5.upd1 hU46 (by omega)
     replace hp45 := hp45.upd1 hU46 (by omega)
     refine Wl_nil (W_seq (W_region ?_))
     refine Wmv (.pointer (some ⟨pb, 0, none⟩)) ?_
     refine Wl_load (v := .pointer (some ⟨pb4, 0, none⟩)) isAgg112 rfl hb5 rfl ?_
     refine Wl_call (r_call1 rfl call64 rfl) (at_spec _ hp45 (by omega) (by omega) (by omega)) ?_
     rintro v w47 ⟨rfl, hU47⟩
     have hzw47 := hU47.size
     replace hp := hp.upd0 hU47
     replace hs := hs.upd0 hU47
     replace HU := HU.trans0 hU47
     replace hb1 := hb1.upd0 hU47
     replace hh45 := hh45.upd0 hU47
     refine Wl_call (r_call2 rfl call82 rfl rfl) (cbytes_k _ hp (hs.cur (by intro h1; have h3 : (pb < w.heap.size ∧ pb ≠ pb) := h1; first | omega | simp at h3)) hb (by omega) (by omega) (by omega)) ?_
     rintro v w48 ⟨a48, c48, rfl, hp48, hO48, hU48⟩
     have hzw48 := hU48.size
     replace HU := HU.trans1 hU48 (by show (pb = pb) ∨ w.heap.size ≤ pb; omega)
     replace hb1 := hb1.upd1 hU48 (by omega)
     replace hh45 := hh45.upd1 hU48 (by omega)
     have hbl_hp48 := hp48.lt
     replace hO48 := hO48.tight
     have hl_hO48 := ilen hO48.sl
     have hc_hO48 := hO48.sl.cap.1
     refine Wl_nil (W_seq (W_region ?_))
     refine Wl_v (r_loada (b := B8) (off := 0) (cs := [.int .i64 (hw (bs.getD (p + 5) 0)), .int .i64 ((gvar bs (p + 6)).1), .int .u32 0, .bool (decide (((bs.getD (p + 4) 0) / 2 % 2 * 2) ≠ 0))]) isAgg41 sizeOf41 rfl rfl (fun j hj => by rw [hh45.cell]; match j, hj with | 0, _ => rfl | 1, _ => rfl | 2, _ => rfl | 3, _ => rfl)) ?_
     refine Wl_storea (off := 0) (vs := [.int .i64 (hw (bs.getD (p + 5) 0)), .int .i64 ((gvar bs (p + 6)).1), .int .u32 0, .bool (decide (((bs.getD (p + 4) 0) / 2 % 2 * 2) ≠ 0))]) (cs' := [.int .i64 (hw (bs.getD (p + 5) 0)), .int .i64 ((gvar bs (p + 6)).1), .int .u32 0, .bool (decide (((bs.getD (p + 4) 0) / 2 % 2 * 2) ≠ 0))]) sizeOf41 rfl rfl rfl (by simp only [List.mem_cons, List.not_mem_nil, or_false, forall_eq_or_imp, forall_eq]; exact ⟨rfl, rfl, rfl, rfl⟩) hb1 (by simp) rfl ?_
     intro w49 hU49 hzz49 hb1n
     replace hb1 := hb1n; clear hb1n
     have hzw49 := hU49.size
     replace HU := HU.trans1 hU49 (by show (B1 = pb) ∨ w.heap.size ≤ B1; omega)
     replace hp48 := hp48.upd1 hU49 (by omega)
     refine Was (.int .i64 0) ?_
     refine Wl_nil ?_
     refine W_ret ?_
     refine ret_end (v := .tuple #[.agg #[.int .i64 (hw (bs.getD (p + 5) 0)), .int .i64 ((gvar bs (p + 6)).1), .int .u32 0, .bool (decide (((bs.getD (p + 4) 0) / 2 % 2 * 2) ≠ 0))], .int .i64 0]) rfl (rm_ct results70 rfl rfl (cellAgg isAgg41 sizeOf41 rfl hb1)) ?_
     have HD := hdict_skip q8
     have HQ : (hdict bs p).2.1 = p + 6 := by rw [HD]
     have HV : (hdict bs p).1 = 0 := by rw [HD]
     have HS := hsize_do (q := p + 6) q17
     have HG := gh_ok HM (by omega) (by omega) (by omega) (by rw [HD]) (fun h => q8 h.1) (by rw [HQ, HS]; exact q18)
     rw [HQ, HS, HV] at HG
     exact ⟨_, rfl, (vtup2 (by first | (rw [HG]; rfl) | (rw [HG, show (decide ((bs.getD (p + 4) 0) / 2 % 2 * 2 ≠ 0)) = decide ((bs.getD (p + 4) 0) / 2 % 2 = 1) from by rw [decide_eq_decide]; omega]; simp) | (rw [HG]; simp)) (by simp [HG])), (by rw [HG]; first | (simpa using hp48) | (dsimp only; rw [show (gvar bs (p + 6)).2.1 = p + ((gvar bs (p + 6)).2.1 - p) from by omega]; exact hp48) | (dsimp only; rw [show (gvar bs (p + 10)).2.1 = p + ((gvar bs (p + 10)).2.1 - p) from by omega]; exact hp48)), HU⟩
    refine Wl_call (r_clos0 call88 rfl  (by first | (simp; done) | (simp; rfl))) (get4_do (nv := (gvar bs (p + 6)).1) (q := 6) (er := (gvar bs (p + 6)).2.2) (b := bs.getD (p + 4) 0) (dv := 0) _ hb5 hbb17 hh23 hp23 (hO4.sl.cur (by intro h1; have h3 : ((w3.heap.size ≤ pb4 ∧ pb4 ≠ pb4) ∧ pb4 < w4.heap.size) := h1; first | omega | simp at h3)) (byt_take (byt_drop hb _) _) (by omega) (by omega) (by omega) (by omega) (by omega) (gvar_cutE (by omega) q18) (by omega)) ?_
    rintro v w50 ⟨rfl, hh50, hp50, hU50⟩
    have hzw50 := hU50.size
    replace hp := hp.upd hU50 (by intro hx; have hx2 : pb = B8 ∨ pb = pb4 := hx; omega)
    replace HU := HU.trans hU50 (by intro x hx; have hx2 : x = B8 ∨ x = pb4 := hx; show (x = pb) ∨ w.heap.size ≤ x; omega)
    replace hb1 := hb1.upd hU50 (by intro hx; have hx2 : B1 = B8 ∨ B1 = pb4 := hx; omega)
    have hbl_hh50 := hh50.lt
    have hbl_hp50 := hp50.lt
    refine Was (.int .i64 ((gvar bs (p + 6)).2.2)) ?_
    refine Wl_nil (W_seq (W_region ?_))
    refine Wmv (.int .i64 ((gvar bs (p + 6)).2.2)) ?_
    refine Wl_v (r_ne rfl rfl) ?_
    refine Wl_nil ?_
    have q19 : ((gvar bs (p + 6)).2.2) ≠ 0 := q18
    rw [decide_eq_true q19]
    refine W_cond_t rfl ?_
    refine W_exit ?_
    refine W_seq (W_seq (W_region ?_))
    refine Wmv (.int .i64 ((gvar bs (p + 6)).2.2)) ?_
    refine Wl_v (r_ne rfl rfl) ?_
    refine Wl_nil ?_
    have q20 : ((gvar bs (p + 6)).2.2) ≠ 0 := q19
    rw [decide_eq_true q20]
    refine W_cond_t rfl ?_
    refine W_seq (W_region ?_)
    refine Wl_v (r_build (pl := #[(0, 1), (1, 1), (2, 1), (3, 1)]) (pv := []) (cs := #[.int .i64 0, .int .i64 0, .int .u32 0, .bool false]) zeroValue41 underlying41 (fun w => by kernel_rfl) (by simp only [List.map_toArray, List.map_cons, List.map_nil] <;> rfl) (by kernel_rfl)) ?_
    refine Wmv (.int .i64 ((gvar bs (p + 6)).2.2)) ?_
    refine Wl_storea (off := 0) (vs := [.int .i64 0, .int .i64 0, .int .u32 0, .bool false]) (cs' := [.int .i64 0, .int .i64 0, .int .u32 0, .bool false]) sizeOf41 rfl rfl rfl (by simp only [List.mem_cons, List.not_mem_nil, or_false, forall_eq_or_imp, forall_eq]; exact ⟨rfl, rfl, rfl, rfl⟩) hb1 (by simp) rfl ?_
    intro w51 hU51 hzz51 hb1n
    replace hb1 := hb1n; clear hb1n
    have hzw51 := hU51.size
    replace hp := hp.upd1 hU51 (by omega)
    replace HU := HU.trans1 hU51 (by show (B1 = pb) ∨ w.heap.size ≤ B1; omega)
    refine Was (.int .i64 ((gvar bs (p + 6)).2.2)) ?_
    refine Wl_nil ?_
    refine W_ret ?_
    refine ret_end (v := .tuple #[.agg #[.int .i64 0, .int .i64 0, .int .u32 0, .bool false], .int .i64 ((gvar bs (p + 6)).2.2)]) rfl (rm_ct results70 rfl rfl (cellAgg isAgg41 sizeOf41 rfl hb1)) ?_
    have HD := hdict_skip q8
    have HQ : (hdict bs p).2.1 = p + 6 := by rw [HD]
    have HV : (hdict bs p).1 = 0 := by rw [HD]
    have HS := hsize_do (q := p + 6) q17
    have HG := gh_size HM (by omega) (by omega) (by omega) (by rw [HD]) (fun h => q8 h.1) (by rw [HQ, HS]; exact q18)
    rw [HQ, HS] at HG
    exact ⟨_, rfl, (vtup2 (by first | (rw [HG]; rfl) | (rw [HG, show (decide ((bs.getD (p + 4) 0) / 2 % 2 * 2 ≠ 0)) = decide ((bs.getD (p + 4) 0) / 2 % 2 = 1) from by rw [decide_eq_decide]; omega]; simp) | (rw [HG]; simp)) (by simp [HG])), (by rw [HG]; first | (simpa using hp) | (dsimp only; rw [show (gvar bs (p + 6)).2.1 = p + ((gvar bs (p + 6)).2.1 - p) from by omega]; exact hp) | (dsimp only; rw [show (gvar bs (p + 10)).2.1 = p + ((gvar bs (p + 10)).2.1 - p) from by omega]; exact hp)), HU⟩
   refine Wl_call (r_clos0 call88 rfl  (by first | (simp; done) | (simp; rfl))) (get4_skip (dv := 0) _ hb5 hbb17 hh23 hp23 (hO4.sl.cur (by intro h1; have h3 : ((w3.heap.size ≤ pb4 ∧ pb4 ≠ pb4) ∧ pb4 < w4.heap.size) := h1; first | omega | simp at h3)) (byt_take (byt_drop hb _) _) (by omega) (by omega) (by omega) (by omega) (by omega)) ?_
   rintro v w52 ⟨rfl, hU52⟩
   have hzw52 := hU52.size
   replace hp := hp.upd0 hU52
   replace hs := hs.upd0 hU52
   replace HU := HU.trans0 hU52
   replace hb1 := hb1.upd0 hU52
   replace hb5 := hb5.upd0 hU52
   replace hbb17 := hbb17.upd0 hU52
   replace hh23 := hh23.upd0 hU52
   replace hp23 := hp23.upd0 hU52
   refine Was (.int .i64 0) ?_
   refine Wl_nil (W_seq (W_region ?_))
   refine Wmv (.int .i64 0) ?_
   refine Wl_v (v := .bool false) (r_ne (a := 0) (b := 0) rfl rfl) ?_
   refine Wl_nil ?_
   refine W_cond_f rfl ?_
   refine W_skip (W_region ?_)
   refine Wl_v (r_add rfl rfl (show _ = (4 : Int) from by decide)) ?_
   refine Wmv (.int .i64 4) ?_
   refine Wl_nil ?_
   refine unrK_succ ?_
   refine W_seq (W_region ?_)
   refine Wl_v (v := .bool false) (r_lt (a := 4) (b := 4) rfl rfl) ?_
   refine Wl_nil (W_seq ?_)
   refine W_cond_f rfl ?_
   refine W_exit ?_
   refine W_seq (W_seq (W_region ?_))
   refine Wmv (.int .i64 0) ?_
   refine Wl_v (v := .bool false) (r_ne (a := 0) (b := 0) rfl rfl) ?_
   refine Wl_nil ?_
   refine W_cond_f rfl ?_
   refine W_skip (W_seq (W_region ?_))
   refine Wl_load (v := .int .u8 (bs.getD (p + 4) 0)) isAgg5 rfl hbb17 rfl ?_
   refine Wl_v (r_and rfl rfl (and2 (by omega) (by omega))) ?_
   refine Wl_v (r_ne rfl rfl) ?_
   refine Wl_v (r_fld underlying41 rfl sizeOf4 rfl rfl) ?_
   refine Wl_store (v := .bool (decide (((bs.getD (p + 4) 0) / 2 % 2 * 2) ≠ 0))) (cs' := [.int .i64 (hw (bs.getD (p + 5) 0)), .int .i64 (-1), .int .u32 0, .bool (decide (((bs.getD (p + 4) 0) / 2 % 2 * 2) ≠ 0))]) sizeOf4 rfl rfl rfl rfl hh23 rfl rfl ?_
   intro w53 hU53 hzz53 hh23n
   replace hh23 := hh23n; clear hh23n
   have hzw53 := hU53.size
   replace hp := hp.upd1 hU53 (by omega)
   replace hs := hs.upd1 hU53 (show ¬ ((B8 < w.heap.size ∧ B8 ≠ pb)) by omega)
   replace HU := HU.trans1 hU53 (by show (B8 = pb) ∨ w.heap.size ≤ B8; omega)
   replace hb1 := hb1.upd1 hU53 (by omega)
   replace hb5 := hb5.upd1 hU53 (by omega)
   replace hp23 := hp23.upd1 hU53 (by omega)
   refine Wl_nil (W_seq (W_region ?_))
   refine Wmv (.pointer (some ⟨pb, 0, none⟩)) ?_
   refine Wl_load (v := .pointer (some ⟨pb4, 0, none⟩)) isAgg112 rfl hb5 rfl ?_
   refine Wl_call (r_call1 rfl call64 rfl) (at_spec _ hp23 (by omega) (by omega) (by omega)) ?_
   rintro v w54 ⟨rfl, hU54⟩
   have hzw54 := hU54.size
   replace hp := hp.upd0 hU54
   replace hs := hs.upd0 hU54
   replace HU := HU.trans0 hU54
   replace hb1 := hb1.upd0 hU54
   replace hh23 := hh23.upd0 hU54
   refine Wl_call (r_call2 rfl call82 rfl rfl) (cbytes_k _ hp (hs.cur (by intro h1; have h3 : (pb < w.heap.size ∧ pb ≠ pb) := h1; first | omega | simp at h3)) hb (by omega) (by omega) (by omega)) ?_
   rintro v w55 ⟨a55, c55, rfl, hp55, hO55, hU55⟩
   have hzw55 := hU55.size
   replace HU := HU.trans1 hU55 (by show (pb = pb) ∨ w.heap.size ≤ pb; omega)
   replace hb1 := hb1.upd1 hU55 (by omega)
   replace hh23 := hh23.upd1 hU55 (by omega)
   have hbl_hp55 := hp55.lt
   replace hO55 := hO55.tight
   have hl_hO55 := ilen hO55.sl
   have hc_hO55 := hO55.sl.cap.1
   refine Wl_nil (W_seq (W_region ?_))
   refine Wl_v (r_loada (b := B8) (off := 0) (cs := [.int .i64 (hw (bs.getD (p + 5) 0)), .int .i64 (-1), .int .u32 0, .bool (decide (((bs.getD (p + 4) 0) / 2 % 2 * 2) ≠ 0))]) isAgg41 sizeOf41 rfl rfl (fun j hj => by rw [hh23.cell]; match j, hj with | 0, _ => rfl | 1, _ => rfl | 2, _ => rfl | 3, _ => rfl)) ?_
   refine Wl_storea (off := 0) (vs := [.int .i64 (hw (bs.getD (p + 5) 0)), .int .i64 (-1), .int .u32 0, .bool (decide (((bs.getD (p + 4) 0) / 2 % 2 * 2) ≠ 0))]) (cs' := [.int .i64 (hw (bs.getD (p + 5) 0)), .int .i64 (-1), .int .u32 0, .bool (decide (((bs.getD (p + 4) 0) / 2 % 2 * 2) ≠ 0))]) sizeOf41 rfl rfl rfl (by simp only [List.mem_cons, List.not_mem_nil, or_false, forall_eq_or_imp, forall_eq]; exact ⟨rfl, rfl, rfl, rfl⟩) hb1 (by simp) rfl ?_
   intro w56 hU56 hzz56 hb1n
   replace hb1 := hb1n; clear hb1n
   have hzw56 := hU56.size
   replace HU := HU.trans1 hU56 (by show (B1 = pb) ∨ w.heap.size ≤ B1; omega)
   replace hp55 := hp55.upd1 hU56 (by omega)
   refine Was (.int .i64 0) ?_
   refine Wl_nil ?_
   refine W_ret ?_
   refine ret_end (v := .tuple #[.agg #[.int .i64 (hw (bs.getD (p + 5) 0)), .int .i64 (-1), .int .u32 0, .bool (decide (((bs.getD (p + 4) 0) / 2 % 2 * 2) ≠ 0))], .int .i64 0]) rfl (rm_ct results70 rfl rfl (cellAgg isAgg41 sizeOf41 rfl hb1)) ?_
   have HD := hdict_skip q8
   have HQ : (hdict bs p).2.1 = p + 6 := by rw [HD]
   have HV : (hdict bs p).1 = 0 := by rw [HD]
   have HS := hsize_skip (q := p + 6) q17
   have HG := gh_ok HM (by omega) (by omega) (by omega) (by rw [HD]) (fun h => q8 h.1) (by rw [HQ, HS])
   rw [HQ, HS, HV] at HG
   exact ⟨_, rfl, (vtup2 (by first | (rw [HG]; rfl) | (rw [HG, show (decide ((bs.getD (p + 4) 0) / 2 % 2 * 2 ≠ 0)) = decide ((bs.getD (p + 4) 0) / 2 % 2 = 1) from by rw [decide_eq_decide]; omega]; simp) | (rw [HG]; simp)) (by simp [HG])), (by rw [HG]; first | (simpa using hp55) | (dsimp only; rw [show (gvar bs (p + 6)).2.1 = p + ((gvar bs (p + 6)).2.1 - p) from by omega]; exact hp55) | (dsimp only; rw [show (gvar bs (p + 10)).2.1 = p + ((gvar bs (p + 10)).2.1 - p) from by omega]; exact hp55)), HU⟩
  rw [decide_eq_false q2]
  simp only [Bool.not_true, Bool.not_false]
  refine W_cond_t rfl ?_
  refine W_region ?_
  refine Was (.int .i64 6) ?_
  refine Wl_nil (W_seq (W_seq (W_region ?_)))
  refine Wmv (.int .i64 6) ?_
  refine Wl_v (v := .bool true) (r_ne (a := 6) (b := 0) rfl rfl) ?_
  refine Wl_nil ?_
  refine W_cond_t rfl ?_
  refine W_seq (W_region ?_)
  refine Wl_v (r_build (pl := #[(0, 1), (1, 1), (2, 1), (3, 1)]) (pv := []) (cs := #[.int .i64 0, .int .i64 0, .int .u32 0, .bool false]) zeroValue41 underlying41 (fun w => by kernel_rfl) (by simp only [List.map_toArray, List.map_cons, List.map_nil] <;> rfl) (by kernel_rfl)) ?_
  refine Wmv (.int .i64 6) ?_
  refine Wl_storea (off := 0) (vs := [.int .i64 0, .int .i64 0, .int .u32 0, .bool false]) (cs' := [.int .i64 0, .int .i64 0, .int .u32 0, .bool false]) sizeOf41 rfl rfl rfl (by simp only [List.mem_cons, List.not_mem_nil, or_false, forall_eq_or_imp, forall_eq]; exact ⟨rfl, rfl, rfl, rfl⟩) hb1 (by simp) rfl ?_
  intro w57 hU57 hzz57 hb1n
  replace hb1 := hb1n; clear hb1n
  have hzw57 := hU57.size
  replace hp := hp.upd1 hU57 (by omega)
  replace HU := HU.trans1 hU57 (by show (B1 = pb) ∨ w.heap.size ≤ B1; omega)
  refine Was (.int .i64 6) ?_
  refine Wl_nil ?_
  refine W_ret ?_
  refine ret_end (v := .tuple #[.agg #[.int .i64 0, .int .i64 0, .int .u32 0, .bool false], .int .i64 6]) rfl (rm_ct results70 rfl rfl (cellAgg isAgg41 sizeOf41 rfl hb1)) ?_
  have HG := gh_kind (bs := bs) (p := p) q1 q2
  exact ⟨_, rfl, (vtup2 (by first | (rw [HG]; rfl) | (rw [HG, show (decide ((bs.getD (p + 4) 0) / 2 % 2 * 2 ≠ 0)) = decide ((bs.getD (p + 4) 0) / 2 % 2 = 1) from by rw [decide_eq_decide]; omega]; simp) | (rw [HG]; simp)) (by simp [HG])), (by rw [HG]; first | (simpa using hp) | (dsimp only; rw [show (gvar bs (p + 6)).2.1 = p + ((gvar bs (p + 6)).2.1 - p) from by omega]; exact hp) | (dsimp only; rw [show (gvar bs (p + 10)).2.1 = p + ((gvar bs (p + 10)).2.1 - p) from by omega]; exact hp)), HU⟩
 rw [decide_eq_false q1]
 refine Wl_guard_f rfl (Wl_guard_f rfl ?_)
 refine Wl_v (r_pick_f (v := .bool false) rfl rfl) ?_
 refine Wl_nil ?_
 refine W_cond_f rfl ?_
 refine W_skip (W_seq (W_seq (W_region ?_)))
 refine Wmv (.int .i64 ((hmk bs p).2)) ?_
 refine Wl_v (r_ne rfl rfl) ?_
 refine Wl_nil ?_
 have q21 : ((hmk bs p).2) ≠ 0 := q1
 rw [decide_eq_true q21]
 refine W_cond_t rfl ?_
 refine W_seq (W_region ?_)
 refine Wl_v (r_build (pl := #[(0, 1), (1, 1), (2, 1), (3, 1)]) (pv := []) (cs := #[.int .i64 0, .int .i64 0, .int .u32 0, .bool false]) zeroValue41 underlying41 (fun w => by kernel_rfl) (by simp only [List.map_toArray, List.map_cons, List.map_nil] <;> rfl) (by kernel_rfl)) ?_
 refine Wmv (.int .i64 ((hmk bs p).2)) ?_
 refine Wl_storea (off := 0) (vs := [.int .i64 0, .int .i64 0, .int .u32 0, .bool false]) (cs' := [.int .i64 0, .int .i64 0, .int .u32 0, .bool false]) sizeOf41 rfl rfl rfl (by simp only [List.mem_cons, List.not_mem_nil, or_false, forall_eq_or_imp, forall_eq]; exact ⟨rfl, rfl, rfl, rfl⟩) hb1 (by simp) rfl ?_
 intro w58 hU58 hzz58 hb1n
 replace hb1 := hb1n; clear hb1n
 have hzw58 := hU58.size
 replace hp := hp.upd1 hU58 (by omega)
 replace HU := HU.trans1 hU58 (by show (B1 = pb) ∨ w.heap.size ≤ B1; omega)
 refine Was (.int .i64 ((hmk bs p).2)) ?_
 refine Wl_nil ?_
 refine W_ret ?_
 refine ret_end (v := .tuple #[.agg #[.int .i64 0, .int .i64 0, .int .u32 0, .bool false], .int .i64 ((hmk bs p).2)]) rfl (rm_ct results70 rfl rfl (cellAgg isAgg41 sizeOf41 rfl hb1)) ?_
 have HG := gh_mk (bs := bs) (p := p) q1
 exact ⟨_, rfl, (vtup2 (by first | (rw [HG]; rfl) | (rw [HG, show (decide ((bs.getD (p + 4) 0) / 2 % 2 * 2 ≠ 0)) = decide ((bs.getD (p + 4) 0) / 2 % 2 = 1) from by rw [decide_eq_decide]; omega]; simp) | (rw [HG]; simp)) (by simp [HG])), (by rw [HG]; first | (simpa using hp) | (dsimp only; rw [show (gvar bs (p + 6)).2.1 = p + ((gvar bs (p + 6)).2.1 - p) from by omega]; exact hp) | (dsimp only; rw [show (gvar bs (p + 10)).2.1 = p + ((gvar bs (p + 10)).2.1 - p) from by omega]; exact hp)), HU⟩
set_option maxHeartbeats 4000000 in
theorem rget38 {a : Option Addr} {n c p : Nat} {bs : List Int} (w : World) (hs : Sl w (fun g => g < w.heap.size) 1 (.slice a n c) n (ints .u8 bs)) (hb : Byt bs) (hpn : p ≤ n) (hn : n ≤ 140737488355328) :
  Calls Tryd.prog 41 #[.slice a n c, .int .i64 ((p : Nat) : Int)] w (Ret fun v w' => v = .tuple #[.agg #[.int .i64 ((ghead bs p).1.1), .int .i64 ((ghead bs p).1.2.1), .int .u32 ((ghead bs p).1.2.2.1), .bool (decide ((ghead bs p).1.2.2.2 = true))], .int .i64 (((ghead bs p).2.1 : Nat) : Int), .int .i64 ((ghead bs p).2.2)] ∧ Upd No w w') := by
 have HU := Upd.rno w
 have hl_hs := ilen hs
 have hc_hs := hs.cap.1
 refine calls_of_W func41 rfl ntmps41 (by simp) ?_
 refine W_seq (W_region ?_)
 refine Wl_alloc (cs := [.int .i64 0, .int .i64 0, .int .u32 0, .bool false]) zeroValue41 rfl ?_
 intro B1 w1 hB1 hU1 hzz1 hb1
 have hzw1 := hU1.size
 replace hs := hs.upd0 hU1
 replace HU := HU.trans0 hU1
 refine Was (.int .i64 0) ?_
 refine Was (.int .i64 0) ?_
 refine Wl_nil (W_seq (W_region ?_))
 refine Wmv (.slice a n c) ?_
 refine Wmv (.int .i64 ((p : Nat) : Int)) ?_
 refine Wl_call (r_call2 rfl call25 rfl rfl) (rmark _ hs.any hb (by omega) (by omega)) ?_
 rintro v w2 ⟨rfl, hU2⟩
 have hzw2 := hU2.size
 replace hs := hs.upd0 hU2
 replace HU := HU.trans0 hU2
 replace hb1 := hb1.upd0 hU2
 refine Wmv (.tuple #[.int .i64 ((hmk bs p).1), .int .i64 ((hmk bs p).2)]) ?_
 refine Wl_v (r_ext (v := .int .i64 ((hmk bs p).1)) rfl rfl) ?_
 refine Wl_v (r_ext (v := .int .i64 ((hmk bs p).2)) rfl rfl) ?_
 refine Was (.int .i64 ((hmk bs p).1)) ?_
 refine Was (.int .i64 ((hmk bs p).2)) ?_
 refine Wl_nil (W_seq (W_seq (W_region ?_)))
 refine Wmv (.int .i64 ((hmk bs p).2)) ?_
 refine Wl_v (r_ne rfl rfl) ?_
 refine Wl_nil ?_
 by_cases q1 : ((hmk bs p).2) ≠ 0
 ·rw [decide_eq_true q1]
  refine W_cond_t rfl ?_
  refine W_seq (W_region ?_)
  refine Wl_v (r_build (pl := #[(0, 1), (1, 1), (2, 1), (3, 1)]) (pv := []) (cs := #[.int .i64 0, .int .i64 0, .int .u32 0, .bool false]) zeroValue41 underlying41 (fun w => by kernel_rfl) (by simp only [List.map_toArray, List.map_cons, List.map_nil] <;> rfl) (by kernel_rfl)) ?_
  refine Wmv (.int .i64 ((p : Nat) : Int)) ?_
  refine Wmv (.int .i64 ((hmk bs p).2)) ?_
  refine Wl_storea (off := 0) (vs := [.int .i64 0, .int .i64 0, .int .u32 0, .bool false]) (cs' := [.int .i64 0, .int .i64 0, .int .u32 0, .bool false]) sizeOf41 rfl rfl rfl (by simp only [List.mem_cons, List.not_mem_nil, or_false, forall_eq_or_imp, forall_eq]; exact ⟨rfl, rfl, rfl, rfl⟩) hb1 (by simp) rfl ?_
  intro w3 hU3 hzz3 hb1n
  replace hb1 := hb1n; clear hb1n
  have hzw3 := hU3.size
  replace HU := HU.t1 hU3 (by omega)
  refine Was (.int .i64 ((p : Nat) : Int)) ?_
  refine Was (.int .i64 ((hmk bs p).2)) ?_
  refine Wl_nil ?_
  refine W_ret ?_
  refine ret_end (v := .tuple #[.agg #[.int .i64 0, .int .i64 0, .int .u32 0, .bool false], .int .i64 ((p : Nat) : Int), .int .i64 ((hmk bs p).2)]) rfl (rm_ctt results41 rfl rfl rfl (cellAgg isAgg41 sizeOf41 rfl hb1)) ?_
  have HG := gh_mk (bs := bs) (p := p) q1
  exact ⟨_, rfl, (vtup3 (by first | (rw [HG]; rfl) | (rw [HG]; simp)) (vint (by rw [HG]; first | done | rfl | (dsimp only; omega))) (by simp [HG])), HU⟩
 rw [decide_eq_false q1]
 refine W_cond_f rfl ?_
 refine W_skip (W_seq (W_seq (W_region ?_)))
 refine Wmv (.int .i64 ((hmk bs p).1)) ?_
 refine Wl_v (r_ne rfl rfl) ?_
 refine Wl_nil ?_
 by_cases q2 : ((hmk bs p).1) ≠ 1
 ·rw [decide_eq_true q2]
  refine W_cond_t rfl ?_
  refine W_seq (W_region ?_)
  refine Wl_v (r_build (pl := #[(0, 1), (1, 1), (2, 1), (3, 1)]) (pv := []) (cs := #[.int .i64 0, .int .i64 0, .int .u32 0, .bool false]) zeroValue41 underlying41 (fun w => by kernel_rfl) (by simp only [List.map_toArray, List.map_cons, List.map_nil] <;> rfl) (by kernel_rfl)) ?_
  refine Wmv (.int .i64 ((p : Nat) : Int)) ?_
  refine Wl_storea (off := 0) (vs := [.int .i64 0, .int .i64 0, .int .u32 0, .bool false]) (cs' := [.int .i64 0, .int .i64 0, .int .u32 0, .bool false]) sizeOf41 rfl rfl rfl (by simp only [List.mem_cons, List.not_mem_nil, or_false, forall_eq_or_imp, forall_eq]; exact ⟨rfl, rfl, rfl, rfl⟩) hb1 (by simp) rfl ?_
  intro w4 hU4 hzz4 hb1n
  replace hb1 := hb1n; clear hb1n
  have hzw4 := hU4.size
  replace HU := HU.t1 hU4 (by omega)
  refine Was (.int .i64 ((p : Nat) : Int)) ?_
  refine Was (.int .i64 6) ?_
  refine Wl_nil ?_
  refine W_ret ?_
  refine ret_end (v := .tuple #[.agg #[.int .i64 0, .int .i64 0, .int .u32 0, .bool false], .int .i64 ((p : Nat) : Int), .int .i64 6]) rfl (rm_ctt results41 rfl rfl rfl (cellAgg isAgg41 sizeOf41 rfl hb1)) ?_
  have HG := gh_kind (bs := bs) (p := p) (Classical.not_not.1 q1) q2
  exact ⟨_, rfl, (vtup3 (by first | (rw [HG]; rfl) | (rw [HG]; simp)) (vint (by rw [HG]; first | done | rfl | (dsimp only; omega))) (by simp [HG])), HU⟩
 have HM : Hm bs p := ⟨(Classical.not_not.1 q1), (Classical.not_not.1 q2)⟩
 have hml := Hm_len HM
 have hq4_ := byt_gd hb (p + 4)
 have hq5_ := byt_gd hb (p + 5)
 rw [decide_eq_false q2]
 refine W_cond_f rfl ?_
 refine W_skip (W_seq (W_seq (W_region ?_)))
 refine Wmv (.slice a n c) ?_
 refine Wl_v (r_len underlying22 rfl) ?_
 refine Wmv (.int .i64 ((p : Nat) : Int)) ?_
 refine Wl_v (r_sub rfl rfl (wi64 (by omega) (by omega))) ?_
 refine Wl_v (r_lt rfl rfl) ?_
 refine Wl_nil ?_
 by_cases q3 : (((n : Nat) : Int) - ((p : Nat) : Int)) < 5
 ·rw [decide_eq_true q3]
  refine W_cond_t rfl ?_
  refine W_seq (W_region ?_)
  refine Wl_v (r_build (pl := #[(0, 1), (1, 1), (2, 1), (3, 1)]) (pv := []) (cs := #[.int .i64 0, .int .i64 0, .int .u32 0, .bool false]) zeroValue41 underlying41 (fun w => by kernel_rfl) (by simp only [List.map_toArray, List.map_cons, List.map_nil] <;> rfl) (by kernel_rfl)) ?_
  refine Wmv (.int .i64 ((p : Nat) : Int)) ?_
  refine Wl_storea (off := 0) (vs := [.int .i64 0, .int .i64 0, .int .u32 0, .bool false]) (cs' := [.int .i64 0, .int .i64 0, .int .u32 0, .bool false]) sizeOf41 rfl rfl rfl (by simp only [List.mem_cons, List.not_mem_nil, or_false, forall_eq_or_imp, forall_eq]; exact ⟨rfl, rfl, rfl, rfl⟩) hb1 (by simp) rfl ?_
  intro w5 hU5 hzz5 hb1n
  replace hb1 := hb1n; clear hb1n
  have hzw5 := hU5.size
  replace HU := HU.t1 hU5 (by omega)
  refine Was (.int .i64 ((p : Nat) : Int)) ?_
  refine Was (.int .i64 3) ?_
  refine Wl_nil ?_
  refine W_ret ?_
  refine ret_end (v := .tuple #[.agg #[.int .i64 0, .int .i64 0, .int .u32 0, .bool false], .int .i64 ((p : Nat) : Int), .int .i64 3]) rfl (rm_ctt results41 rfl rfl rfl (cellAgg isAgg41 sizeOf41 rfl hb1)) ?_
  have HG := gh_5 HM (by omega)
  exact ⟨_, rfl, (vtup3 (by first | (rw [HG]; rfl) | (rw [HG]; simp)) (vint (by rw [HG]; first | done | rfl | (dsimp only; omega))) (by simp [HG])), HU⟩
 rw [decide_eq_false q3]
 refine W_cond_f rfl ?_
 refine W_skip (W_seq (W_region ?_))
 refine Wmv (.slice a n c) ?_
 refine Wmv (.int .i64 ((p : Nat) : Int)) ?_
 refine Wl_v (r_add rfl rfl (wi64 (by omega) (by omega))) ?_
 refine Wl_idxi underlying22 sizeOf5 rfl rfl hs (by omega) (by omega) ?_
 intro ib6 io6 hc6
 rw [show (((p : Nat) : Int) + 4).toNat = (p + 4) from by omega] at hc6
 refine Wl_loadc isAgg5 rfl hc6 ?_
 refine Was (.int .u8 (bs.getD (p + 4) 0)) ?_
 refine Wl_nil (W_seq (W_seq (W_region ?_)))
 refine Wmv (.int .u8 (bs.getD (p + 4) 0)) ?_
 refine Wl_v (r_gt rfl rfl) ?_
 refine Wl_nil ?_
 by_cases q4 : 7 < (bs.getD (p + 4) 0)
 ·rw [decide_eq_true q4]
  refine W_cond_t rfl ?_
  refine W_seq (W_region ?_)
  refine Wl_v (r_build (pl := #[(0, 1), (1, 1), (2, 1), (3, 1)]) (pv := []) (cs := #[.int .i64 0, .int .i64 0, .int .u32 0, .bool false]) zeroValue41 underlying41 (fun w => by kernel_rfl) (by simp only [List.map_toArray, List.map_cons, List.map_nil] <;> rfl) (by kernel_rfl)) ?_
  refine Wmv (.int .i64 ((p : Nat) : Int)) ?_
  refine Wl_storea (off := 0) (vs := [.int .i64 0, .int .i64 0, .int .u32 0, .bool false]) (cs' := [.int .i64 0, .int .i64 0, .int .u32 0, .bool false]) sizeOf41 rfl rfl rfl (by simp only [List.mem_cons, List.not_mem_nil, or_false, forall_eq_or_imp, forall_eq]; exact ⟨rfl, rfl, rfl, rfl⟩) hb1 (by simp) rfl ?_
  intro w7 hU7 hzz7 hb1n
  replace hb1 := hb1n; clear hb1n
  have hzw7 := hU7.size
  replace HU := HU.t1 hU7 (by omega)
  refine Was (.int .i64 ((p : Nat) : Int)) ?_
  refine Was (.int .i64 7) ?_
  refine Wl_nil ?_
  refine W_ret ?_
  refine ret_end (v := .tuple #[.agg #[.int .i64 0, .int .i64 0, .int .u32 0, .bool false], .int .i64 ((p : Nat) : Int), .int .i64 7]) rfl (rm_ctt results41 rfl rfl rfl (cellAgg isAgg41 sizeOf41 rfl hb1)) ?_
  have HG := gh_bits HM (by omega) (by omega)
  exact ⟨_, rfl, (vtup3 (by first | (rw [HG]; rfl) | (rw [HG]; simp)) (vint (by rw [HG]; first | done | rfl | (dsimp only; omega))) (by simp [HG])), HU⟩
 rw [decide_eq_false q4]
 refine W_cond_f rfl ?_
 refine W_skip (W_seq (W_seq (W_region ?_)))
 refine Wmv (.slice a n c) ?_
 refine Wl_v (r_len underlying22 rfl) ?_
 refine Wmv (.int .i64 ((p : Nat) : Int)) ?_
 refine Wl_v (r_sub rfl rfl (wi64 (by omega) (by omega))) ?_
 refine Wl_v (r_lt rfl rfl) ?_
 refine Wl_nil ?_
 by_cases q5 : (((n : Nat) : Int) - ((p : Nat) : Int)) < 6
 ·rw [decide_eq_true q5]
  refine W_cond_t rfl ?_
  refine W_seq (W_region ?_)
  refine Wl_v (r_build (pl := #[(0, 1), (1, 1), (2, 1), (3, 1)]) (pv := []) (cs := #[.int .i64 0, .int .i64 0, .int .u32 0, .bool false]) zeroValue41 underlying41 (fun w => by kernel_rfl) (by simp only [List.map_toArray, List.map_cons, List.map_nil] <;> rfl) (by kernel_rfl)) ?_
  refine Wmv (.int .i64 ((p : Nat) : Int)) ?_
  refine Wl_storea (off := 0) (vs := [.int .i64 0, .int .i64 0, .int .u32 0, .bool false]) (cs' := [.int .i64 0, .int .i64 0, .int .u32 0, .bool false]) sizeOf41 rfl rfl rfl (by simp only [List.mem_cons, List.not_mem_nil, or_false, forall_eq_or_imp, forall_eq]; exact ⟨rfl, rfl, rfl, rfl⟩) hb1 (by simp) rfl ?_
  intro w8 hU8 hzz8 hb1n
  replace hb1 := hb1n; clear hb1n
  have hzw8 := hU8.size
  replace HU := HU.t1 hU8 (by omega)
  refine Was (.int .i64 ((p : Nat) : Int)) ?_
  refine Was (.int .i64 3) ?_
  refine Wl_nil ?_
  refine W_ret ?_
  refine ret_end (v := .tuple #[.agg #[.int .i64 0, .int .i64 0, .int .u32 0, .bool false], .int .i64 ((p : Nat) : Int), .int .i64 3]) rfl (rm_ctt results41 rfl rfl rfl (cellAgg isAgg41 sizeOf41 rfl hb1)) ?_
  have HG := gh_6 HM (by omega) (by omega) (by omega)
  exact ⟨_, rfl, (vtup3 (by first | (rw [HG]; rfl) | (rw [HG]; simp)) (vint (by rw [HG]; first | done | rfl | (dsimp only; omega))) (by simp [HG])), HU⟩
 rw [decide_eq_false q5]
 refine W_cond_f rfl ?_
 refine W_skip (W_seq (W_region ?_))
 refine Wmv (.slice a n c) ?_
 refine Wmv (.int .i64 ((p : Nat) : Int)) ?_
 refine Wl_v (r_add rfl rfl (wi64 (by omega) (by omega))) ?_
 refine Wl_idxi underlying22 sizeOf5 rfl rfl hs (by omega) (by omega) ?_
 intro ib9 io9 hc9
 rw [show (((p : Nat) : Int) + 5).toNat = (p + 5) from by omega] at hc9
 refine Wl_loadc isAgg5 rfl hc9 ?_
 refine Wl_call (r_call1 rfl call57 rfl) (rwindow _ (by omega)) ?_
 rintro v w10 ⟨rfl, hU10⟩
 have hzw10 := hU10.size
 replace hs := hs.upd0 hU10
 replace HU := HU.trans0 hU10
 replace hb1 := hb1.upd0 hU10
 refine Wmv (.int .u8 (bs.getD (p + 4) 0)) ?_
 refine Wl_v (r_quo rfl rfl (by omega) (tq (by omega) (wu8 (by omega) (by omega)))) ?_
 refine Wl_v (r_rem rfl rfl (by omega) (tr (by omega))) ?_
 refine Wl_v (r_eq rfl rfl) ?_
 refine Wl_v (r_build (pl := #[(0, 1), (1, 1), (2, 1), (3, 1)]) (pv := [(0, .int .i64 (hw (bs.getD (p + 5) 0))), (1, .int .i64 (-1)), (3, .bool (decide ((((bs.getD (p + 4) 0) / 2) % 2) = 1)))]) (cs := #[.int .i64 (hw (bs.getD (p + 5) 0)), .int .i64 (-1), .int .u32 0, .bool (decide ((((bs.getD (p + 4) 0) / 2) % 2) = 1))]) zeroValue41 underlying41 (fun w => by kernel_rfl) (by simp only [List.map_toArray, List.map_cons, List.map_nil] <;> rfl) (by kernel_rfl)) ?_
 refine Wl_alloc (cs := [.int .i64 0, .int .i64 0, .int .u32 0, .bool false]) zeroValue41 rfl ?_
 intro B11 w11 hB11 hU11 hzz11 hb11
 have hzw11 := hU11.size
 replace hs := hs.upd0 hU11
 replace HU := HU.trans0 hU11
 replace hb1 := hb1.upd0 hU11
 refine Wl_storea (off := 0) (vs := [.int .i64 (hw (bs.getD (p + 5) 0)), .int .i64 (-1), .int .u32 0, .bool (decide ((((bs.getD (p + 4) 0) / 2) % 2) = 1))]) (cs' := [.int .i64 (hw (bs.getD (p + 5) 0)), .int .i64 (-1), .int .u32 0, .bool (decide ((((bs.getD (p + 4) 0) / 2) % 2) = 1))]) sizeOf41 rfl rfl rfl (by simp only [List.mem_cons, List.not_mem_nil, or_false, forall_eq_or_imp, forall_eq]; exact ⟨rfl, rfl, rfl, rfl⟩) hb11 (by simp) rfl ?_
 intro w12 hU12 hzz12 hb11n
 replace hb11 := hb11n; clear hb11n
 have hzw12 := hU12.size
 replace hs := hs.upd1 hU12 (show ¬ (B11 < w.heap.size) by omega)
 replace HU := HU.t1 hU12 (by omega)
 replace hb1 := hb1.upd1 hU12 (by omega)
 refine Wl_nil (W_seq (W_seq (W_region ?_)))
 refine Wl_v (r_fld underlying41 rfl sizeOf3 rfl rfl) ?_
 refine Wl_load (v := .int .i64 (hw (bs.getD (p + 5) 0))) isAgg3 rfl hb11 rfl ?_
 refine Wl_v (r_eq rfl rfl) ?_
 refine Wl_nil ?_
 by_cases q6 : (hw (bs.getD (p + 5) 0)) = 0
 ·rw [decide_eq_true q6]
  refine W_cond_t rfl ?_
  refine W_seq (W_region ?_)
  refine Wl_v (r_build (pl := #[(0, 1), (1, 1), (2, 1), (3, 1)]) (pv := []) (cs := #[.int .i64 0, .int .i64 0, .int .u32 0, .bool false]) zeroValue41 underlying41 (fun w => by kernel_rfl) (by simp only [List.map_toArray, List.map_cons, List.map_nil] <;> rfl) (by kernel_rfl)) ?_
  refine Wmv (.int .i64 ((p : Nat) : Int)) ?_
  refine Wl_storea (off := 0) (vs := [.int .i64 0, .int .i64 0, .int .u32 0, .bool false]) (cs' := [.int .i64 0, .int .i64 0, .int .u32 0, .bool false]) sizeOf41 rfl rfl rfl (by simp only [List.mem_cons, List.not_mem_nil, or_false, forall_eq_or_imp, forall_eq]; exact ⟨rfl, rfl, rfl, rfl⟩) hb1 (by simp) rfl ?_
  intro w13 hU13 hzz13 hb1n
  replace hb1 := hb1n; clear hb1n
  have hzw13 := hU13.size
  replace HU := HU.t1 hU13 (by omega)
  refine Was (.int .i64 ((p : Nat) : Int)) ?_
  refine Was (.int .i64 7) ?_
  refine Wl_nil ?_
  refine W_ret ?_
  refine ret_end (v := .tuple #[.agg #[.int .i64 0, .int .i64 0, .int .u32 0, .bool false], .int .i64 ((p : Nat) : Int), .int .i64 7]) rfl (rm_ctt results41 rfl rfl rfl (cellAgg isAgg41 sizeOf41 rfl hb1)) ?_
  have HG := gh_win HM (by omega) (by omega) (by omega) q6
  exact ⟨_, rfl, (vtup3 (by first | (rw [HG]; rfl) | (rw [HG]; simp)) (vint (by rw [HG]; first | done | rfl | (dsimp only; omega))) (by simp [HG])), HU⟩
 have hwp := hw_pt hq5_.1 hq5_.2
 rw [decide_eq_false q6]
 refine W_cond_f rfl ?_
 refine W_skip (W_seq (W_region ?_))
 refine Wmv (.int .i64 ((p : Nat) : Int)) ?_
 refine Wl_v (r_add rfl rfl (wi64 (by omega) (by omega))) ?_
 refine Was (.int .i64 (((p : Nat) : Int) + 6)) ?_
 refine Wl_nil (W_seq (W_seq (W_region ?_)))
 refine Wmv (.int .u8 (bs.getD (p + 4) 0)) ?_
 refine Wl_v (r_quo rfl rfl (by omega) (tq (by omega) (wu8 (by omega) (by omega)))) ?_
 refine Wl_v (r_eq rfl rfl) ?_
 refine Wl_nil ?_
 by_cases q7 : ((bs.getD (p + 4) 0) / 4) = 1
 ·rw [decide_eq_true q7]
  refine W_cond_t rfl ?_
  refine W_seq (W_region ?_)
  refine Wmv (.slice a n c) ?_
  refine Wmv (.int .i64 (((p : Nat) : Int) + 6)) ?_
  refine Wl_call (r_call2 rfl call39 (v1 := .int .i64 ((p + 6 : Nat) : Int)) rfl (Eq.trans (b := .int .i64 (((p : Nat) : Int) + 6)) rfl (vint (by omega)))) (rgetword_spec _ hs.any hb (by omega) (by omega)) ?_
  rintro v w14 ⟨rfl, hU14⟩
  have hzw14 := hU14.size
  replace hs := hs.upd0 hU14
  replace HU := HU.trans0 hU14
  replace hb1 := hb1.upd0 hU14
  replace hb11 := hb11.upd0 hU14
  refine Wmv (.tuple #[.int .u32 ((gword bs (p + 6)).1), .int .i64 (((gword bs (p + 6)).2.1 : Nat) : Int), .int .i64 ((gword bs (p + 6)).2.2)]) ?_
  refine Wl_v (r_ext (v := .int .u32 ((gword bs (p + 6)).1)) rfl rfl) ?_
  refine Wl_v (r_ext (v := .int .i64 (((gword bs (p + 6)).2.1 : Nat) : Int)) rfl rfl) ?_
  refine Wl_v (r_ext (v := .int .i64 ((gword bs (p + 6)).2.2)) rfl rfl) ?_
  refine Wl_v (r_fld underlying41 rfl sizeOf39 rfl rfl) ?_
  refine Wl_store (v := .int .u32 ((gword bs (p + 6)).1)) (cs' := [.int .i64 (hw (bs.getD (p + 5) 0)), .int .i64 (-1), .int .u32 ((gword bs (p + 6)).1), .bool (decide ((((bs.getD (p + 4) 0) / 2) % 2) = 1))]) sizeOf39 rfl rfl rfl rfl hb11 rfl rfl ?_
  intro w15 hU15 hzz15 hb11n
  replace hb11 := hb11n; clear hb11n
  have hzw15 := hU15.size
  replace hs := hs.upd1 hU15 (show ¬ (B11 < w.heap.size) by omega)
  replace HU := HU.t1 hU15 (by omega)
  replace hb1 := hb1.upd1 hU15 (by omega)
  refine Was (.int .i64 (((gword bs (p + 6)).2.1 : Nat) : Int)) ?_
  refine Was (.int .i64 ((gword bs (p + 6)).2.2)) ?_
  refine Wl_nil (W_seq (W_seq (W_region ?_)))
  refine Wmv (.int .i64 ((gword bs (p + 6)).2.2)) ?_
  refine Wl_v (r_ne rfl rfl) ?_
  refine Wl_nil ?_
  by_cases q8 : ((gword bs (p + 6)).2.2) ≠ 0
  ·rw [decide_eq_true q8]
   refine W_cond_t rfl ?_
   refine W_seq (W_region ?_)
   refine Wl_v (r_build (pl := #[(0, 1), (1, 1), (2, 1), (3, 1)]) (pv := []) (cs := #[.int .i64 0, .int .i64 0, .int .u32 0, .bool false]) zeroValue41 underlying41 (fun w => by kernel_rfl) (by simp only [List.map_toArray, List.map_cons, List.map_nil] <;> rfl) (by kernel_rfl)) ?_
   refine Wmv (.int .i64 ((p : Nat) : Int)) ?_
   refine Wmv (.int .i64 ((gword bs (p + 6)).2.2)) ?_
   refine Wl_storea (off := 0) (vs := [.int .i64 0, .int .i64 0, .int .u32 0, .bool false]) (cs' := [.int .i64 0, .int .i64 0, .int .u32 0, .bool false]) sizeOf41 rfl rfl rfl (by simp only [List.mem_cons, List.not_mem_nil, or_false, forall_eq_or_imp, forall_eq]; exact ⟨rfl, rfl, rfl, rfl⟩) hb1 (by simp) rfl ?_
   intro w16 hU16 hzz16 hb1n
   replace hb1 := hb1n; clear hb1n
   have hzw16 := hU16.size
   replace HU := HU.t1 hU16 (by omega)
   refine Was (.int .i64 ((p : Nat) : Int)) ?_
   refine Was (.int .i64 ((gword bs (p + 6)).2.2)) ?_
   refine Wl_nil ?_
   refine W_ret ?_
   refine ret_end (v := .tuple #[.agg #[.int .i64 0, .int .i64 0, .int .u32 0, .bool false], .int .i64 ((p : Nat) : Int), .int .i64 ((gword bs (p + 6)).2.2)]) rfl (rm_ctt results41 rfl rfl rfl (cellAgg isAgg41 sizeOf41 rfl hb1)) ?_
   have HD := hdict_do q7
   have HG := gh_dict HM (by omega) (by omega) q6 (by rw [HD]; exact q8)
   rw [HD] at HG
   exact ⟨_, rfl, (vtup3 (by first | (rw [HG]; rfl) | (rw [HG]; simp)) (vint (by rw [HG]; first | done | rfl | (dsimp only; omega))) (by simp [HG])), HU⟩
  rw [decide_eq_false q8]
  refine W_cond_f rfl ?_
  refine W_skip (W_seq (W_region ?_))
  refine Wl_v (r_fld underlying41 rfl sizeOf39 rfl rfl) ?_
  refine Wl_load (v := .int .u32 ((gword bs (p + 6)).1)) isAgg39 rfl hb11 rfl ?_
  refine Wl_v (r_eq rfl rfl) ?_
  refine Wl_nil ?_
  by_cases q9 : ((gword bs (p + 6)).1) = 0
  ·rw [decide_eq_true q9]
   refine W_cond_t rfl ?_
   refine W_seq (W_region ?_)
   refine Wl_v (r_build (pl := #[(0, 1), (1, 1), (2, 1), (3, 1)]) (pv := []) (cs := #[.int .i64 0, .int .i64 0, .int .u32 0, .bool false]) zeroValue41 underlying41 (fun w => by kernel_rfl) (by simp only [List.map_toArray, List.map_cons, List.map_nil] <;> rfl) (by kernel_rfl)) ?_
   refine Wmv (.int .i64 ((p : Nat) : Int)) ?_
   refine Wl_storea (off := 0) (vs := [.int .i64 0, .int .i64 0, .int .u32 0, .bool false]) (cs' := [.int .i64 0, .int .i64 0, .int .u32 0, .bool false]) sizeOf41 rfl rfl rfl (by simp only [List.mem_cons, List.not_mem_nil, or_false, forall_eq_or_imp, forall_eq]; exact ⟨rfl, rfl, rfl, rfl⟩) hb1 (by simp) rfl ?_
   intro w17 hU17 hzz17 hb1n
   replace hb1 := hb1n; clear hb1n
   have hzw17 := hU17.size
   replace HU := HU.t1 hU17 (by omega)
   refine Was (.int .i64 ((p : Nat) : Int)) ?_
   refine Was (.int .i64 7) ?_
   refine Wl_nil ?_
   refine W_ret ?_
   refine ret_end (v := .tuple #[.agg #[.int .i64 0, .int .i64 0, .int .u32 0, .bool false], .int .i64 ((p : Nat) : Int), .int .i64 7]) rfl (rm_ctt results41 rfl rfl rfl (cellAgg isAgg41 sizeOf41 rfl hb1)) ?_
   have HD := hdict_do q7
   have HG := gh_zero HM (by omega) (by omega) q6 (by rw [HD]; exact (Classical.not_not.1 q8)) ⟨q7, by rw [HD]; exact q9⟩
   exact ⟨_, rfl, (vtup3 (by first | (rw [HG]; rfl) | (rw [HG]; simp)) (vint (by rw [HG]; first | done | rfl | (dsimp only; omega))) (by simp [HG])), HU⟩
  have hgi := gword_in (bs := bs) (Classical.not_not.1 q8)
  rw [decide_eq_false q9]
  refine W_cond_f rfl ?_
  refine W_skip (W_seq (W_seq (W_region ?_)))
  refine Wmv (.int .u8 (bs.getD (p + 4) 0)) ?_
  refine Wl_v (r_rem rfl rfl (by omega) (tr (by omega))) ?_
  refine Wl_v (r_eq rfl rfl) ?_
  refine Wl_nil ?_
  by_cases q10 : ((bs.getD (p + 4) 0) % 2) = 1
  ·rw [decide_eq_true q10]
   refine W_cond_t rfl ?_
   refine W_seq (W_region ?_)
   refine Wmv (.slice a n c) ?_
   refine Wmv (.int .i64 (((gword bs (p + 6)).2.1 : Nat) : Int)) ?_
   refine Wl_call (r_call2 rfl call58 (v1 := .int .i64 ((p + 10 : Nat) : Int)) rfl (Eq.trans (b := .int .i64 (((gword bs (p + 6)).2.1 : Nat) : Int)) rfl (vint (by omega)))) (rget_spec _ hs.any hb (by omega) (by omega)) ?_
   rintro v w18 ⟨rfl, hU18⟩
   have hzw18 := hU18.size
   replace HU := HU.trans0 hU18
   replace hb1 := hb1.upd0 hU18
   replace hb11 := hb11.upd0 hU18
   have hgp := gvar_props bs (p + 10) (by omega)
   refine Wmv (.tuple #[.int .u64 ((gvar bs (p + 10)).1), .int .i64 (((gvar bs (p + 10)).2.1 : Nat) : Int), .int .i64 ((gvar bs (p + 10)).2.2)]) ?_
   refine Wl_v (r_ext (v := .int .u64 ((gvar bs (p + 10)).1)) rfl rfl) ?_
   refine Wl_v (r_ext (v := .int .i64 (((gvar bs (p + 10)).2.1 : Nat) : Int)) rfl rfl) ?_
   refine Wl_v (r_ext (v := .int .i64 ((gvar bs (p + 10)).2.2)) rfl rfl) ?_
   refine Was (.int .u64 ((gvar bs (p + 10)).1)) ?_
   refine Was (.int .i64 (((gvar bs (p + 10)).2.1 : Nat) : Int)) ?_
   refine Was (.int .i64 ((gvar bs (p + 10)).2.2)) ?_
   refine Wl_nil (W_seq (W_seq (W_region ?_)))
   refine Wmv (.int .i64 ((gvar bs (p + 10)).2.2)) ?_
   refine Wl_v (r_ne rfl rfl) ?_
   refine Wl_nil ?_
   by_cases q11 : ((gvar bs (p + 10)).2.2) ≠ 0
   ·rw [decide_eq_true q11]
    refine W_cond_t rfl ?_
    refine W_seq (W_region ?_)
    refine Wl_v (r_build (pl := #[(0, 1), (1, 1), (2, 1), (3, 1)]) (pv := []) (cs := #[.int .i64 0, .int .i64 0, .int .u32 0, .bool false]) zeroValue41 underlying41 (fun w => by kernel_rfl) (by simp only [List.map_toArray, List.map_cons, List.map_nil] <;> rfl) (by kernel_rfl)) ?_
    refine Wmv (.int .i64 ((p : Nat) : Int)) ?_
    refine Wmv (.int .i64 ((gvar bs (p + 10)).2.2)) ?_
    refine Wl_storea (off := 0) (vs := [.int .i64 0, .int .i64 0, .int .u32 0, .bool false]) (cs' := [.int .i64 0, .int .i64 0, .int .u32 0, .bool false]) sizeOf41 rfl rfl rfl (by simp only [List.mem_cons, List.not_mem_nil, or_false, forall_eq_or_imp, forall_eq]; exact ⟨rfl, rfl, rfl, rfl⟩) hb1 (by simp) rfl ?_
    intro w19 hU19 hzz19 hb1n
    replace hb1 := hb1n; clear hb1n
    have hzw19 := hU19.size
    replace HU := HU.t1 hU19 (by omega)
    refine Was (.int .i64 ((p : Nat) : Int)) ?_
    refine Was (.int .i64 ((gvar bs (p + 10)).2.2)) ?_
    refine Wl_nil ?_
    refine W_ret ?_
    refine ret_end (v := .tuple #[.agg #[.int .i64 0, .int .i64 0, .int .u32 0, .bool false], .int .i64 ((p : Nat) : Int), .int .i64 ((gvar bs (p + 10)).2.2)]) rfl (rm_ctt results41 rfl rfl rfl (cellAgg isAgg41 sizeOf41 rfl hb1)) ?_
    have HD := hdict_do q7
    have hgi := gword_in (bs := bs) (Classical.not_not.1 q8)
    have HQ : (hdict bs p).2.1 = p + 10 := by rw [HD]; omega
    have HV : (hdict bs p).1 = (gword bs (p + 6)).1 := by rw [HD]
    have HS := hsize_do (q := p + 10) q10
    have HG := gh_size HM (by omega) (by omega) q6 (by rw [HD]; exact (Classical.not_not.1 q8)) (fun h => by rw [HD] at h; exact q9 h.2) (by rw [HQ, HS]; exact q11)
    rw [HQ, HS] at HG
    exact ⟨_, rfl, (vtup3 (by first | (rw [HG]; rfl) | (rw [HG]; simp)) (vint (by rw [HG]; first | done | rfl | (dsimp only; omega))) (by simp [HG])), HU⟩
   rw [decide_eq_false q11]
   refine W_cond_f rfl ?_
   refine W_skip (W_region ?_)
   refine Wmv (.int .u64 ((gvar bs (p + 10)).1)) ?_
   refine Wl_v (r_cvt underlying93 underlying3 rfl (wi64 (by omega) (by omega))) ?_
   refine Wmv (.int .i64 (((gvar bs (p + 10)).2.1 : Nat) : Int)) ?_
   refine Wl_v (r_fld underlying41 rfl sizeOf3 rfl rfl) ?_
   refine Wl_store (v := .int .i64 ((gvar bs (p + 10)).1)) (cs' := [.int .i64 (hw (bs.getD (p + 5) 0)), .int .i64 ((gvar bs (p + 10)).1), .int .u32 ((gword bs (p + 6)).1), .bool (decide ((((bs.getD (p + 4) 0) / 2) % 2) = 1))]) sizeOf3 rfl rfl rfl rfl hb11 rfl rfl ?_
   intro w20 hU20 hzz20 hb11n
   replace hb11 := hb11n; clear hb11n
   have hzw20 := hU20.size
   replace HU := HU.t1 hU20 (by omega)
   replace hb1 := hb1.upd1 hU20 (by omega)
   refine Was (.int .i64 (((gvar bs (p + 10)).2.1 : Nat) : Int)) ?_
   refine Wl_nil (W_seq (W_region ?_))
   refine Wl_v (r_loada (b := B11) (off := 0) (cs := [.int .i64 (hw (bs.getD (p + 5) 0)), .int .i64 ((gvar bs (p + 10)).1), .int .u32 ((gword bs (p + 6)).1), .bool (decide ((((bs.getD (p + 4) 0) / 2) % 2) = 1))]) isAgg41 sizeOf41 rfl rfl (fun j hj => by rw [hb11.cell]; match j, hj with | 0, _ => rfl | 1, _ => rfl | 2, _ => rfl | 3, _ => rfl)) ?_
   refine Wmv (.int .i64 (((gvar bs (p + 10)).2.1 : Nat) : Int)) ?_
   refine Wl_storea (off := 0) (vs := [.int .i64 (hw (bs.getD (p + 5) 0)), .int .i64 ((gvar bs (p + 10)).1), .int .u32 ((gword bs (p + 6)).1), .bool (decide ((((bs.getD (p + 4) 0) / 2) % 2) = 1))]) (cs' := [.int .i64 (hw (bs.getD (p + 5) 0)), .int .i64 ((gvar bs (p + 10)).1), .int .u32 ((gword bs (p + 6)).1), .bool (decide ((((bs.getD (p + 4) 0) / 2) % 2) = 1))]) sizeOf41 rfl rfl rfl (by simp only [List.mem_cons, List.not_mem_nil, or_false, forall_eq_or_imp, forall_eq]; exact ⟨rfl, rfl, rfl, rfl⟩) hb1 (by simp) rfl ?_
   intro w21 hU21 hzz21 hb1n
   replace hb1 := hb1n; clear hb1n
   have hzw21 := hU21.size
   replace HU := HU.t1 hU21 (by omega)
   refine Was (.int .i64 (((gvar bs (p + 10)).2.1 : Nat) : Int)) ?_
   refine Was (.int .i64 0) ?_
   refine Wl_nil ?_
   refine W_ret ?_
   refine ret_end (v := .tuple #[.agg #[.int .i64 (hw (bs.getD (p + 5) 0)), .int .i64 ((gvar bs (p + 10)).1), .int .u32 ((gword bs (p + 6)).1), .bool (decide ((((bs.getD (p + 4) 0) / 2) % 2) = 1))], .int .i64 (((gvar bs (p + 10)).2.1 : Nat) : Int), .int .i64 0]) rfl (rm_ctt results41 rfl rfl rfl (cellAgg isAgg41 sizeOf41 rfl hb1)) ?_
   have HD := hdict_do q7
   have hgi := gword_in (bs := bs) (Classical.not_not.1 q8)
   have HQ : (hdict bs p).2.1 = p + 10 := by rw [HD]; omega
   have HV : (hdict bs p).1 = (gword bs (p + 6)).1 := by rw [HD]
   have HS := hsize_do (q := p + 10) q10
   have HG := gh_ok HM (by omega) (by omega) q6 (by rw [HD]; exact (Classical.not_not.1 q8)) (fun h => by rw [HD] at h; exact q9 h.2) (by rw [HQ, HS]; exact (Classical.not_not.1 q11))
   rw [HQ, HS, HV] at HG
   exact ⟨_, rfl, (vtup3 (by first | (rw [HG]; rfl) | (rw [HG]; simp)) (vint (by rw [HG]; first | done | rfl | (dsimp only; omega))) (by simp [HG])), HU⟩
  rw [decide_eq_false q10]
  refine W_cond_f rfl ?_
  refine W_skip (W_seq (W_region ?_))
  refine Wl_v (r_loada (b := B11) (off := 0) (cs := [.int .i64 (hw (bs.getD (p + 5) 0)), .int .i64 (-1), .int .u32 ((gword bs (p + 6)).1), .bool (decide ((((bs.getD (p + 4) 0) / 2) % 2) = 1))]) isAgg41 sizeOf41 rfl rfl (fun j hj => by rw [hb11.cell]; match j, hj with | 0, _ => rfl | 1, _ => rfl | 2, _ => rfl | 3, _ => rfl)) ?_
  refine Wmv (.int .i64 (((gword bs (p + 6)).2.1 : Nat) : Int)) ?_
  refine Wl_storea (off := 0) (vs := [.int .i64 (hw (bs.getD (p + 5) 0)), .int .i64 (-1), .int .u32 ((gword bs (p + 6)).1), .bool (decide ((((bs.getD (p + 4) 0) / 2) % 2) = 1))]) (cs' := [.int .i64 (hw (bs.getD (p + 5) 0)), .int .i64 (-1), .int .u32 ((gword bs (p + 6)).1), .bool (decide ((((bs.getD (p + 4) 0) / 2) % 2) = 1))]) sizeOf41 rfl rfl rfl (by simp only [List.mem_cons, List.not_mem_nil, or_false, forall_eq_or_imp, forall_eq]; exact ⟨rfl, rfl, rfl, rfl⟩) hb1 (by simp) rfl ?_
  intro w22 hU22 hzz22 hb1n
  replace hb1 := hb1n; clear hb1n
  have hzw22 := hU22.size
  replace HU := HU.t1 hU22 (by omega)
  refine Was (.int .i64 (((gword bs (p + 6)).2.1 : Nat) : Int)) ?_
  refine Was (.int .i64 0) ?_
  refine Wl_nil ?_
  refine W_ret ?_
  refine ret_end (v := .tuple #[.agg #[.int .i64 (hw (bs.getD (p + 5) 0)), .int .i64 (-1), .int .u32 ((gword bs (p + 6)).1), .bool (decide ((((bs.getD (p + 4) 0) / 2) % 2) = 1))], .int .i64 (((gword bs (p + 6)).2.1 : Nat) : Int), .int .i64 0]) rfl (rm_ctt results41 rfl rfl rfl (cellAgg isAgg41 sizeOf41 rfl hb1)) ?_
  have HD := hdict_do q7
  have hgi := gword_in (bs := bs) (Classical.not_not.1 q8)
  have HQ : (hdict bs p).2.1 = p + 10 := by rw [HD]; omega
  have HV : (hdict bs p).1 = (gword bs (p + 6)).1 := by rw [HD]
  have HS := hsize_skip (q := p + 10) q10
  have HG := gh_ok HM (by omega) (by omega) q6 (by rw [HD]; exact (Classical.not_not.1 q8)) (fun h => by rw [HD] at h; exact q9 h.2) (by rw [HQ, HS])
  rw [HQ, HS, HV] at HG
  exact ⟨_, rfl, (vtup3 (by first | (rw [HG]; rfl) | (rw [HG]; simp)) (vint (by rw [HG]; first | done | rfl | (dsimp only; omega))) (by simp [HG])), HU⟩
 rw [decide_eq_false q7]
 refine W_cond_f rfl ?_
 refine W_skip (W_seq (W_seq (W_region ?_)))
 refine Wmv (.int .u8 (bs.getD (p + 4) 0)) ?_
 refine Wl_v (r_rem rfl rfl (by omega) (tr (by omega))) ?_
 refine Wl_v (r_eq rfl rfl) ?_
 refine Wl_nil ?_
 by_cases q12 : ((bs.getD (p + 4) 0) % 2) = 1
 ·rw [decide_eq_true q12]
  refine W_cond_t rfl ?_
  refine W_seq (W_region ?_)
  refine Wmv (.slice a n c) ?_
  refine Wmv (.int .i64 (((p : Nat) : Int) + 6)) ?_
  refine Wl_call (r_call2 rfl call58 (v1 := .int .i64 ((p + 6 : Nat) : Int)) rfl (Eq.trans (b := .int .i64 (((p : Nat) : Int) + 6)) rfl (vint (by omega)))) (rget_spec _ hs.any hb (by omega) (by omega)) ?_
  rintro v w23 ⟨rfl, hU23⟩
  have hzw23 := hU23.size
  replace HU := HU.trans0 hU23
  replace hb1 := hb1.upd0 hU23
  replace hb11 := hb11.upd0 hU23
  have hgp := gvar_props bs (p + 6) (by omega)
  refine Wmv (.tuple #[.int .u64 ((gvar bs (p + 6)).1), .int .i64 (((gvar bs (p + 6)).2.1 : Nat) : Int), .int .i64 ((gvar bs (p + 6)).2.2)]) ?_
  refine Wl_v (r_ext (v := .int .u64 ((gvar bs (p + 6)).1)) rfl rfl) ?_
  refine Wl_v (r_ext (v := .int .i64 (((gvar bs (p + 6)).2.1 : Nat) : Int)) rfl rfl) ?_
  refine Wl_v (r_ext (v := .int .i64 ((gvar bs (p + 6)).2.2)) rfl rfl) ?_
  refine Was (.int .u64 ((gvar bs (p + 6)).1)) ?_
  refine Was (.int .i64 (((gvar bs (p + 6)).2.1 : Nat) : Int)) ?_
  refine Was (.int .i64 ((gvar bs (p + 6)).2.2)) ?_
  refine Wl_nil (W_seq (W_seq (W_region ?_)))
  refine Wmv (.int .i64 ((gvar bs (p + 6)).2.2)) ?_
  refine Wl_v (r_ne rfl rfl) ?_
  refine Wl_nil ?_
  by_cases q13 : ((gvar bs (p + 6)).2.2) ≠ 0
  ·rw [decide_eq_true q13]
   refine W_cond_t rfl ?_
   refine W_seq (W_region ?_)
   refine Wl_v (r_build (pl := #[(0, 1), (1, 1), (2, 1), (3, 1)]) (pv := []) (cs := #[.int .i64 0, .int .i64 0, .int .u32 0, .bool false]) zeroValue41 underlying41 (fun w => by kernel_rfl) (by simp only [List.map_toArray, List.map_cons, List.map_nil] <;> rfl) (by kernel_rfl)) ?_
   refine Wmv (.int .i64 ((p : Nat) : Int)) ?_
   refine Wmv (.int .i64 ((gvar bs (p + 6)).2.2)) ?_
   refine Wl_storea (off := 0) (vs := [.int .i64 0, .int .i64 0, .int .u32 0, .bool false]) (cs' := [.int .i64 0, .int .i64 0, .int .u32 0, .bool false]) sizeOf41 rfl rfl rfl (by simp only [List.mem_cons, List.not_mem_nil, or_false, forall_eq_or_imp, forall_eq]; exact ⟨rfl, rfl, rfl, rfl⟩) hb1 (by simp) rfl ?_
   intro w24 hU24 hzz24 hb1n
   replace hb1 := hb1n; clear hb1n
   have hzw24 := hU24.size
   replace HU := HU.t1 hU24 (by omega)
   refine Was (.int .i64 ((p : Nat) : Int)) ?_
   refine Was (.int .i64 ((gvar bs (p + 6)).2.2)) ?_
   refine Wl_nil ?_
   refine W_ret ?_
   refine ret_end (v := .tuple #[.agg #[.int .i64 0, .int .i64 0, .int .u32 0, .bool false], .int .i64 ((p : Nat) : Int), .int .i64 ((gvar bs (p + 6)).2.2)]) rfl (rm_ctt results41 rfl rfl rfl (cellAgg isAgg41 sizeOf41 rfl hb1)) ?_
   have HD := hdict_skip q7
   have HQ : (hdict bs p).2.1 = p + 6 := by rw [HD]
   have HV : (hdict bs p).1 = 0 := by rw [HD]
   have HS := hsize_do (q := p + 6) q12
   have HG := gh_size HM (by omega) (by omega) q6 (by rw [HD]) (fun h => q7 h.1) (by rw [HQ, HS]; exact q13)
   rw [HQ, HS] at HG
   exact ⟨_, rfl, (vtup3 (by first | (rw [HG]; rfl) | (rw [HG]; simp)) (vint (by rw [HG]; first | done | rfl | (dsimp only; omega))) (by simp [HG])), HU⟩
  rw [decide_eq_false q13]
  refine W_cond_f rfl ?_
  refine W_skip (W_region ?_)
  refine Wmv (.int .u64 ((gvar bs (p + 6)).1)) ?_
  refine Wl_v (r_cvt underlying93 underlying3 rfl (wi64 (by omega) (by omega))) ?_
  refine Wmv (.int .i64 (((gvar bs (p + 6)).2.1 : Nat) : Int)) ?_
  refine Wl_v (r_fld underlying41 rfl sizeOf3 rfl rfl) ?_
  refine Wl_store (v := .int .i64 ((gvar bs (p + 6)).1)) (cs' := [.int .i64 (hw (bs.getD (p + 5) 0)), .int .i64 ((gvar bs (p + 6)).1), .int .u32 0, .bool (decide ((((bs.getD (p + 4) 0) / 2) % 2) = 1))]) sizeOf3 rfl rfl rfl rfl hb11 rfl rfl ?_
  intro w25 hU25 hzz25 hb11n
  replace hb11 := hb11n; clear hb11n
  have hzw25 := hU25.size
  replace HU := HU.t1 hU25 (by omega)
  replace hb1 := hb1.upd1 hU25 (by omega)
  refine Was (.int .i64 (((gvar bs (p + 6)).2.1 : Nat) : Int)) ?_
  refine Wl_nil (W_seq (W_region ?_))
  refine Wl_v (r_loada (b := B11) (off := 0) (cs := [.int .i64 (hw (bs.getD (p + 5) 0)), .int .i64 ((gvar bs (p + 6)).1), .int .u32 0, .bool (decide ((((bs.getD (p + 4) 0) / 2) % 2) = 1))]) isAgg41 sizeOf41 rfl rfl (fun j hj => by rw [hb11.cell]; match j, hj with | 0, _ => rfl | 1, _ => rfl | 2, _ => rfl | 3, _ => rfl)) ?_
  refine Wmv (.int .i64 (((gvar bs (p + 6)).2.1 : Nat) : Int)) ?_
  refine Wl_storea (off := 0) (vs := [.int .i64 (hw (bs.getD (p + 5) 0)), .int .i64 ((gvar bs (p + 6)).1), .int .u32 0, .bool (decide ((((bs.getD (p + 4) 0) / 2) % 2) = 1))]) (cs' := [.int .i64 (hw (bs.getD (p + 5) 0)), .int .i64 ((gvar bs (p + 6)).1), .int .u32 0, .bool (decide ((((bs.getD (p + 4) 0) / 2) % 2) = 1))]) sizeOf41 rfl rfl rfl (by simp only [List.mem_cons, List.not_mem_nil, or_false, forall_eq_or_imp, forall_eq]; exact ⟨rfl, rfl, rfl, rfl⟩) hb1 (by simp) rfl ?_
  intro w26 hU26 hzz26 hb1n
  replace hb1 := hb1n; clear hb1n
  have hzw26 := hU26.size
  replace HU := HU.t1 hU26 (by omega)
  refine Was (.int .i64 (((gvar bs (p + 6)).2.1 : Nat) : Int)) ?_
  refine Was (.int .i64 0) ?_
  refine Wl_nil ?_
  refine W_ret ?_
  refine ret_end (v := .tuple #[.agg #[.int .i64 (hw (bs.getD (p + 5) 0)), .int .i64 ((gvar bs (p + 6)).1), .int .u32 0, .bool (decide ((((bs.getD (p + 4) 0) / 2) % 2) = 1))], .int .i64 (((gvar bs (p + 6)).2.1 : Nat) : Int), .int .i64 0]) rfl (rm_ctt results41 rfl rfl rfl (cellAgg isAgg41 sizeOf41 rfl hb1)) ?_
  have HD := hdict_skip q7
  have HQ : (hdict bs p).2.1 = p + 6 := by rw [HD]
  have HV : (hdict bs p).1 = 0 := by rw [HD]
  have HS := hsize_do (q := p + 6) q12
  have HG := gh_ok HM (by omega) (by omega) q6 (by rw [HD]) (fun h => q7 h.1) (by rw [HQ, HS]; exact (Classical.not_not.1 q13))
  rw [HQ, HS, HV] at HG
  exact ⟨_, rfl, (vtup3 (by first | (rw [HG]; rfl) | (rw [HG]; simp)) (vint (by rw [HG]; first | done | rfl | (dsimp only; omega))) (by simp [HG])), HU⟩
 rw [decide_eq_false q12]
 refine W_cond_f rfl ?_
 refine W_skip (W_seq (W_region ?_))
 refine Wl_v (r_loada (b := B11) (off := 0) (cs := [.int .i64 (hw (bs.getD (p + 5) 0)), .int .i64 (-1), .int .u32 0, .bool (decide ((((bs.getD (p + 4) 0) / 2) % 2) = 1))]) isAgg41 sizeOf41 rfl rfl (fun j hj => by rw [hb11.cell]; match j, hj with | 0, _ => rfl | 1, _ => rfl | 2, _ => rfl | 3, _ => rfl)) ?_
 refine Wmv (.int .i64 (((p : Nat) : Int) + 6)) ?_
 refine Wl_storea (off := 0) (vs := [.int .i64 (hw (bs.getD (p + 5) 0)), .int .i64 (-1), .int .u32 0, .bool (decide ((((bs.getD (p + 4) 0) / 2) % 2) = 1))]) (cs' := [.int .i64 (hw (bs.getD (p + 5) 0)), .int .i64 (-1), .int .u32 0, .bool (decide ((((bs.getD (p + 4) 0) / 2) % 2) = 1))]) sizeOf41 rfl rfl rfl (by simp only [List.mem_cons, List.not_mem_nil, or_false, forall_eq_or_imp, forall_eq]; exact ⟨rfl, rfl, rfl, rfl⟩) hb1 (by simp) rfl ?_
 intro w27 hU27 hzz27 hb1n
 replace hb1 := hb1n; clear hb1n
 have hzw27 := hU27.size
 replace HU := HU.t1 hU27 (by omega)
 refine Was (.int .i64 (((p : Nat) : Int) + 6)) ?_
 refine Was (.int .i64 0) ?_
 refine Wl_nil ?_
 refine W_ret ?_
 refine ret_end (v := .tuple #[.agg #[.int .i64 (hw (bs.getD (p + 5) 0)), .int .i64 (-1), .int .u32 0, .bool (decide ((((bs.getD (p + 4) 0) / 2) % 2) = 1))], .int .i64 (((p : Nat) : Int) + 6), .int .i64 0]) rfl (rm_ctt results41 rfl rfl rfl (cellAgg isAgg41 sizeOf41 rfl hb1)) ?_
 have HD := hdict_skip q7
 have HQ : (hdict bs p).2.1 = p + 6 := by rw [HD]
 have HV : (hdict bs p).1 = 0 := by rw [HD]
 have HS := hsize_skip (q := p + 6) q12
 have HG := gh_ok HM (by omega) (by omega) q6 (by rw [HD]) (fun h => q7 h.1) (by rw [HQ, HS])
 rw [HQ, HS, HV] at HG
 exact ⟨_, rfl, (vtup3 (by first | (rw [HG]; rfl) | (rw [HG]; simp)) (vint (by rw [HG]; first | done | rfl | (dsimp only; omega))) (by simp [HG])), HU⟩
end Go.Proofs.YtbjjhfoeckkacaaDoor
