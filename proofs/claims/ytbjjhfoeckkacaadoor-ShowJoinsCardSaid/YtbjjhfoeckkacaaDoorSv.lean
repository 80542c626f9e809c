/-
  Several texts of this project, put together.
-/
import Derived.Test.YtbjjhfoeckkacaaDoorSQ
set_option linter.unusedVariables false
set_option linter.unusedSimpArgs false
set_option linter.deprecated false
set_option maxRecDepth 100000
namespace Go.Proofs.YtbjjhfoeckkacaaDoor
open Go.Fw _root_.Go.Proofs.Tryd
theorem gpart_nn {bs : List Int} {p : Nat} (hp : p ≤ bs.length) : 0 ≤ (gpart bs p).2.2 ∧ (gpart bs p).2.2 ≤ 100 := by
 have hm : 0 ≤ (hmk bs p).2 ∧ (hmk bs p).2 ≤ 6 := by
  unfold hmk; split
  ·decide
  split
  ·decide
  split <;> decide
 have hgw : ∀ q, 0 ≤ (gword bs q).2.2 ∧ (gword bs q).2.2 ≤ 3 := fun q => by
  unfold gword; split
  ·exact ⟨(by decide : (0 : Int) ≤ 3), (by decide : (3 : Int) ≤ 3)⟩
  exact ⟨(by decide : (0 : Int) ≤ 0), (by decide : (0 : Int) ≤ 3)⟩
 have hy : ∀ q k, 0 ≤ (gbytes bs q k).2.2 ∧ (gbytes bs q k).2.2 ≤ 3 := fun q k => by
  rcases Int.lt_or_le k 0 with h | h
  ·rw [gbytes_neg h]; exact ⟨(by decide : (0 : Int) ≤ 2), (by decide : (2 : Int) ≤ 3)⟩
  rcases Int.lt_or_le ((bs.length : Int) - q) k with h1 | h1
  ·rw [gbytes_long h h1]; exact ⟨(by decide : (0 : Int) ≤ 3), (by decide : (3 : Int) ≤ 3)⟩
  rw [gbytes_ok h h1]; exact ⟨(by decide : (0 : Int) ≤ 0), (by decide : (0 : Int) ≤ 3)⟩
 have hgb : ∀ q, 0 ≤ (gb bs q).2.2 ∧ (gb bs q).2.2 ≤ 10 := fun q => by
  refine gb_ind (bs := bs) (Q := fun q => 0 ≤ (gb bs q).2.2 ∧ (gb bs q).2.2 ≤ 10) ?_ ?_ ?_ q
  ·intro q h; rw [gb_err h]; show 0 ≤ berr bs q ∧ berr bs q ≤ 10
   unfold berr; split
   ·decide
   split
   ·decide
   split <;> decide
  ·intro q h h2; rw [gb_last h h2]; exact ⟨(by decide : (0 : Int) ≤ 0), (by decide : (0 : Int) ≤ 10)⟩
  intro q h h2 ih; rw [gb_more h h2]; exact ih
 have hh : 0 ≤ (ghead bs p).2.2 ∧ (ghead bs p).2.2 ≤ 100 := by
  have k3 : (0 : Int) ≤ 3 ∧ (3 : Int) ≤ 100 := by decide
  have k6 : (0 : Int) ≤ 6 ∧ (6 : Int) ≤ 100 := by decide
  have k7 : (0 : Int) ≤ 7 ∧ (7 : Int) ≤ 100 := by decide
  by_cases c1 : (hmk bs p).2 = 0
  ·by_cases c2 : (hmk bs p).1 = 1
   ·have HM : Hm bs p := ⟨c1, c2⟩
    by_cases c5 : bs.length < p + 5
    ·rw [gh_5 HM c5]; exact k3
    by_cases c7 : 7 < bs.getD (p + 4) 0
    ·rw [gh_bits HM c5 c7]; exact k7
    by_cases c6 : bs.length < p + 6
    ·rw [gh_6 HM c5 c7 c6]; exact k3
    by_cases cw : hw (bs.getD (p + 5) 0) = 0
    ·rw [gh_win HM c5 c7 c6 cw]; exact k7
    have hd : 0 ≤ (hdict bs p).2.2 ∧ (hdict bs p).2.2 ≤ 3 := by
     unfold hdict; split
     ·exact hgw _
     exact ⟨(by decide : (0 : Int) ≤ 0), (by decide : (0 : Int) ≤ 3)⟩
    by_cases cd : (hdict bs p).2.2 = 0
    ·by_cases cz : bs.getD (p + 4) 0 / 4 = 1 ∧ (hdict bs p).1 = 0
     ·rw [gh_zero HM c7 c6 cw cd cz]; exact k7
     have hq := hdict_le c6 cd
     have hs : 0 ≤ (hsize bs p (hdict bs p).2.1).2.2 ∧ (hsize bs p (hdict bs p).2.1).2.2 ≤ 18 := by
      unfold hsize; split
      ·have := gvar_props bs (hdict bs p).2.1 hq.2; omega
      exact ⟨(by decide : (0 : Int) ≤ 0), (by decide : (0 : Int) ≤ 18)⟩
     by_cases cs : (hsize bs p (hdict bs p).2.1).2.2 = 0
     ·rw [gh_ok HM c7 c6 cw cd cz cs]; exact ⟨(by decide : (0 : Int) ≤ 0), (by decide : (0 : Int) ≤ 100)⟩
     rw [gh_size HM c7 c6 cw cd cz cs]; show 0 ≤ (hsize bs p (hdict bs p).2.1).2.2 ∧ (hsize bs p (hdict bs p).2.1).2.2 ≤ 100; omega
    rw [gh_dict HM c7 c6 cw cd]; show 0 ≤ (hdict bs p).2.2 ∧ (hdict bs p).2.2 ≤ 100; omega
   rw [gh_kind c1 c2]; exact k6
  rw [gh_mk c1]; show 0 ≤ (hmk bs p).2 ∧ (hmk bs p).2 ≤ 100; omega
 by_cases c1 : (hmk bs p).2 = 0
 ·by_cases c2 : (hmk bs p).1 = 1
  ·by_cases c3 : (ghead bs p).2.2 = 0
   ·by_cases c4 : (gb bs (ghead bs p).2.1).2.2 = 0
    ·by_cases cs : (ghead bs p).1.2.2.2 = true
     ·by_cases c6 : (gword bs (gb bs (ghead bs p).2.1).2.1).2.2 = 0
      ·rw [gp_sum c1 c2 c3 c4 cs c6]; exact ⟨(by decide : (0 : Int) ≤ 0), (by decide : (0 : Int) ≤ 100)⟩
      rw [gp_word c1 c2 c3 c4 cs c6]; have := hgw (gb bs (ghead bs p).2.1).2.1; show 0 ≤ (gword bs (gb bs (ghead bs p).2.1).2.1).2.2 ∧ (gword bs (gb bs (ghead bs p).2.1).2.1).2.2 ≤ 100; omega
     rw [gp_frame c1 c2 c3 c4 cs]; exact ⟨(by decide : (0 : Int) ≤ 0), (by decide : (0 : Int) ≤ 100)⟩
    rw [gp_blk c1 c2 c3 c4]; have := hgb (ghead bs p).2.1; show 0 ≤ (gb bs (ghead bs p).2.1).2.2 ∧ (gb bs (ghead bs p).2.1).2.2 ≤ 100; omega
   rw [gp_head c1 c2 c3]; exact hh
  by_cases c3 : (gskip bs p).2.2 = 0
  ·rw [gp_skip c1 c2 c3]; exact ⟨(by decide : (0 : Int) ≤ 0), (by decide : (0 : Int) ≤ 100)⟩
  rw [gp_skerr c1 c2 c3]
  show 0 ≤ (gskip bs p).2.2 ∧ (gskip bs p).2.2 ≤ 100
  by_cases w1 : (gword bs (p + 4)).2.2 = 0
  ·by_cases w2 : (gbytes bs (p + 8) (gword bs (p + 4)).1).2.2 = 0
   ·rw [gs_ok c1 c2 w1 w2]; have := hy (p + 8) (gword bs (p + 4)).1; omega
   rw [gs_err c1 c2 w1 w2]; have := hy (p + 8) (gword bs (p + 4)).1; show 0 ≤ (gbytes bs (p + 8) (gword bs (p + 4)).1).2.2 ∧ (gbytes bs (p + 8) (gword bs (p + 4)).1).2.2 ≤ 100; omega
  rw [gs_word c1 c2 w1]; have := hgw (p + 4); show 0 ≤ (gword bs (p + 4)).2.2 ∧ (gword bs (p + 4)).2.2 ≤ 100; omega
 rw [gp_mk c1]; show 0 ≤ (hmk bs p).2 ∧ (hmk bs p).2 ≤ 100; omega
theorem ga_nn (bs : List Int) : 0 ≤ (ga bs 0).2 ∧ (ga bs 0).2 ≤ 100 := by
 refine ga_ind (bs := bs) (Q := fun p => 0 ≤ (ga bs p).2 ∧ (ga bs p).2 ≤ 100) ?_ ?_ ?_ 0
 ·intro p h; rw [ga_end h]; exact ⟨(by decide : (0 : Int) ≤ 0), (by decide : (0 : Int) ≤ 100)⟩
 ·intro p h h2; rw [ga_err h h2]; exact gpart_nn (Nat.le_of_lt h)
 intro p h h2 ih; rw [ga_more h h2]; exact ih
theorem ga_at {bs : List Int} (p : Nat) (x : PT) (hx : x ∈ (ga bs p).1) : (p : Int) ≤ x.at_ ∧ x.at_ ≤ bs.length := by
 revert hx
 refine ga_ind (bs := bs) (Q := fun p => x ∈ (ga bs p).1 → (p : Int) ≤ x.at_ ∧ x.at_ ≤ bs.length) ?_ ?_ ?_ p
 ·intro p h1 hx; rw [ga_end h1] at hx; cases hx
 ·intro p h1 h2 hx; rw [ga_err h1 h2] at hx; cases hx
 intro p h1 h2 ih hx
 have hl := gpart_le h2
 rw [ga_more h1 h2] at hx
 rcases List.mem_cons.1 hx with e | e
 ·rw [e]; omega
 have := ih e; omega
theorem gb_at {bs : List Int} (p : Nat) (x : BK) (hx : x ∈ (gb bs p).1) : 0 ≤ x.1 ∧ x.1 ≤ bs.length := by
 revert hx
 refine gb_ind (bs := bs) (Q := fun p => x ∈ (gb bs p).1 → 0 ≤ x.1 ∧ x.1 ≤ bs.length) ?_ ?_ ?_ p
 ·intro p h hx; rw [gb_err h] at hx; cases hx
 ·intro p h h2 hx
  have := bnx_le h
  rw [gb_last h h2] at hx
  rw [List.mem_singleton.1 hx]; show 0 ≤ ((p : Nat) : Int) ∧ ((p : Nat) : Int) ≤ bs.length; omega
 intro p h h2 ih hx
 have := bnx_le h
 rw [gb_more h h2] at hx
 rcases List.mem_cons.1 hx with e | e
 ·rw [e]; show 0 ≤ ((p : Nat) : Int) ∧ ((p : Nat) : Int) ≤ bs.length; omega
 exact ih e
theorem gpart_bat {bs : List Int} {p : Nat} (h : (gpart bs p).2.2 = 0) (x : BK) (hx : x ∈ (gpart bs p).1.bl) : 0 ≤ x.1 ∧ x.1 ≤ bs.length := by
 obtain ⟨c1, c | c⟩ := gpart_inv h
 ·obtain ⟨c2, c3, c4, c5⟩ := c
  by_cases cs : (ghead bs p).1.2.2.2 = true
  ·rw [gp_sum c1 c2 c3 c4 cs (c5 cs)] at hx; exact gb_at _ x hx
  rw [gp_frame c1 c2 c3 c4 cs] at hx; exact gb_at _ x hx
 obtain ⟨c2, c3⟩ := c
 rw [gp_skip c1 c2 c3] at hx; cases hx
theorem ga_bat {bs : List Int} (p : Nat) (x : PT) (hx : x ∈ (ga bs p).1) : ∀ y ∈ x.bl, 0 ≤ y.1 ∧ y.1 ≤ bs.length := by
 revert hx
 refine ga_ind (bs := bs) (Q := fun p => x ∈ (ga bs p).1 → ∀ y ∈ x.bl, 0 ≤ y.1 ∧ y.1 ≤ bs.length) ?_ ?_ ?_ p
 ·intro p h1 hx; rw [ga_end h1] at hx; cases hx
 ·intro p h1 h2 hx; rw [ga_err h1 h2] at hx; cases hx
 intro p h1 h2 ih hx
 rw [ga_more h1 h2] at hx
 rcases List.mem_cons.1 hx with e | e
 ·rw [e]; exact gpart_bat h2
 exact ih e
theorem ga_atd {bs : List Int} (hn : bs.length ≤ 100000) (k : Nat) : 0 ≤ ((ga bs 0).1.getD k pt0).at_ ∧ ((ga bs 0).1.getD k pt0).at_ ≤ 100000 := by
 rw [List.getD_eq_getElem?_getD]
 cases h : (ga bs 0).1[k]? with
 | none => exact ⟨by decide, by decide⟩
 | some x => have := ga_at 0 x (List.mem_of_getElem? h); show 0 ≤ x.at_ ∧ x.at_ ≤ 100000; omega
theorem ga_batd {bs : List Int} (hn : bs.length ≤ 100000) (k q : Nat) : 0 ≤ (((ga bs 0).1.getD k pt0).bl.getD q (0, 0, 0, 0, false)).1 ∧ (((ga bs 0).1.getD k pt0).bl.getD q (0, 0, 0, 0, false)).1 ≤ 100000 := by
 have h0 : ∀ y ∈ ((ga bs 0).1.getD k pt0).bl, 0 ≤ y.1 ∧ y.1 ≤ bs.length := by
  rw [List.getD_eq_getElem?_getD]
  cases h : (ga bs 0).1[k]? with
  | none => intro y hy; exact (List.not_mem_nil hy).elim
  | some x => exact ga_bat 0 x (List.mem_of_getElem? h)
 rw [List.getD_eq_getElem?_getD]
 cases h : ((ga bs 0).1.getD k pt0).bl[q]? with
 | none => exact ⟨by decide, by decide⟩
 | some x => have := h0 x (List.mem_of_getElem? h); show 0 ≤ x.1 ∧ x.1 ≤ 100000; omega
theorem bsh_gd {l : List BK} {d : Int} {q : Nat} (h : q < l.length) : (l.map (bsh d)).getD q (0, 0, 0, 0, false) = bsh d (l.getD q (0, 0, 0, 0, false)) := by
 rw [List.getD_eq_getElem?_getD, List.getD_eq_getElem?_getD, List.getElem?_map, List.getElem?_eq_getElem h]; rfl
theorem join_l {A B : List PT} {k : Nat} (h : k < A.length) : (A ++ B).getD k pt0 = A.getD k pt0 := by
 rw [List.getD_eq_getElem?_getD, List.getD_eq_getElem?_getD, List.getElem?_append_left h]
theorem join_r {A B : List PT} {d : Int} {k j : Nat} (h : ¬ k < A.length) (hj : j = k - A.length) (hb : j < B.length) : (A ++ B.map (psh d)).getD k pt0 = psh d (B.getD j pt0) := by
 subst hj
 rw [List.getD_eq_getElem?_getD, List.getD_eq_getElem?_getD, List.getElem?_append_right (by omega), List.getElem?_map, List.getElem?_eq_getElem hb]; rfl
set_option maxHeartbeats 4000000 in
theorem showjoins {a a9 : Option Addr} {n c n9 c9 : Nat} {bs cs : List Int} {g0 : Nat} (w : World) (ht : Tab w g0) (hs : Sl w (fun g => g < w.heap.size) 1 (.slice a n c) n (ints .u8 bs)) (hb : Byt bs) (hm9 : n ≤ 140737488351232) (hs2 : Sl w (fun g => g < w.heap.size) 1 (.slice a9 n9 c9) n9 (ints .u8 cs)) (hb2 : Byt cs) (hm8 : n9 ≤ 140737488351232) :
  Calls Tryd.prog 6 #[.slice a n c, .slice a9 n9 c9] w (Ret fun v w' => v = .bool true ∧ Upd No w w') := by
 have HU := Upd.rno w
 have hl_hs := ilen hs
 have hc_hs := hs.cap.1
 have hl_hs2 := ilen hs2
 have hc_hs2 := hs2.cap.1
 have htl := ht.1
 have hea := ga_nn bs
 have heb := ga_nn cs
 refine calls_of_W func6 rfl ntmps6 (by simp) ?_
 refine W_seq (W_region ?_)
 refine Was (.bool false) ?_
 refine Wl_nil (W_seq (W_seq (W_region ?_)))
 refine Wmv (.slice a n c) ?_
 refine Wl_v (r_len underlying22 rfl) ?_
 refine Wl_v (r_gt rfl rfl) ?_
 refine Wmv (.bool (decide (400 < ((n : Nat) : Int)))) ?_
 by_cases q1 : 400 < ((n : Nat) : Int)
 ·rw [decide_eq_true q1]
  refine Wl_guard_f rfl (Wl_guard_f rfl (Wl_guard_f rfl ?_))
  refine Wl_v (r_pick_t (v := .bool true) rfl rfl) ?_
  refine Wl_nil ?_
  refine W_cond_t rfl ?_
  refine W_seq (W_region ?_)
  refine Wl_call (r_call0 rfl call10 ) (works44 _ ht) ?_
  rintro v w1 ⟨rfl, hU1⟩
  have hzw1 := hU1.size
  replace HU := HU.trans0 hU1
  refine Was (.bool true) ?_
  refine Wl_nil ?_
  refine W_ret ?_
  refine ret_end (v := .bool true) rfl (res1 results6 rfl) ?_
  exact ⟨_, rfl, rfl, HU⟩
 rw [decide_eq_false q1]
 refine Wl_guard_t rfl ?_
 refine Wmv (.slice a9 n9 c9) ?_
 refine Wl_guard_t rfl ?_
 refine Wl_v (r_len underlying22 rfl) ?_
 refine Wl_guard_t rfl ?_
 refine Wl_v (r_gt rfl rfl) ?_
 refine Wl_v (r_pick_f (v := .bool (decide (400 < ((n9 : Nat) : Int)))) rfl rfl) ?_
 refine Wl_nil ?_
 by_cases q2 : 400 < ((n9 : Nat) : Int)
 ·rw [decide_eq_true q2]
  refine W_cond_t rfl ?_
  refine W_seq (W_region ?_)
  refine Wl_call (r_call0 rfl call10 ) (works44 _ ht) ?_
  rintro v w2 ⟨rfl, hU2⟩
  have hzw2 := hU2.size
  replace HU := HU.trans0 hU2
  refine Was (.bool true) ?_
  refine Wl_nil ?_
  refine W_ret ?_
  refine ret_end (v := .bool true) rfl (res1 results6 rfl) ?_
  exact ⟨_, rfl, rfl, HU⟩
 rw [decide_eq_false q2]
 refine W_cond_f rfl ?_
 refine W_skip (W_seq (W_region ?_))
 refine Wmv (.slice a n c) ?_
 by_cases q3 : (ga bs 0).2 = 0
 ·refine Wl_call (r_call1 rfl call19 rfl) (read_ok _ hs.any hb (by omega) q3) ?_
  rintro v w3 ⟨a3, m3, c3, rfl, hT3, hU3⟩
  have hzw3 := hU3.size
  replace ht := ht.upd0 hU3
  replace hs := hs.upd0 hU3
  replace hs2 := hs2.upd0 hU3
  replace HU := HU.trans0 hU3
  obtain ⟨vs4, hv4, hS4, hP4⟩ := hT3
  have hl_hS4 := rlen encP_len (by decide) hS4
  have hc_hS4 := hS4.cap.1
  have hlm4 : (ga bs 0).1.length = m3 := by rw [← hv4, List.length_map]; exact hl_hS4
  have hgn0 := ga_len hb (by omega)
  refine Wmv (.tuple #[.slice a3 m3 c3, .int .i64 0]) ?_
  refine Wl_v (r_ext (v := .slice a3 m3 c3) rfl rfl) ?_
  refine Wl_v (r_ext (v := .int .i64 0) rfl rfl) ?_
  refine Was (.slice a3 m3 c3) ?_
  refine Was (.int .i64 0) ?_
  refine Wl_nil (W_seq (W_region ?_))
  refine Wmv (.slice a9 n9 c9) ?_
  by_cases q4 : (ga cs 0).2 = 0
  ·refine Wl_call (r_call1 rfl call19 rfl) (read_ok _ hs2.any hb2 (by omega) q4) ?_
   rintro v w5 ⟨a5, m5, c5, rfl, hT5, hU5⟩
   have hzw5 := hU5.size
   replace ht := ht.upd0 hU5
   replace hs := hs.upd0 hU5
   replace hs2 := hs2.upd0 hU5
   replace HU := HU.trans0 hU5
   replace hS4 := hS4.upd0 hU5
   replace hP4 := hP4.upd0 hU5
   obtain ⟨vs6, hv6, hS6, hP6⟩ := hT5
   have hl_hS6 := rlen encP_len (by decide) hS6
   have hc_hS6 := hS6.cap.1
   have hlm6 : (ga cs 0).1.length = m5 := by rw [← hv6, List.length_map]; exact hl_hS6
   have hgn1 := ga_len hb2 (by omega)
   refine Wmv (.tuple #[.slice a5 m5 c5, .int .i64 0]) ?_
   refine Wl_v (r_ext (v := .slice a5 m5 c5) rfl rfl) ?_
   refine Wl_v (r_ext (v := .int .i64 0) rfl rfl) ?_
   refine Was (.slice a5 m5 c5) ?_
   refine Was (.int .i64 0) ?_
   refine Wl_nil (W_seq (W_seq (W_region ?_)))
   refine Wmv (.int .i64 0) ?_
   refine Wl_call (r_call1 rfl call13 rfl) (num44 _ ) ?_
   rintro v w7 ⟨rfl, hU7⟩
   have hzw7 := hU7.size
   replace ht := ht.upd0 hU7
   replace hs := hs.upd0 hU7
   replace hs2 := hs2.upd0 hU7
   replace HU := HU.trans0 hU7
   replace hS4 := hS4.upd0 hU7
   replace hP4 := hP4.upd0 hU7
   replace hS6 := hS6.upd0 hU7
   replace hP6 := hP6.upd0 hU7
   refine Wmv (.int .i64 0) ?_
   refine Wl_call (r_call1 rfl call13 rfl) (num44 _ ) ?_
   rintro v w8 ⟨rfl, hU8⟩
   have hzw8 := hU8.size
   replace ht := ht.upd0 hU8
   replace hs := hs.upd0 hU8
   replace hs2 := hs2.upd0 hU8
   replace HU := HU.trans0 hU8
   replace hS4 := hS4.upd0 hU8
   replace hP4 := hP4.upd0 hU8
   replace hS6 := hS6.upd0 hU8
   replace hP6 := hP6.upd0 hU8
   refine Wl_v (r_add rfl rfl (show _ = (0 : Int) from by decide)) ?_
   refine Wl_v (v := .bool false) (r_ne (a := 0) (b := 0) rfl rfl) ?_
   refine Wl_nil ?_
   refine W_cond_f rfl ?_
   refine W_skip (W_seq (W_region ?_))
   refine Wl_lit0 underlying22 sizeOf5 ?_
   intro B9 w9 hB9 hU9 hzz9 hs9
   have hzw9 := hU9.size
   replace ht := ht.upd0 hU9
   replace hs := hs.upd0 hU9
   replace hs2 := hs2.upd0 hU9
   replace HU := HU.trans0 hU9
   replace hS4 := hS4.upd0 hU9
   replace hP4 := hP4.upd0 hU9
   replace hS6 := hS6.upd0 hU9
   replace hP6 := hP6.upd0 hU9
   refine Wmv (.slice a n c) ?_
   refine Wl_appendi (xs := []) (ys := bs) (zs := bs) (k' := .u8) (tot := n) (by first | rfl | exact (rows_app _ _).symm | simp) underlying22 (ti := Tryd.t5) (z := .int .u8 0) (sz := 1) (by' := 1) rfl rfl rfl rfl rfl (by decide) rfl hs9 rfl hs  (by omega) (by simp only [maxLen]; omega) (by omega) ?_
   intro a10 c10 w10 hU10 hzz10 hO10
   clear hs9
   have hzw10 := hU10.size
   replace ht := ht.upd hU10 (by intro x hx; have hx2 : x = B9 := hx; omega)
   replace hs2 := hs2.upd hU10 (by intro x h1 h2; have h3 : x < w.heap.size := h1; have h4 : x = B9 := h2; omega)
   replace HU := HU.trans hU10 (by intro x hx; have hx2 : x = B9 := hx; show (False) ∨ w.heap.size ≤ x; omega)
   replace hS4 := hS4.upd hU10 (by intro x h1 h2; have h3 : (w.heap.size ≤ x ∧ x < w3.heap.size) := h1; have h4 : x = B9 := h2; omega)
   replace hP4 := hP4.upd hU10 (by intro x hx; have hx2 : x = B9 := hx; omega)
   replace hS6 := hS6.upd hU10 (by intro x h1 h2; have h3 : (w3.heap.size ≤ x ∧ x < w5.heap.size) := h1; have h4 : x = B9 := h2; omega)
   replace hP6 := hP6.upd hU10 (by intro x hx; have hx2 : x = B9 := hx; omega)
   replace hO10 := hO10.tight
   have hl_hO10 := ilen hO10.sl
   have hc_hO10 := hO10.sl.cap.1
   refine Wmv (.slice a9 n9 c9) ?_
   refine Wl_appendi (xs := bs) (ys := cs) (zs := bs ++ cs) (k' := .u8) (tot := n + n9) (by first | rfl | exact (rows_app _ _).symm | simp) underlying22 (ti := Tryd.t5) (z := .int .u8 0) (sz := 1) (by' := 1) rfl rfl rfl rfl rfl (by decide) rfl hO10 rfl hs2  (by omega) (by simp only [maxLen]; omega) (by omega) ?_
   intro a11 c11 w11 hU11 hzz11 hO11
   clear hO10
   have hzw11 := hU11.size
   replace ht := ht.upd hU11 (by intro x hx; have hx2 : ((((x = B9) ∨ x = w9.heap.size)) ∧ x < w10.heap.size) := hx; omega)
   replace HU := HU.trans hU11 (by intro x hx; have hx2 : ((((x = B9) ∨ x = w9.heap.size)) ∧ x < w10.heap.size) := hx; show (False) ∨ w.heap.size ≤ x; omega)
   replace hS4 := hS4.upd hU11 (by intro x h1 h2; have h3 : (w.heap.size ≤ x ∧ x < w3.heap.size) := h1; have h4 : ((((x = B9) ∨ x = w9.heap.size)) ∧ x < w10.heap.size) := h2; omega)
   replace hP4 := hP4.upd hU11 (by intro x hx; have hx2 : ((((x = B9) ∨ x = w9.heap.size)) ∧ x < w10.heap.size) := hx; omega)
   replace hS6 := hS6.upd hU11 (by intro x h1 h2; have h3 : (w3.heap.size ≤ x ∧ x < w5.heap.size) := h1; have h4 : ((((x = B9) ∨ x = w9.heap.size)) ∧ x < w10.heap.size) := h2; omega)
   replace hP6 := hP6.upd hU11 (by intro x hx; have hx2 : ((((x = B9) ∨ x = w9.heap.size)) ∧ x < w10.heap.size) := hx; omega)
   replace hO11 := hO11.tight
   have hl_hO11 := ilen hO11.sl
   have hc_hO11 := hO11.sl.cap.1
   have hJ := ga_join hb hb2 q3 q4
   have hlj : (ga (bs ++ cs) 0).1.length = (ga bs 0).1.length + (ga cs 0).1.length := by rw [hJ, List.length_append, List.length_map]
   refine Wl_call (r_call1 rfl call19 rfl) (read_ok _ hO11.sl.any (byt_app hb hb2) (by omega) (by rw [hJ])) ?_
   rintro v w12 ⟨a12, m12, c12, rfl, hT12, hU12⟩
   have hzw12 := hU12.size
   replace ht := ht.upd0 hU12
   replace HU := HU.trans0 hU12
   replace hS4 := hS4.upd0 hU12
   replace hP4 := hP4.upd0 hU12
   replace hS6 := hS6.upd0 hU12
   replace hP6 := hP6.upd0 hU12
   obtain ⟨vs13, hv13, hS13, hP13⟩ := hT12
   have hl_hS13 := rlen encP_len (by decide) hS13
   have hc_hS13 := hS13.cap.1
   have hlm13 : (ga (bs ++ cs) 0).1.length = m12 := by rw [← hv13, List.length_map]; exact hl_hS13
   refine Wmv (.tuple #[.slice a12 m12 c12, .int .i64 0]) ?_
   refine Wl_v (r_ext (v := .slice a12 m12 c12) rfl rfl) ?_
   refine Wl_v (r_ext (v := .int .i64 0) rfl rfl) ?_
   refine Was (.slice a12 m12 c12) ?_
   refine Was (.int .i64 0) ?_
   refine Wl_nil (W_seq (W_seq (W_region ?_)))
   refine Wmv (.int .i64 0) ?_
   refine Wl_call (r_call1 rfl call13 rfl) (num44 _ ) ?_
   rintro v w14 ⟨rfl, hU14⟩
   have hzw14 := hU14.size
   replace ht := ht.upd0 hU14
   replace HU := HU.trans0 hU14
   replace hS4 := hS4.upd0 hU14
   replace hP4 := hP4.upd0 hU14
   replace hS6 := hS6.upd0 hU14
   replace hP6 := hP6.upd0 hU14
   replace hS13 := hS13.upd0 hU14
   replace hP13 := hP13.upd0 hU14
   refine Wl_v (v := .bool false) (r_ne (a := 0) (b := 0) rfl rfl) ?_
   refine Wmv (.bool false) ?_
   refine Wl_guard_t rfl ?_
   refine Wmv (.slice a12 m12 c12) ?_
   refine Wl_guard_t rfl ?_
   refine Wl_v (r_len underlying57 rfl) ?_
   refine Wl_guard_t rfl ?_
   refine Wmv (.slice a3 m3 c3) ?_
   refine Wl_guard_t rfl ?_
   refine Wl_v (r_len underlying57 rfl) ?_
   refine Wl_guard_t rfl ?_
   refine Wmv (.slice a5 m5 c5) ?_
   refine Wl_guard_t rfl ?_
   refine Wl_v (r_len underlying57 rfl) ?_
   refine Wl_guard_t rfl ?_
   refine Wl_v (r_add rfl rfl (wi64 (by omega) (by omega))) ?_
   refine Wl_guard_t rfl ?_
   refine Wl_v (r_ne rfl rfl) ?_
   refine Wl_v (r_pick_f (v := .bool (decide (((m12 : Nat) : Int) ≠ (((m3 : Nat) : Int) + ((m5 : Nat) : Int))))) rfl rfl) ?_
   refine Wl_nil ?_
   have q5 : ¬ (((m12 : Nat) : Int) ≠ (((m3 : Nat) : Int) + ((m5 : Nat) : Int))) := (by omega)
   rw [decide_eq_false q5]
   refine W_cond_f rfl ?_
   refine W_skip (W_seq (W_seq (W_region ?_)))
   refine Was (.int .i64 0) ?_
   refine Wl_nil (W_block ?_)
   refine W_loop (fun mu ρ ds w' => ∃ (k : Nat), m12 - k = mu ∧ ds = [] ∧ Liv ρ [(0, .slice a n c), (5, .slice a3 m3 c3), (7, .slice a5 m5 c5), (9, .slice a12 m12 c12), (11, .int .i64 ((k : Nat) : Int))] ∧ k ≤ m12 ∧ Upd No w14 w') _ ⟨0, rfl, rfl, ⟨rfl, rfl, rfl, rfl, (by first | rfl | exact vint (by omega) | exact vint (by simp)), trivial⟩, (by omega), Upd.refl _ _⟩ ?_
   rintro m15 ρ15 ds15 w15 ⟨k, rfl, rfl, hl15, hk, hU15⟩
   obtain ⟨ρ15x, rfl⟩ : ∃ ρx, ρ15 = upds ρx [(0, .slice a n c), (5, .slice a3 m3 c3), (7, .slice a5 m5 c5), (9, .slice a12 m12 c12), (11, .int .i64 ((k : Nat) : Int))] := ⟨_, upds_self hl15⟩
   clear hl15
   have hzw15 := hU15.size
   replace ht := ht.upd0 hU15
   replace HU := HU.trans0 hU15
   replace hS4 := hS4.upd0 hU15
   replace hP4 := hP4.upd0 hU15
   replace hS6 := hS6.upd0 hU15
   replace hP6 := hP6.upd0 hU15
   replace hS13 := hS13.upd0 hU15
   replace hP13 := hP13.upd0 hU15
   have hoa := ga_atd (bs := bs) (by omega) k
   have hob := ga_atd (bs := cs) (by omega) (((k : Nat) : Int) - ((m3 : Nat) : Int)).toNat
   have HL15 := hU15
   refine W_seq (W_seq (W_region ?_))
   refine Wmv (.int .i64 ((k : Nat) : Int)) ?_
   refine Wmv (.slice a12 m12 c12) ?_
   refine Wl_v (r_len underlying57 rfl) ?_
   refine Wl_v (r_lt rfl rfl) ?_
   refine Wl_nil ?_
   by_cases q6 : ((k : Nat) : Int) < ((m12 : Nat) : Int)
   ·rw [decide_eq_true q6]
    refine W_cond_t rfl ?_
    refine W_skip (W_seq (W_block (W_seq (W_region ?_))))
    refine Wl_v (r_build (pl := #[(0, 1), (1, 1), (2, 1), (3, 1), (4, 4), (8, 1), (9, 1)]) (pv := []) (cs := #[.int .i64 0, .int .i64 0, .bool false, .int .i64 0, .int .i64 0, .int .i64 0, .int .u32 0, .bool false, .slice none 0 0, .int .u32 0]) zeroValue45 underlying45 (fun w => by kernel_rfl) (by simp only [List.map_toArray, List.map_cons, List.map_nil] <;> rfl) (by kernel_rfl)) ?_
    refine Wl_alloc (cs := [.int .i64 0, .int .i64 0, .bool false, .int .i64 0, .int .i64 0, .int .i64 0, .int .u32 0, .bool false, .slice none 0 0, .int .u32 0]) zeroValue45 rfl ?_
    intro B16 w16 hB16 hU16 hzz16 hb16
    have hzw16 := hU16.size
    replace hS4 := hS4.upd0 hU16
    replace hP4 := hP4.upd0 hU16
    replace hS6 := hS6.upd0 hU16
    replace hP6 := hP6.upd0 hU16
    replace hS13 := hS13.upd0 hU16
    replace hP13 := hP13.upd0 hU16
    replace HL15 := HL15.trans0 hU16
    refine Was (.int .i64 0) ?_
    refine Wl_storea (off := 0) (vs := [.int .i64 0, .int .i64 0, .bool false, .int .i64 0, .int .i64 0, .int .i64 0, .int .u32 0, .bool false, .slice none 0 0, .int .u32 0]) (cs' := [.int .i64 0, .int .i64 0, .bool false, .int .i64 0, .int .i64 0, .int .i64 0, .int .u32 0, .bool false, .slice none 0 0, .int .u32 0]) sizeOf45 rfl rfl rfl (by simp only [List.mem_cons, List.not_mem_nil, or_false, forall_eq_or_imp, forall_eq]; exact ⟨rfl, rfl, rfl, rfl, rfl, rfl, rfl, rfl, rfl, rfl⟩) hb16 (by simp) rfl ?_
    intro w17 hU17 hzz17 hb16n
    replace hb16 := hb16n; clear hb16n
    have hzw17 := hU17.size
    replace hS4 := hS4.upd1 hU17 (show ¬ ((w.heap.size ≤ B16 ∧ B16 < w3.heap.size)) by omega)
    replace hP4 := hP4.upd1 hU17 (by omega)
    replace hS6 := hS6.upd1 hU17 (show ¬ ((w3.heap.size ≤ B16 ∧ B16 < w5.heap.size)) by omega)
    replace hP6 := hP6.upd1 hU17 (by omega)
    replace hS13 := hS13.upd1 hU17 (show ¬ ((w11.heap.size ≤ B16 ∧ B16 < w12.heap.size)) by omega)
    replace hP13 := hP13.upd1 hU17 (by omega)
    replace HL15 := HL15.trans1 hU17 (by show (False) ∨ w14.heap.size ≤ B16; omega)
    refine Wl_nil (W_seq (W_seq (W_region ?_)))
    refine Wmv (.int .i64 ((k : Nat) : Int)) ?_
    refine Wmv (.slice a3 m3 c3) ?_
    refine Wl_v (r_len underlying57 rfl) ?_
    refine Wl_v (r_lt rfl rfl) ?_
    refine Wl_nil ?_
    by_cases q7 : ((k : Nat) : Int) < ((m3 : Nat) : Int)
    ·rw [decide_eq_true q7]
     refine W_cond_t rfl ?_
     refine W_region ?_
     refine Wmv (.slice a3 m3 c3) ?_
     refine Wmv (.int .i64 ((k : Nat) : Int)) ?_
     refine Wl_idxr pv0 encP_len (by decide) underlying57 sizeOf45 rfl rfl hS4 (by omega) (by omega) ?_
     intro ib18 io18 hc18
     try rw [Int.toNat_natCast] at hc18
     obtain ⟨ba19, bm19, bc19, hbe19⟩ := gd_part (i := k) hv4
     rw [hbe19] at hc18
     have hB20 := hPget hP4 hbe19 (by omega)
     have hl_hB20 := rlen encK_len (by decide) hB20
     have hc_hB20 := hB20.cap.1
     refine Wl_v (r_loada (cs := [.int .i64 (((ga bs 0).1.getD k pt0).at_), .int .i64 (((ga bs 0).1.getD k pt0).sz), .bool (decide (((ga bs 0).1.getD k pt0).sk = true)), .int .i64 (((ga bs 0).1.getD k pt0).pl), .int .i64 (((ga bs 0).1.getD k pt0).hd.1), .int .i64 (((ga bs 0).1.getD k pt0).hd.2.1), .int .u32 (((ga bs 0).1.getD k pt0).hd.2.2.1), .bool (decide (((ga bs 0).1.getD k pt0).hd.2.2.2 = true)), .slice ba19 bm19 bc19, .int .u32 (((ga bs 0).1.getD k pt0).ck)]) isAgg45 sizeOf45 rfl rfl hc18) ?_
     refine Wl_storea (off := 0) (vs := [.int .i64 (((ga bs 0).1.getD k pt0).at_), .int .i64 (((ga bs 0).1.getD k pt0).sz), .bool (decide (((ga bs 0).1.getD k pt0).sk = true)), .int .i64 (((ga bs 0).1.getD k pt0).pl), .int .i64 (((ga bs 0).1.getD k pt0).hd.1), .int .i64 (((ga bs 0).1.getD k pt0).hd.2.1), .int .u32 (((ga bs 0).1.getD k pt0).hd.2.2.1), .bool (decide (((ga bs 0).1.getD k pt0).hd.2.2.2 = true)), .slice ba19 bm19 bc19, .int .u32 (((ga bs 0).1.getD k pt0).ck)]) (cs' := [.int .i64 (((ga bs 0).1.getD k pt0).at_), .int .i64 (((ga bs 0).1.getD k pt0).sz), .bool (decide (((ga bs 0).1.getD k pt0).sk = true)), .int .i64 (((ga bs 0).1.getD k pt0).pl), .int .i64 (((ga bs 0).1.getD k pt0).hd.1), .int .i64 (((ga bs 0).1.getD k pt0).hd.2.1), .int .u32 (((ga bs 0).1.getD k pt0).hd.2.2.1), .bool (decide (((ga bs 0).1.getD k pt0).hd.2.2.2 = true)), .slice ba19 bm19 bc19, .int .u32 (((ga bs 0).1.getD k pt0).ck)]) sizeOf45 rfl rfl rfl (by simp only [List.mem_cons, List.not_mem_nil, or_false, forall_eq_or_imp, forall_eq]; exact ⟨rfl, rfl, rfl, rfl, rfl, rfl, rfl, rfl, rfl, rfl⟩) hb16 (by simp) rfl ?_
     intro w21 hU21 hzz21 hb16n
     replace hb16 := hb16n; clear hb16n
     have hzw21 := hU21.size
     replace hS13 := hS13.upd1 hU21 (show ¬ ((w11.heap.size ≤ B16 ∧ B16 < w12.heap.size)) by omega)
     replace hP13 := hP13.upd1 hU21 (by omega)
     replace HL15 := HL15.trans1 hU21 (by show (False) ∨ w14.heap.size ≤ B16; omega)
     replace hB20 := hB20.upd1 hU21 (show ¬ ((w.heap.size ≤ B16 ∧ B16 < w3.heap.size ∧ B16 ≠ w3.heap.size)) by omega)
     refine Wl_nil (W_seq (W_seq ?_))
     refine W_drawt rfl (l0 := tf 0 52) (by kernel_rfl) ?_
     refine Tk 0 (tf 1 52) rfl (YI_v (v := .slice a12 m12 c12) rfl (fun w' hw' => r_mv (v := .slice a12 m12 c12) rfl)) ?_
     refine Tk 1 (tf 2 52) rfl (YI_v (v := .int .i64 ((k : Nat) : Int)) rfl (fun w' hw' => r_mv (v := .int .i64 ((k : Nat) : Int)) rfl)) ?_
     obtain ⟨ib22, io22, ha22, hib22, hc22⟩ := Sl.rat pv0 encP_len (by decide) (hS13) (i := k) (by omega)
     obtain ⟨ba23, bm23, bc23, hbe23⟩ := gd_part (i := k) hv13
     rw [show (ga (bs ++ cs) 0).1.getD k pt0 = ((ga bs 0).1.getD k pt0) from by rw [hJ]; exact join_l (by omega)] at hbe23
     rw [hbe23] at hc22
     have hB23 := hPget hP13 hbe23 (by omega)
     have hl_hB23 := rlen encK_len (by decide) hB23
     have hc_hB23 := hB23.cap.1
     have hbq : bm19 = bm23 := by omega
     subst hbq
     refine Tk 2 (tf 3 52) rfl (YI_v (v := .pointer (some ⟨ib22, io22 + k * 10, none⟩)) rfl (fun w' hw' => r_idx (b := ib22) (off := io22) (m := m12) (c := c12) (o' := io22 + k * 10) underlying57 sizeOf45 (by rw [← ha22]; rfl) rfl (by omega) (by omega) (by omega))) ?_
     refine Tk 3 (tf 4 52) rfl (YI_v (v := .pointer (some ⟨ib22, io22 + k * 10, none⟩)) rfl (fun w' hw' => r_fld underlying45 rfl sizeOf3 rfl rfl)) ?_
     refine Tk 4 (tf 5 52) rfl (YI_v (v := .int .i64 (((ga bs 0).1.getD k pt0).at_)) rfl (fun w' hw' => r_load (v := .int .i64 (((ga bs 0).1.getD k pt0).at_)) isAgg3 rfl (hw'.cellk (hc22 0 (by decide))))) ?_
     refine Tk 5 (tf 6 52) rfl (YI_v (v := .pointer (some ⟨B16, 0, none⟩)) rfl (fun w' hw' => r_fld underlying45 rfl sizeOf3 rfl rfl)) ?_
     refine Tk 6 (tf 7 52) rfl (YI_v (v := .int .i64 (((ga bs 0).1.getD k pt0).at_)) rfl (fun w' hw' => r_load isAgg3 rfl (by rw [(hb16.upd0 hw').cell]; rfl))) ?_
     refine Tk 7 (tf 8 52) rfl (YI_v (v := .int .i64 0) rfl (fun w' hw' => r_mv (v := .int .i64 0) rfl)) ?_
     refine Tk 8 (tf 9 52) rfl (YI_v (v := .int .i64 ((((ga bs 0).1.getD k pt0).at_) + 0)) rfl (fun w' hw' => r_add rfl rfl (wi64 (by omega) (by omega)))) ?_
     refine Tk 9 (tf 10 52) rfl (YI_v (v := .bool (decide ((((ga bs 0).1.getD k pt0).at_) ≠ ((((ga bs 0).1.getD k pt0).at_) + 0)))) rfl (fun w' hw' => r_ne rfl rfl)) ?_
     refine Tk 10 (tf 11 52) rfl (YI_v (v := .bool (decide ((((ga bs 0).1.getD k pt0).at_) ≠ ((((ga bs 0).1.getD k pt0).at_) + 0)))) rfl (fun w' hw' => r_mv (v := .bool (decide ((((ga bs 0).1.getD k pt0).at_) ≠ ((((ga bs 0).1.getD k pt0).at_) + 0)))) rfl)) ?_
     have q8 : ¬ ((((ga bs 0).1.getD k pt0).at_) ≠ ((((ga bs 0).1.getD k pt0).at_) + 0)) := (by omega)
     rw [decide_eq_false q8]
     refine Tk 11 (tf 12 52) rfl (YI_v (v := .slice a12 m12 c12) rfl (fun w' hw' => r_mv (v := .slice a12 m12 c12) rfl)) ?_
     refine Tk 12 (tf 13 52) rfl (YI_v (v := .int .i64 ((k : Nat) : Int)) rfl (fun w' hw' => r_mv (v := .int .i64 ((k : Nat) : Int)) rfl)) ?_
     obtain ⟨ib24, io24, ha24, hib24, hc24⟩ := Sl.rat pv0 encP_len (by decide) (hS13) (i := k) (by omega)
     rw [hbe23] at hc24
     refine Tk 13 (tf 14 52) rfl (YI_v (v := .pointer (some ⟨ib24, io24 + k * 10, none⟩)) rfl (fun w' hw' => r_idx (b := ib24) (off := io24) (m := m12) (c := c12) (o' := io24 + k * 10) underlying57 sizeOf45 (by rw [← ha24]; rfl) rfl (by omega) (by omega) (by omega))) ?_
     refine Tk 14 (tf 15 52) rfl (YI_v (v := .pointer (some ⟨ib24, io24 + k * 10 + 1, none⟩)) rfl (fun w' hw' => r_fld underlying45 rfl sizeOf3 rfl rfl)) ?_
     refine Tk 15 (tf 16 52) rfl (YI_v (v := .int .i64 (((ga bs 0).1.getD k pt0).sz)) rfl (fun w' hw' => r_load (v := .int .i64 (((ga bs 0).1.getD k pt0).sz)) isAgg3 rfl (hw'.cellk (hc24 1 (by decide))))) ?_
     refine Tk 16 (tf 17 52) rfl (YI_v (v := .pointer (some ⟨B16, 1, none⟩)) rfl (fun w' hw' => r_fld underlying45 rfl sizeOf3 rfl rfl)) ?_
     refine Tk 17 (tf 18 52) rfl (YI_v (v := .int .i64 (((ga bs 0).1.getD k pt0).sz)) rfl (fun w' hw' => r_load isAgg3 rfl (by rw [(hb16.upd0 hw').cell]; rfl))) ?_
     refine Tk 18 (tf 19 52) rfl (YI_v (v := .bool (decide ((((ga bs 0).1.getD k pt0).sz) ≠ (((ga bs 0).1.getD k pt0).sz)))) rfl (fun w' hw' => r_ne rfl rfl)) ?_
     refine Tk 19 (tf 20 52) rfl (YI_v rfl (fun w' hw' => r_pick_f (v := .bool (decide ((((ga bs 0).1.getD k pt0).sz) ≠ (((ga bs 0).1.getD k pt0).sz)))) rfl rfl)) ?_
     refine Tk 20 (tf 21 52) rfl (YI_v (v := .bool (decide ((((ga bs 0).1.getD k pt0).sz) ≠ (((ga bs 0).1.getD k pt0).sz)))) rfl (fun w' hw' => r_mv (v := .bool (decide ((((ga bs 0).1.getD k pt0).sz) ≠ (((ga bs 0).1.getD k pt0).sz)))) rfl)) ?_
     have q9 : ¬ ((((ga bs 0).1.getD k pt0).sz) ≠ (((ga bs 0).1.getD k pt0).sz)) := (by omega)
     rw [decide_eq_false q9]
     refine Tk 21 (tf 22 52) rfl (YI_v (v := .slice a12 m12 c12) rfl (fun w' hw' => r_mv (v := .slice a12 m12 c12) rfl)) ?_
     refine Tk 22 (tf 23 52) rfl (YI_v (v := .int .i64 ((k : Nat) : Int)) rfl (fun w' hw' => r_mv (v := .int .i64 ((k : Nat) : Int)) rfl)) ?_
     obtain ⟨ib25, io25, ha25, hib25, hc25⟩ := Sl.rat pv0 encP_len (by decide) (hS13) (i := k) (by omega)
     rw [hbe23] at hc25
     refine Tk 23 (tf 24 52) rfl (YI_v (v := .pointer (some ⟨ib25, io25 + k * 10, none⟩)) rfl (fun w' hw' => r_idx (b := ib25) (off := io25) (m := m12) (c := c12) (o' := io25 + k * 10) underlying57 sizeOf45 (by rw [← ha25]; rfl) rfl (by omega) (by omega) (by omega))) ?_
     refine Tk 24 (tf 25 52) rfl (YI_v (v := .pointer (some ⟨ib25, io25 + k * 10 + 2, none⟩)) rfl (fun w' hw' => r_fld underlying45 rfl sizeOf4 rfl rfl)) ?_
     refine Tk 25 (tf 26 52) rfl (YI_v (v := .bool (decide (((ga bs 0).1.getD k pt0).sk = true))) rfl (fun w' hw' => r_load (v := .bool (decide (((ga bs 0).1.getD k pt0).sk = true))) isAgg4 rfl (hw'.cellk (hc25 2 (by decide))))) ?_
     refine Tk 26 (tf 27 52) rfl (YI_v (v := .pointer (some ⟨B16, 2, none⟩)) rfl (fun w' hw' => r_fld underlying45 rfl sizeOf4 rfl rfl)) ?_
     refine Tk 27 (tf 28 52) rfl (YI_v (v := .bool (decide (((ga bs 0).1.getD k pt0).sk = true))) rfl (fun w' hw' => r_load isAgg4 rfl (by rw [(hb16.upd0 hw').cell]; rfl))) ?_
     by_cases q10 : ((ga bs 0).1.getD k pt0).sk = true
     ·rw [decide_eq_true q10]
      refine Tk 28 (tf 29 52) rfl (YI_v (v := .bool false) rfl (fun w' hw' => r_neb (a := true) (b := true) underlying4 rfl rfl)) ?_
      refine Tk 29 (tf 30 52) rfl (YI_v rfl (fun w' hw' => r_pick_f (v := .bool false) rfl rfl)) ?_
      refine Tk 30 (tf 31 52) rfl (YI_v (v := .bool false) rfl (fun w' hw' => r_mv (v := .bool false) rfl)) ?_
      refine Tk 31 (tf 32 52) rfl (YI_v (v := .slice a12 m12 c12) rfl (fun w' hw' => r_mv (v := .slice a12 m12 c12) rfl)) ?_
      refine Tk 32 (tf 33 52) rfl (YI_v (v := .int .i64 ((k : Nat) : Int)) rfl (fun w' hw' => r_mv (v := .int .i64 ((k : Nat) : Int)) rfl)) ?_
      obtain ⟨ib26, io26, ha26, hib26, hc26⟩ := Sl.rat pv0 encP_len (by decide) (hS13) (i := k) (by omega)
      rw [hbe23] at hc26
      refine Tk 33 (tf 34 52) rfl (YI_v (v := .pointer (some ⟨ib26, io26 + k * 10, none⟩)) rfl (fun w' hw' => r_idx (b := ib26) (off := io26) (m := m12) (c := c12) (o' := io26 + k * 10) underlying57 sizeOf45 (by rw [← ha26]; rfl) rfl (by omega) (by omega) (by omega))) ?_
      refine Tk 34 (tf 35 52) rfl (YI_v (v := .pointer (some ⟨ib26, io26 + k * 10 + 4, none⟩)) rfl (fun w' hw' => r_fld underlying45 rfl sizeOf41 rfl rfl)) ?_
      refine Tk 35 (tf 36 52) rfl (YI_v (v := .agg #[.int .i64 (((ga bs 0).1.getD k pt0).hd.1), .int .i64 (((ga bs 0).1.getD k pt0).hd.2.1), .int .u32 (((ga bs 0).1.getD k pt0).hd.2.2.1), .bool (decide (((ga bs 0).1.getD k pt0).hd.2.2.2 = true))]) rfl (fun w' hw' => r_loada (cs := [.int .i64 (((ga bs 0).1.getD k pt0).hd.1), .int .i64 (((ga bs 0).1.getD k pt0).hd.2.1), .int .u32 (((ga bs 0).1.getD k pt0).hd.2.2.1), .bool (decide (((ga bs 0).1.getD k pt0).hd.2.2.2 = true))]) isAgg41 sizeOf41 rfl rfl (fun j hj => by have h9 := hw'.cellsk (cs := [.int .i64 (((ga bs 0).1.getD k pt0).at_), .int .i64 (((ga bs 0).1.getD k pt0).sz), .bool (decide (((ga bs 0).1.getD k pt0).sk = true)), .int .i64 (((ga bs 0).1.getD k pt0).pl), .int .i64 (((ga bs 0).1.getD k pt0).hd.1), .int .i64 (((ga bs 0).1.getD k pt0).hd.2.1), .int .u32 (((ga bs 0).1.getD k pt0).hd.2.2.1), .bool (decide (((ga bs 0).1.getD k pt0).hd.2.2.2 = true)), .slice ba23 bm19 bc23, .int .u32 (((ga bs 0).1.getD k pt0).ck)]) (sz := 10) rfl hc26 (4 + j) (by have h8 : j < 4 := hj; omega); rw [← Nat.add_assoc] at h9; rw [h9]; match j, hj with | 0, _ => rfl | 1, _ => rfl | 2, _ => rfl | 3, _ => rfl))) ?_
      refine Tk 36 (tf 37 52) rfl (YI_v (v := .pointer (some ⟨B16, 4, none⟩)) rfl (fun w' hw' => r_fld underlying45 rfl sizeOf41 rfl rfl)) ?_
      refine Tk 37 (tf 38 52) rfl (YI_v (v := .agg #[.int .i64 (((ga bs 0).1.getD k pt0).hd.1), .int .i64 (((ga bs 0).1.getD k pt0).hd.2.1), .int .u32 (((ga bs 0).1.getD k pt0).hd.2.2.1), .bool (decide (((ga bs 0).1.getD k pt0).hd.2.2.2 = true))]) rfl (fun w' hw' => r_loada (b := B16) (off := 4) (cs := [.int .i64 (((ga bs 0).1.getD k pt0).hd.1), .int .i64 (((ga bs 0).1.getD k pt0).hd.2.1), .int .u32 (((ga bs 0).1.getD k pt0).hd.2.2.1), .bool (decide (((ga bs 0).1.getD k pt0).hd.2.2.2 = true))]) isAgg41 sizeOf41 rfl rfl (fun j hj => by rw [(hb16.upd0 hw').cell]; match j, hj with | 0, _ => rfl | 1, _ => rfl | 2, _ => rfl | 3, _ => rfl))) ?_
      refine Tk 38 (tf 39 52) rfl (YI_v (v := .bool (!decide ((((ga bs 0).1.getD k pt0).hd.1) = (((ga bs 0).1.getD k pt0).hd.1) ∧ (((ga bs 0).1.getD k pt0).hd.2.1) = (((ga bs 0).1.getD k pt0).hd.2.1) ∧ (((ga bs 0).1.getD k pt0).hd.2.2.1) = (((ga bs 0).1.getD k pt0).hd.2.2.1) ∧ (decide (((ga bs 0).1.getD k pt0).hd.2.2.2 = true)) = (decide (((ga bs 0).1.getD k pt0).hd.2.2.2 = true))))) rfl (fun w' hw' => r_neag (pp := (((ga bs 0).1.getD k pt0).hd.1) = (((ga bs 0).1.getD k pt0).hd.1) ∧ (((ga bs 0).1.getD k pt0).hd.2.1) = (((ga bs 0).1.getD k pt0).hd.2.1) ∧ (((ga bs 0).1.getD k pt0).hd.2.2.1) = (((ga bs 0).1.getD k pt0).hd.2.2.1) ∧ (decide (((ga bs 0).1.getD k pt0).hd.2.2.2 = true)) = (decide (((ga bs 0).1.getD k pt0).hd.2.2.2 = true))) underlying41 (by kernel_rfl) (by kernel_rfl) rfl rfl (fun w => eqf_int (by decide) underlying3 isAgg3 rfl rfl (fun w => eqf_int (by decide) underlying3 isAgg3 rfl rfl (fun w => eqf_int (by decide) underlying39 isAgg39 rfl rfl (fun w => eqf_bool (by decide) underlying4 isAgg4 rfl rfl (fun w => eqf_nil))))) (by simp [Bool.decide_and]))) ?_
      refine Tk 39 (tf 40 52) rfl (YI_v rfl (fun w' hw' => r_pick_f (v := .bool (!decide ((((ga bs 0).1.getD k pt0).hd.1) = (((ga bs 0).1.getD k pt0).hd.1) ∧ (((ga bs 0).1.getD k pt0).hd.2.1) = (((ga bs 0).1.getD k pt0).hd.2.1) ∧ (((ga bs 0).1.getD k pt0).hd.2.2.1) = (((ga bs 0).1.getD k pt0).hd.2.2.1) ∧ (decide (((ga bs 0).1.getD k pt0).hd.2.2.2 = true)) = (decide (((ga bs 0).1.getD k pt0).hd.2.2.2 = true))))) rfl rfl)) ?_
      refine Tk 40 (tf 41 52) rfl (YI_v (v := .bool (!decide ((((ga bs 0).1.getD k pt0).hd.1) = (((ga bs 0).1.getD k pt0).hd.1) ∧ (((ga bs 0).1.getD k pt0).hd.2.1) = (((ga bs 0).1.getD k pt0).hd.2.1) ∧ (((ga bs 0).1.getD k pt0).hd.2.2.1) = (((ga bs 0).1.getD k pt0).hd.2.2.1) ∧ (decide (((ga bs 0).1.getD k pt0).hd.2.2.2 = true)) = (decide (((ga bs 0).1.getD k pt0).hd.2.2.2 = true))))) rfl (fun w' hw' => r_mv (v := .bool (!decide ((((ga bs 0).1.getD k pt0).hd.1) = (((ga bs 0).1.getD k pt0).hd.1) ∧ (((ga bs 0).1.getD k pt0).hd.2.1) = (((ga bs 0).1.getD k pt0).hd.2.1) ∧ (((ga bs 0).1.getD k pt0).hd.2.2.1) = (((ga bs 0).1.getD k pt0).hd.2.2.1) ∧ (decide (((ga bs 0).1.getD k pt0).hd.2.2.2 = true)) = (decide (((ga bs 0).1.getD k pt0).hd.2.2.2 = true))))) rfl)) ?_
      have q11 : (((ga bs 0).1.getD k pt0).hd.1) = (((ga bs 0).1.getD k pt0).hd.1) ∧ (((ga bs 0).1.getD k pt0).hd.2.1) = (((ga bs 0).1.getD k pt0).hd.2.1) ∧ (((ga bs 0).1.getD k pt0).hd.2.2.1) = (((ga bs 0).1.getD k pt0).hd.2.2.1) ∧ (decide (((ga bs 0).1.getD k pt0).hd.2.2.2 = true)) = (decide (((ga bs 0).1.getD k pt0).hd.2.2.2 = true)) := ⟨rfl, rfl, rfl, rfl⟩
      rw [decide_eq_true q11]
      simp only [Bool.not_true, Bool.not_false]
      refine Tk 41 (tf 42 52) rfl (YI_v (v := .slice a12 m12 c12) rfl (fun w' hw' => r_mv (v := .slice a12 m12 c12) rfl)) ?_
      refine Tk 42 (tf 43 52) rfl (YI_v (v := .int .i64 ((k : Nat) : Int)) rfl (fun w' hw' => r_mv (v := .int .i64 ((k : Nat) : Int)) rfl)) ?_
      obtain ⟨ib27, io27, ha27, hib27, hc27⟩ := Sl.rat pv0 encP_len (by decide) (hS13) (i := k) (by omega)
      rw [hbe23] at hc27
      refine Tk 43 (tf 44 52) rfl (YI_v (v := .pointer (some ⟨ib27, io27 + k * 10, none⟩)) rfl (fun w' hw' => r_idx (b := ib27) (off := io27) (m := m12) (c := c12) (o' := io27 + k * 10) underlying57 sizeOf45 (by rw [← ha27]; rfl) rfl (by omega) (by omega) (by omega))) ?_
      refine Tk 44 (tf 45 52) rfl (YI_v (v := .pointer (some ⟨ib27, io27 + k * 10 + 8, none⟩)) rfl (fun w' hw' => r_fld underlying45 rfl sizeOf43 rfl rfl)) ?_
      refine Tk 45 (tf 46 52) rfl (YI_v (v := .slice ba23 bm19 bc23) rfl (fun w' hw' => r_load (v := .slice ba23 bm19 bc23) isAgg43 rfl (hw'.cellk (hc27 8 (by decide))))) ?_
      refine Tk 46 (tf 47 52) rfl (YI_v (v := .int .i64 ((bm19 : Nat) : Int)) rfl (fun w' hw' => r_len underlying43 rfl)) ?_
      refine Tk 47 (tf 48 52) rfl (YI_v (v := .pointer (some ⟨B16, 8, none⟩)) rfl (fun w' hw' => r_fld underlying45 rfl sizeOf43 rfl rfl)) ?_
      refine Tk 48 (tf 49 52) rfl (YI_v (v := .slice ba19 bm19 bc19) rfl (fun w' hw' => r_load isAgg43 rfl (by rw [(hb16.upd0 hw').cell]; rfl))) ?_
      refine Tk 49 (tf 50 52) rfl (YI_v (v := .int .i64 ((bm19 : Nat) : Int)) rfl (fun w' hw' => r_len underlying43 rfl)) ?_
      refine Tk 50 (tf 51 52) rfl (YI_v (v := .bool (decide (((bm19 : Nat) : Int) ≠ ((bm19 : Nat) : Int)))) rfl (fun w' hw' => r_ne rfl rfl)) ?_
      refine Tk 51 (tf 52 52) rfl (YI_v rfl (fun w' hw' => r_pick_f (v := .bool (decide (((bm19 : Nat) : Int) ≠ ((bm19 : Nat) : Int)))) rfl rfl)) ?_
      intro w28 hU28
      have hzw28 := hU28.size
      replace hS13 := hS13.upd0 hU28
      replace HL15 := HL15.trans0 hU28
      replace hb16 := hb16.upd0 hU28
      replace hB20 := hB20.upd0 hU28
      replace hB23 := hB23.upd0 hU28
      refine Wa_done (by kernel_rfl) ?_
      have q12 : ¬ (((bm19 : Nat) : Int) ≠ ((bm19 : Nat) : Int)) := (by omega)
      rw [decide_eq_false q12]
      refine W_cond_f rfl ?_
      refine W_skip (W_seq (W_region ?_))
      refine Was (.int .i64 0) ?_
      refine Wl_nil (W_block ?_)
      refine W_loop (fun mu ρ ds w' => ∃ (q : Nat), bm19 - q = mu ∧ ds = [] ∧ Liv ρ [(0, .slice a n c), (5, .slice a3 m3 c3), (7, .slice a5 m5 c5), (9, .slice a12 m12 c12), (11, .int .i64 ((k : Nat) : Int)), (12, .int .i64 0), (13, .pointer (some ⟨B16, 0, none⟩)), (14, .int .i64 ((q : Nat) : Int)), (98, .slice a12 m12 c12), (99, .int .i64 ((k : Nat) : Int)), (100, .pointer (some ⟨ib24, io24 + k * 10, none⟩)), (101, .pointer (some ⟨ib24, io24 + k * 10 + 1, none⟩)), (102, .int .i64 (((ga bs 0).1.getD k pt0).sz)), (103, .pointer (some ⟨B16, 1, none⟩)), (104, .int .i64 (((ga bs 0).1.getD k pt0).sz)), (105, .bool false), (108, .slice a12 m12 c12), (109, .int .i64 ((k : Nat) : Int)), (110, .pointer (some ⟨ib25, io25 + k * 10, none⟩)), (111, .pointer (some ⟨ib25, io25 + k * 10 + 2, none⟩)), (112, .bool true), (113, .pointer (some ⟨B16, 2, none⟩)), (114, .bool true), (115, .bool false), (118, .slice a12 m12 c12), (119, .int .i64 ((k : Nat) : Int)), (120, .pointer (some ⟨ib26, io26 + k * 10, none⟩)), (121, .pointer (some ⟨ib26, io26 + k * 10 + 4, none⟩)), (122, .agg #[.int .i64 (((ga bs 0).1.getD k pt0).hd.1), .int .i64 (((ga bs 0).1.getD k pt0).hd.2.1), .int .u32 (((ga bs 0).1.getD k pt0).hd.2.2.1), .bool (decide (((ga bs 0).1.getD k pt0).hd.2.2.2 = true))]), (123, .pointer (some ⟨B16, 4, none⟩)), (124, .agg #[.int .i64 (((ga bs 0).1.getD k pt0).hd.1), .int .i64 (((ga bs 0).1.getD k pt0).hd.2.1), .int .u32 (((ga bs 0).1.getD k pt0).hd.2.2.1), .bool (decide (((ga bs 0).1.getD k pt0).hd.2.2.2 = true))]), (125, .bool false), (128, .slice a12 m12 c12), (129, .int .i64 ((k : Nat) : Int)), (130, .pointer (some ⟨ib27, io27 + k * 10, none⟩)), (131, .pointer (some ⟨ib27, io27 + k * 10 + 8, none⟩)), (132, .slice ba23 bm19 bc23), (133, .int .i64 ((bm19 : Nat) : Int)), (134, .pointer (some ⟨B16, 8, none⟩)), (135, .slice ba19 bm19 bc19), (136, .int .i64 ((bm19 : Nat) : Int)), (137, .bool false)] ∧ q ≤ bm19 ∧ Upd No w28 w') _ ⟨0, rfl, rfl, ⟨rfl, rfl, rfl, rfl, rfl, rfl, rfl, (by first | rfl | exact vint (by omega) | exact vint (by simp)), rfl, rfl, rfl, rfl, rfl, rfl, rfl, rfl, rfl, rfl, rfl, rfl, rfl, rfl, rfl, rfl, rfl, rfl, rfl, rfl, rfl, rfl, rfl, rfl, rfl, rfl, rfl, rfl, rfl, rfl, rfl, rfl, rfl, rfl, trivial⟩, (by omega), Upd.refl _ _⟩ ?_
      rintro m29 ρ29 ds29 w29 ⟨q, rfl, rfl, hl29, hq, hU29⟩
      obtain ⟨ρ29x, rfl⟩ : ∃ ρx, ρ29 = upds ρx [(0, .slice a n c), (5, .slice a3 m3 c3), (7, .slice a5 m5 c5), (9, .slice a12 m12 c12), (11, .int .i64 ((k : Nat) : Int)), (12, .int .i64 0), (13, .pointer (some ⟨B16, 0, none⟩)), (14, .int .i64 ((q : Nat) : Int)), (98, .slice a12 m12 c12), (99, .int .i64 ((k : Nat) : Int)), (100, .pointer (some ⟨ib24, io24 + k * 10, none⟩)), (101, .pointer (some ⟨ib24, io24 + k * 10 + 1, none⟩)), (102, .int .i64 (((ga bs 0).1.getD k pt0).sz)), (103, .pointer (some ⟨B16, 1, none⟩)), (104, .int .i64 (((ga bs 0).1.getD k pt0).sz)), (105, .bool false), (108, .slice a12 m12 c12), (109, .int .i64 ((k : Nat) : Int)), (110, .pointer (some ⟨ib25, io25 + k * 10, none⟩)), (111, .pointer (some ⟨ib25, io25 + k * 10 + 2, none⟩)), (112, .bool true), (113, .pointer (some ⟨B16, 2, none⟩)), (114, .bool true), (115, .bool false), (118, .slice a12 m12 c12), (119, .int .i64 ((k : Nat) : Int)), (120, .pointer (some ⟨ib26, io26 + k * 10, none⟩)), (121, .pointer (some ⟨ib26, io26 + k * 10 + 4, none⟩)), (122, .agg #[.int .i64 (((ga bs 0).1.getD k pt0).hd.1), .int .i64 (((ga bs 0).1.getD k pt0).hd.2.1), .int .u32 (((ga bs 0).1.getD k pt0).hd.2.2.1), .bool (decide (((ga bs 0).1.getD k pt0).hd.2.2.2 = true))]), (123, .pointer (some ⟨B16, 4, none⟩)), (124, .agg #[.int .i64 (((ga bs 0).1.getD k pt0).hd.1), .int .i64 (((ga bs 0).1.getD k pt0).hd.2.1), .int .u32 (((ga bs 0).1.getD k pt0).hd.2.2.1), .bool (decide (((ga bs 0).1.getD k pt0).hd.2.2.2 = true))]), (125, .bool false), (128, .slice a12 m12 c12), (129, .int .i64 ((k : Nat) : Int)), (130, .pointer (some ⟨ib27, io27 + k * 10, none⟩)), (131, .pointer (some ⟨ib27, io27 + k * 10 + 8, none⟩)), (132, .slice ba23 bm19 bc23), (133, .int .i64 ((bm19 : Nat) : Int)), (134, .pointer (some ⟨B16, 8, none⟩)), (135, .slice ba19 bm19 bc19), (136, .int .i64 ((bm19 : Nat) : Int)), (137, .bool false)] := ⟨_, upds_self hl29⟩
      clear hl29
      have hzw29 := hU29.size
      replace hS13 := hS13.upd0 hU29
      replace HL15 := HL15.trans0 hU29
      replace hb16 := hb16.upd0 hU29
      replace hB20 := hB20.upd0 hU29
      replace hB23 := hB23.upd0 hU29
      have hox := ga_batd (bs := bs) (by omega) k q
      have hoy := ga_batd (bs := cs) (by omega) (((k : Nat) : Int) - ((m3 : Nat) : Int)).toNat q
      have hsk := (ga_okd hb (by omega) k).2.2
      have hsy := (ga_okd hb2 (by omega) (((k : Nat) : Int) - ((m3 : Nat) : Int)).toNat).2.2
      have HL29 := hU29
      refine W_seq (W_seq (W_region ?_))
      refine Wmv (.int .i64 ((q : Nat) : Int)) ?_
      refine Wl_v (r_fld underlying45 rfl sizeOf43 rfl rfl) ?_
      refine Wl_load (v := .slice ba19 bm19 bc19) isAgg43 rfl hb16 rfl ?_
      refine Wl_v (r_len underlying43 rfl) ?_
      refine Wl_v (r_lt rfl rfl) ?_
      refine Wl_nil ?_
      by_cases q13 : ((q : Nat) : Int) < ((bm19 : Nat) : Int)
      ·rw [decide_eq_true q13]
       refine W_cond_t rfl ?_
       refine W_skip (W_seq (W_block (W_seq ?_)))
       refine W_drawt rfl (l0 := tf 0 36) (by kernel_rfl) ?_
       refine Tk 0 (tf 1 36) rfl (YI_v (v := .slice a12 m12 c12) rfl (fun w' hw' => r_mv (v := .slice a12 m12 c12) rfl)) ?_
       refine Tk 1 (tf 2 36) rfl (YI_v (v := .int .i64 ((k : Nat) : Int)) rfl (fun w' hw' => r_mv (v := .int .i64 ((k : Nat) : Int)) rfl)) ?_
       obtain ⟨ib30, io30, ha30, hib30, hc30⟩ := Sl.rat pv0 encP_len (by decide) (hS13) (i := k) (by omega)
       rw [hbe23] at hc30
       refine Tk 2 (tf 3 36) rfl (YI_v (v := .pointer (some ⟨ib30, io30 + k * 10, none⟩)) rfl (fun w' hw' => r_idx (b := ib30) (off := io30) (m := m12) (c := c12) (o' := io30 + k * 10) underlying57 sizeOf45 (by rw [← ha30]; rfl) rfl (by omega) (by omega) (by omega))) ?_
       refine Tk 3 (tf 4 36) rfl (YI_v (v := .pointer (some ⟨ib30, io30 + k * 10 + 8, none⟩)) rfl (fun w' hw' => r_fld underlying45 rfl sizeOf43 rfl rfl)) ?_
       refine Tk 4 (tf 5 36) rfl (YI_v (v := .slice ba23 bm19 bc23) rfl (fun w' hw' => r_load (v := .slice ba23 bm19 bc23) isAgg43 rfl (hw'.cellk (hc30 8 (by decide))))) ?_
       refine Tk 5 (tf 6 36) rfl (YI_v (v := .int .i64 ((q : Nat) : Int)) rfl (fun w' hw' => r_mv (v := .int .i64 ((q : Nat) : Int)) rfl)) ?_
       obtain ⟨ib31, io31, ha31, hib31, hc31⟩ := Sl.rat (0, 0, 0, 0, false) encK_len (by decide) (hB23) (i := q) (by omega)
       refine Tk 6 (tf 7 36) rfl (YI_v (v := .pointer (some ⟨ib31, io31 + q * 5, none⟩)) rfl (fun w' hw' => r_idx (b := ib31) (off := io31) (m := bm19) (c := bc23) (o' := io31 + q * 5) underlying43 sizeOf51 (by rw [← ha31]; rfl) rfl (by omega) (by omega) (by omega))) ?_
       refine Tk 7 (tf 8 36) rfl (YI_v (v := .pointer (some ⟨ib31, io31 + q * 5, none⟩)) rfl (fun w' hw' => r_fld underlying51 rfl sizeOf3 rfl rfl)) ?_
       refine Tk 8 (tf 9 36) rfl (YI_v (v := .int .i64 (((((ga bs 0).1.getD k pt0).bl).getD q (0, 0, 0, 0, false)).1)) rfl (fun w' hw' => r_load (v := .int .i64 (((((ga bs 0).1.getD k pt0).bl).getD q (0, 0, 0, 0, false)).1)) isAgg3 rfl (hw'.cellk (hc31 0 (by decide))))) ?_
       refine Tk 9 (tf 10 36) rfl (YI_v (v := .pointer (some ⟨B16, 8, none⟩)) rfl (fun w' hw' => r_fld underlying45 rfl sizeOf43 rfl rfl)) ?_
       refine Tk 10 (tf 11 36) rfl (YI_v (v := .slice ba19 bm19 bc19) rfl (fun w' hw' => r_load isAgg43 rfl (by rw [(hb16.upd0 hw').cell]; rfl))) ?_
       refine Tk 11 (tf 12 36) rfl (YI_v (v := .int .i64 ((q : Nat) : Int)) rfl (fun w' hw' => r_mv (v := .int .i64 ((q : Nat) : Int)) rfl)) ?_
       obtain ⟨ib32, io32, ha32, hib32, hc32⟩ := Sl.rat (0, 0, 0, 0, false) encK_len (by decide) (hB20) (i := q) (by omega)
       refine Tk 12 (tf 13 36) rfl (YI_v (v := .pointer (some ⟨ib32, io32 + q * 5, none⟩)) rfl (fun w' hw' => r_idx (b := ib32) (off := io32) (m := bm19) (c := bc19) (o' := io32 + q * 5) underlying43 sizeOf51 (by rw [← ha32]; rfl) rfl (by omega) (by omega) (by omega))) ?_
       refine Tk 13 (tf 14 36) rfl (YI_v (v := .pointer (some ⟨ib32, io32 + q * 5, none⟩)) rfl (fun w' hw' => r_fld underlying51 rfl sizeOf3 rfl rfl)) ?_
       refine Tk 14 (tf 15 36) rfl (YI_v (v := .int .i64 (((((ga bs 0).1.getD k pt0).bl).getD q (0, 0, 0, 0, false)).1)) rfl (fun w' hw' => r_load (v := .int .i64 (((((ga bs 0).1.getD k pt0).bl).getD q (0, 0, 0, 0, false)).1)) isAgg3 rfl (hw'.cellk (hc32 0 (by decide))))) ?_
       refine Tk 15 (tf 16 36) rfl (YI_v (v := .int .i64 0) rfl (fun w' hw' => r_mv (v := .int .i64 0) rfl)) ?_
       refine Tk 16 (tf 17 36) rfl (YI_v (v := .int .i64 ((((((ga bs 0).1.getD k pt0).bl).getD q (0, 0, 0, 0, false)).1) + 0)) rfl (fun w' hw' => r_add rfl rfl (wi64 (by omega) (by omega)))) ?_
       refine Tk 17 (tf 18 36) rfl (YI_v (v := .bool (decide ((((((ga bs 0).1.getD k pt0).bl).getD q (0, 0, 0, 0, false)).1) ≠ ((((((ga bs 0).1.getD k pt0).bl).getD q (0, 0, 0, 0, false)).1) + 0)))) rfl (fun w' hw' => r_ne rfl rfl)) ?_
       refine Tk 18 (tf 19 36) rfl (YI_v (v := .bool (decide ((((((ga bs 0).1.getD k pt0).bl).getD q (0, 0, 0, 0, false)).1) ≠ ((((((ga bs 0).1.getD k pt0).bl).getD q (0, 0, 0, 0, false)).1) + 0)))) rfl (fun w' hw' => r_mv (v := .bool (decide ((((((ga bs 0).1.getD k pt0).bl).getD q (0, 0, 0, 0, false)).1) ≠ ((((((ga bs 0).1.getD k pt0).bl).getD q (0, 0, 0, 0, false)).1) + 0)))) rfl)) ?_
       have q14 : ¬ ((((((ga bs 0).1.getD k pt0).bl).getD q (0, 0, 0, 0, false)).1) ≠ ((((((ga bs 0).1.getD k pt0).bl).getD q (0, 0, 0, 0, false)).1) + 0)) := (by omega)
       rw [decide_eq_false q14]
       refine Tk 19 (tf 20 36) rfl (YI_v (v := .slice a12 m12 c12) rfl (fun w' hw' => r_mv (v := .slice a12 m12 c12) rfl)) ?_
       refine Tk 20 (tf 21 36) rfl (YI_v (v := .int .i64 ((k : Nat) : Int)) rfl (fun w' hw' => r_mv (v := .int .i64 ((k : Nat) : Int)) rfl)) ?_
       obtain ⟨ib33, io33, ha33, hib33, hc33⟩ := Sl.rat pv0 encP_len (by decide) (hS13) (i := k) (by omega)
       rw [hbe23] at hc33
       refine Tk 21 (tf 22 36) rfl (YI_v (v := .pointer (some ⟨ib33, io33 + k * 10, none⟩)) rfl (fun w' hw' => r_idx (b := ib33) (off := io33) (m := m12) (c := c12) (o' := io33 + k * 10) underlying57 sizeOf45 (by rw [← ha33]; rfl) rfl (by omega) (by omega) (by omega))) ?_
       refine Tk 22 (tf 23 36) rfl (YI_v (v := .pointer (some ⟨ib33, io33 + k * 10 + 8, none⟩)) rfl (fun w' hw' => r_fld underlying45 rfl sizeOf43 rfl rfl)) ?_
       refine Tk 23 (tf 24 36) rfl (YI_v (v := .slice ba23 bm19 bc23) rfl (fun w' hw' => r_load (v := .slice ba23 bm19 bc23) isAgg43 rfl (hw'.cellk (hc33 8 (by decide))))) ?_
       refine Tk 24 (tf 25 36) rfl (YI_v (v := .int .i64 ((q : Nat) : Int)) rfl (fun w' hw' => r_mv (v := .int .i64 ((q : Nat) : Int)) rfl)) ?_
       obtain ⟨ib34, io34, ha34, hib34, hc34⟩ := Sl.rat (0, 0, 0, 0, false) encK_len (by decide) (hB23) (i := q) (by omega)
       refine Tk 25 (tf 26 36) rfl (YI_v (v := .pointer (some ⟨ib34, io34 + q * 5, none⟩)) rfl (fun w' hw' => r_idx (b := ib34) (off := io34) (m := bm19) (c := bc23) (o' := io34 + q * 5) underlying43 sizeOf51 (by rw [← ha34]; rfl) rfl (by omega) (by omega) (by omega))) ?_
       refine Tk 26 (tf 27 36) rfl (YI_v (v := .pointer (some ⟨ib34, io34 + q * 5 + 2, none⟩)) rfl (fun w' hw' => r_fld underlying51 rfl sizeOf3 rfl rfl)) ?_
       refine Tk 27 (tf 28 36) rfl (YI_v (v := .int .i64 (((((ga bs 0).1.getD k pt0).bl).getD q (0, 0, 0, 0, false)).2.2.1)) rfl (fun w' hw' => r_load (v := .int .i64 (((((ga bs 0).1.getD k pt0).bl).getD q (0, 0, 0, 0, false)).2.2.1)) isAgg3 rfl (hw'.cellk (hc34 2 (by decide))))) ?_
       refine Tk 28 (tf 29 36) rfl (YI_v (v := .pointer (some ⟨B16, 8, none⟩)) rfl (fun w' hw' => r_fld underlying45 rfl sizeOf43 rfl rfl)) ?_
       refine Tk 29 (tf 30 36) rfl (YI_v (v := .slice ba19 bm19 bc19) rfl (fun w' hw' => r_load isAgg43 rfl (by rw [(hb16.upd0 hw').cell]; rfl))) ?_
       refine Tk 30 (tf 31 36) rfl (YI_v (v := .int .i64 ((q : Nat) : Int)) rfl (fun w' hw' => r_mv (v := .int .i64 ((q : Nat) : Int)) rfl)) ?_
       obtain ⟨ib35, io35, ha35, hib35, hc35⟩ := Sl.rat (0, 0, 0, 0, false) encK_len (by decide) (hB20) (i := q) (by omega)
       refine Tk 31 (tf 32 36) rfl (YI_v (v := .pointer (some ⟨ib35, io35 + q * 5, none⟩)) rfl (fun w' hw' => r_idx (b := ib35) (off := io35) (m := bm19) (c := bc19) (o' := io35 + q * 5) underlying43 sizeOf51 (by rw [← ha35]; rfl) rfl (by omega) (by omega) (by omega))) ?_
       refine Tk 32 (tf 33 36) rfl (YI_v (v := .pointer (some ⟨ib35, io35 + q * 5 + 2, none⟩)) rfl (fun w' hw' => r_fld underlying51 rfl sizeOf3 rfl rfl)) ?_
       refine Tk 33 (tf 34 36) rfl (YI_v (v := .int .i64 (((((ga bs 0).1.getD k pt0).bl).getD q (0, 0, 0, 0, false)).2.2.1)) rfl (fun w' hw' => r_load (v := .int .i64 (((((ga bs 0).1.getD k pt0).bl).getD q (0, 0, 0, 0, false)).2.2.1)) isAgg3 rfl (hw'.cellk (hc35 2 (by decide))))) ?_
       refine Tk 34 (tf 35 36) rfl (YI_v (v := .bool (decide ((((((ga bs 0).1.getD k pt0).bl).getD q (0, 0, 0, 0, false)).2.2.1) ≠ (((((ga bs 0).1.getD k pt0).bl).getD q (0, 0, 0, 0, false)).2.2.1)))) rfl (fun w' hw' => r_ne rfl rfl)) ?_
       refine Tk 35 (tf 36 36) rfl (YI_v rfl (fun w' hw' => r_pick_f (v := .bool (decide ((((((ga bs 0).1.getD k pt0).bl).getD q (0, 0, 0, 0, false)).2.2.1) ≠ (((((ga bs 0).1.getD k pt0).bl).getD q (0, 0, 0, 0, false)).2.2.1)))) rfl rfl)) ?_
       intro w36 hU36
       have hzw36 := hU36.size
       replace HL29 := HL29.trans0 hU36
       refine Wa_done (by kernel_rfl) ?_
       have q15 : ¬ ((((((ga bs 0).1.getD k pt0).bl).getD q (0, 0, 0, 0, false)).2.2.1) ≠ (((((ga bs 0).1.getD k pt0).bl).getD q (0, 0, 0, 0, false)).2.2.1)) := (by omega)
       rw [decide_eq_false q15]
       refine W_cond_f rfl ?_
       refine W_skip (W_region ?_)
       refine Wmv (.int .i64 ((q : Nat) : Int)) ?_
       refine Wl_v (r_add rfl rfl (wi64 (by omega) (by omega))) ?_
       refine Was (.int .i64 (((q : Nat) : Int) + 1)) ?_
       refine Wl_nil ?_
       refine ⟨_, ?_, (q + 1), rfl, rfl, ⟨rfl, rfl, rfl, rfl, rfl, rfl, rfl, (Eq.trans (b := .int .i64 (((q : Nat) : Int) + 1)) rfl (vint (by omega))), rfl, rfl, rfl, rfl, rfl, rfl, rfl, rfl, rfl, rfl, rfl, rfl, rfl, rfl, rfl, rfl, rfl, rfl, rfl, rfl, rfl, rfl, rfl, rfl, rfl, rfl, rfl, rfl, rfl, rfl, rfl, rfl, rfl, rfl, trivial⟩, (by omega), HL29⟩
       omega
      rw [decide_eq_false q13]
      refine W_cond_f rfl ?_
      refine W_exit ?_
      refine W_region ?_
      refine Wmv (.int .i64 ((k : Nat) : Int)) ?_
      refine Wl_v (r_add rfl rfl (wi64 (by omega) (by omega))) ?_
      refine Was (.int .i64 (((k : Nat) : Int) + 1)) ?_
      refine Wl_nil ?_
      refine ⟨_, ?_, (k + 1), rfl, rfl, ⟨rfl, rfl, rfl, rfl, (Eq.trans (b := .int .i64 (((k : Nat) : Int) + 1)) rfl (vint (by omega))), trivial⟩, (by omega), HL15⟩
      omega
     rw [decide_eq_false q10]
     refine Tk 28 (tf 29 52) rfl (YI_v (v := .bool false) rfl (fun w' hw' => r_neb (a := false) (b := false) underlying4 rfl rfl)) ?_
     refine Tk 29 (tf 30 52) rfl (YI_v rfl (fun w' hw' => r_pick_f (v := .bool false) rfl rfl)) ?_
     refine Tk 30 (tf 31 52) rfl (YI_v (v := .bool false) rfl (fun w' hw' => r_mv (v := .bool false) rfl)) ?_
     refine Tk 31 (tf 32 52) rfl (YI_v (v := .slice a12 m12 c12) rfl (fun w' hw' => r_mv (v := .slice a12 m12 c12) rfl)) ?_
     refine Tk 32 (tf 33 52) rfl (YI_v (v := .int .i64 ((k : Nat) : Int)) rfl (fun w' hw' => r_mv (v := .int .i64 ((k : Nat) : Int)) rfl)) ?_
     obtain ⟨ib37, io37, ha37, hib37, hc37⟩ := Sl.rat pv0 encP_len (by decide) (hS13) (i := k) (by omega)
     rw [hbe23] at hc37
     refine Tk 33 (tf 34 52) rfl (YI_v (v := .pointer (some ⟨ib37, io37 + k * 10, none⟩)) rfl (fun w' hw' => r_idx (b := ib37) (off := io37) (m := m12) (c := c12) (o' := io37 + k * 10) underlying57 sizeOf45 (by rw [← ha37]; rfl) rfl (by omega) (by omega) (by omega))) ?_
     refine Tk 34 (tf 35 52) rfl (YI_v (v := .pointer (some ⟨ib37, io37 + k * 10 + 4, none⟩)) rfl (fun w' hw' => r_fld underlying45 rfl sizeOf41 rfl rfl)) ?_
     refine Tk 35 (tf 36 52) rfl (YI_v (v := .agg #[.int .i64 (((ga bs 0).1.getD k pt0).hd.1), .int .i64 (((ga bs 0).1.getD k pt0).hd.2.1), .int .u32 (((ga bs 0).1.getD k pt0).hd.2.2.1), .bool (decide (((ga bs 0).1.getD k pt0).hd.2.2.2 = true))]) rfl (fun w' hw' => r_loada (cs := [.int .i64 (((ga bs 0).1.getD k pt0).hd.1), .int .i64 (((ga bs 0).1.getD k pt0).hd.2.1), .int .u32 (((ga bs 0).1.getD k pt0).hd.2.2.1), .bool (decide (((ga bs 0).1.getD k pt0).hd.2.2.2 = true))]) isAgg41 sizeOf41 rfl rfl (fun j hj => by have h9 := hw'.cellsk (cs := [.int .i64 (((ga bs 0).1.getD k pt0).at_), .int .i64 (((ga bs 0).1.getD k pt0).sz), .bool (decide (((ga bs 0).1.getD k pt0).sk = true)), .int .i64 (((ga bs 0).1.getD k pt0).pl), .int .i64 (((ga bs 0).1.getD k pt0).hd.1), .int .i64 (((ga bs 0).1.getD k pt0).hd.2.1), .int .u32 (((ga bs 0).1.getD k pt0).hd.2.2.1), .bool (decide (((ga bs 0).1.getD k pt0).hd.2.2.2 = true)), .slice ba23 bm19 bc23, .int .u32 (((ga bs 0).1.getD k pt0).ck)]) (sz := 10) rfl hc37 (4 + j) (by have h8 : j < 4 := hj; omega); rw [← Nat.add_assoc] at h9; rw [h9]; match j, hj with | 0, _ => rfl | 1, _ => rfl | 2, _ => rfl | 3, _ => rfl))) ?_
     refine Tk 36 (tf 37 52) rfl (YI_v (v := .pointer (some ⟨B16, 4, none⟩)) rfl (fun w' hw' => r_fld underlying45 rfl sizeOf41 rfl rfl)) ?_
     refine Tk 37 (tf 38 52) rfl (YI_v (v := .agg #[.int .i64 (((ga bs 0).1.getD k pt0).hd.1), .int .i64 (((ga bs 0).1.getD k pt0).hd.2.1), .int .u32 (((ga bs 0).1.getD k pt0).hd.2.2.1), .bool (decide (((ga bs 0).1.getD k pt0).hd.2.2.2 = true))]) rfl (fun w' hw' => r_loada (b := B16) (off := 4) (cs := [.int .i64 (((ga bs 0).1.getD k pt0).hd.1), .int .i64 (((ga bs 0).1.getD k pt0).hd.2.1), .int .u32 (((ga bs 0).1.getD k pt0).hd.2.2.1), .bool (decide (((ga bs 0).1.getD k pt0).hd.2.2.2 = true))]) isAgg41 sizeOf41 rfl rfl (fun j hj => by rw [(hb16.upd0 hw').cell]; match j, hj with | 0, _ => rfl | 1, _ => rfl | 2, _ => rfl | 3, _ => rfl))) ?_
     refine Tk 38 (tf 39 52) rfl (YI_v (v := .bool (!decide ((((ga bs 0).1.getD k pt0).hd.1) = (((ga bs 0).1.getD k pt0).hd.1) ∧ (((ga bs 0).1.getD k pt0).hd.2.1) = (((ga bs 0).1.getD k pt0).hd.2.1) ∧ (((ga bs 0).1.getD k pt0).hd.2.2.1) = (((ga bs 0).1.getD k pt0).hd.2.2.1) ∧ (decide (((ga bs 0).1.getD k pt0).hd.2.2.2 = true)) = (decide (((ga bs 0).1.getD k pt0).hd.2.2.2 = true))))) rfl (fun w' hw' => r_neag (pp := (((ga bs 0).1.getD k pt0).hd.1) = (((ga bs 0).1.getD k pt0).hd.1) ∧ (((ga bs 0).1.getD k pt0).hd.2.1) = (((ga bs 0).1.getD k pt0).hd.2.1) ∧ (((ga bs 0).1.getD k pt0).hd.2.2.1) = (((ga bs 0).1.getD k pt0).hd.2.2.1) ∧ (decide (((ga bs 0).1.getD k pt0).hd.2.2.2 = true)) = (decide (((ga bs 0).1.getD k pt0).hd.2.2.2 = true))) underlying41 (by kernel_rfl) (by kernel_rfl) rfl rfl (fun w => eqf_int (by decide) underlying3 isAgg3 rfl rfl (fun w => eqf_int (by decide) underlying3 isAgg3 rfl rfl (fun w => eqf_int (by decide) underlying39 isAgg39 rfl rfl (fun w => eqf_bool (by decide) underlying4 isAgg4 rfl rfl (fun w => eqf_nil))))) (by simp [Bool.decide_and]))) ?_
     refine Tk 39 (tf 40 52) rfl (YI_v rfl (fun w' hw' => r_pick_f (v := .bool (!decide ((((ga bs 0).1.getD k pt0).hd.1) = (((ga bs 0).1.getD k pt0).hd.1) ∧ (((ga bs 0).1.getD k pt0).hd.2.1) = (((ga bs 0).1.getD k pt0).hd.2.1) ∧ (((ga bs 0).1.getD k pt0).hd.2.2.1) = (((ga bs 0).1.getD k pt0).hd.2.2.1) ∧ (decide (((ga bs 0).1.getD k pt0).hd.2.2.2 = true)) = (decide (((ga bs 0).1.getD k pt0).hd.2.2.2 = true))))) rfl rfl)) ?_
     refine Tk 40 (tf 41 52) rfl (YI_v (v := .bool (!decide ((((ga bs 0).1.getD k pt0).hd.1) = (((ga bs 0).1.getD k pt0).hd.1) ∧ (((ga bs 0).1.getD k pt0).hd.2.1) = (((ga bs 0).1.getD k pt0).hd.2.1) ∧ (((ga bs 0).1.getD k pt0).hd.2.2.1) = (((ga bs 0).1.getD k pt0).hd.2.2.1) ∧ (decide (((ga bs 0).1.getD k pt0).hd.2.2.2 = true)) = (decide (((ga bs 0).1.getD k pt0).hd.2.2.2 = true))))) rfl (fun w' hw' => r_mv (v := .bool (!decide ((((ga bs 0).1.getD k pt0).hd.1) = (((ga bs 0).1.getD k pt0).hd.1) ∧ (((ga bs 0).1.getD k pt0).hd.2.1) = (((ga bs 0).1.getD k pt0).hd.2.1) ∧ (((ga bs 0).1.getD k pt0).hd.2.2.1) = (((ga bs 0).1.getD k pt0).hd.2.2.1) ∧ (decide (((ga bs 0).1.getD k pt0).hd.2.2.2 = true)) = (decide (((ga bs 0).1.getD k pt0).hd.2.2.2 = true))))) rfl)) ?_
     have q16 : (((ga bs 0).1.getD k pt0).hd.1) = (((ga bs 0).1.getD k pt0).hd.1) ∧ (((ga bs 0).1.getD k pt0).hd.2.1) = (((ga bs 0).1.getD k pt0).hd.2.1) ∧ (((ga bs 0).1.getD k pt0).hd.2.2.1) = (((ga bs 0).1.getD k pt0).hd.2.2.1) ∧ (decide (((ga bs 0).1.getD k pt0).hd.2.2.2 = true)) = (decide (((ga bs 0).1.getD k pt0).hd.2.2.2 = true)) := ⟨rfl, rfl, rfl, rfl⟩
     rw [decide_eq_true q16]
     simp only [Bool.not_true, Bool.not_false]
     refine Tk 41 (tf 42 52) rfl (YI_v (v := .slice a12 m12 c12) rfl (fun w' hw' => r_mv (v := .slice a12 m12 c12) rfl)) ?_
     refine Tk 42 (tf 43 52) rfl (YI_v (v := .int .i64 ((k : Nat) : Int)) rfl (fun w' hw' => r_mv (v := .int .i64 ((k : Nat) : Int)) rfl)) ?_
     obtain ⟨ib38, io38, ha38, hib38, hc38⟩ := Sl.rat pv0 encP_len (by decide) (hS13) (i := k) (by omega)
     rw [hbe23] at hc38
     refine Tk 43 (tf 44 52) rfl (YI_v (v := .pointer (some ⟨ib38, io38 + k * 10, none⟩)) rfl (fun w' hw' => r_idx (b := ib38) (off := io38) (m := m12) (c := c12) (o' := io38 + k * 10) underlying57 sizeOf45 (by rw [← ha38]; rfl) rfl (by omega) (by omega) (by omega))) ?_
     refine Tk 44 (tf 45 52) rfl (YI_v (v := .pointer (some ⟨ib38, io38 + k * 10 + 8, none⟩)) rfl (fun w' hw' => r_fld underlying45 rfl sizeOf43 rfl rfl)) ?_
     refine Tk 45 (tf 46 52) rfl (YI_v (v := .slice ba23 bm19 bc23) rfl (fun w' hw' => r_load (v := .slice ba23 bm19 bc23) isAgg43 rfl (hw'.cellk (hc38 8 (by decide))))) ?_
     refine Tk 46 (tf 47 52) rfl (YI_v (v := .int .i64 ((bm19 : Nat) : Int)) rfl (fun w' hw' => r_len underlying43 rfl)) ?_
     refine Tk 47 (tf 48 52) rfl (YI_v (v := .pointer (some ⟨B16, 8, none⟩)) rfl (fun w' hw' => r_fld underlying45 rfl sizeOf43 rfl rfl)) ?_
     refine Tk 48 (tf 49 52) rfl (YI_v (v := .slice ba19 bm19 bc19) rfl (fun w' hw' => r_load isAgg43 rfl (by rw [(hb16.upd0 hw').cell]; rfl))) ?_
     refine Tk 49 (tf 50 52) rfl (YI_v (v := .int .i64 ((bm19 : Nat) : Int)) rfl (fun w' hw' => r_len underlying43 rfl)) ?_
     refine Tk 50 (tf 51 52) rfl (YI_v (v := .bool (decide (((bm19 : Nat) : Int) ≠ ((bm19 : Nat) : Int)))) rfl (fun w' hw' => r_ne rfl rfl)) ?_
     refine Tk 51 (tf 52 52) rfl (YI_v rfl (fun w' hw' => r_pick_f (v := .bool (decide (((bm19 : Nat) : Int) ≠ ((bm19 : Nat) : Int)))) rfl rfl)) ?_
     intro w39 hU39
     have hzw39 := hU39.size
     replace hS13 := hS13.upd0 hU39
     replace HL15 := HL15.trans0 hU39
     replace hb16 := hb16.upd0 hU39
     replace hB20 := hB20.upd0 hU39
     replace hB23 := hB23.upd0 hU39
     refine Wa_done (by kernel_rfl) ?_
     have q17 : ¬ (((bm19 : Nat) : Int) ≠ ((bm19 : Nat) : Int)) := (by omega)
     rw [decide_eq_false q17]
     refine W_cond_f rfl ?_
     refine W_skip (W_seq (W_region ?_))
     refine Was (.int .i64 0) ?_
     refine Wl_nil (W_block ?_)
     refine W_loop (fun mu ρ ds w' => ∃ (q : Nat), bm19 - q = mu ∧ ds = [] ∧ Liv ρ [(0, .slice a n c), (5, .slice a3 m3 c3), (7, .slice a5 m5 c5), (9, .slice a12 m12 c12), (11, .int .i64 ((k : Nat) : Int)), (12, .int .i64 0), (13, .pointer (some ⟨B16, 0, none⟩)), (14, .int .i64 ((q : Nat) : Int)), (98, .slice a12 m12 c12), (99, .int .i64 ((k : Nat) : Int)), (100, .pointer (some ⟨ib24, io24 + k * 10, none⟩)), (101, .pointer (some ⟨ib24, io24 + k * 10 + 1, none⟩)), (102, .int .i64 (((ga bs 0).1.getD k pt0).sz)), (103, .pointer (some ⟨B16, 1, none⟩)), (104, .int .i64 (((ga bs 0).1.getD k pt0).sz)), (105, .bool false), (108, .slice a12 m12 c12), (109, .int .i64 ((k : Nat) : Int)), (110, .pointer (some ⟨ib25, io25 + k * 10, none⟩)), (111, .pointer (some ⟨ib25, io25 + k * 10 + 2, none⟩)), (112, .bool false), (113, .pointer (some ⟨B16, 2, none⟩)), (114, .bool false), (115, .bool false), (118, .slice a12 m12 c12), (119, .int .i64 ((k : Nat) : Int)), (120, .pointer (some ⟨ib37, io37 + k * 10, none⟩)), (121, .pointer (some ⟨ib37, io37 + k * 10 + 4, none⟩)), (122, .agg #[.int .i64 (((ga bs 0).1.getD k pt0).hd.1), .int .i64 (((ga bs 0).1.getD k pt0).hd.2.1), .int .u32 (((ga bs 0).1.getD k pt0).hd.2.2.1), .bool (decide (((ga bs 0).1.getD k pt0).hd.2.2.2 = true))]), (123, .pointer (some ⟨B16, 4, none⟩)), (124, .agg #[.int .i64 (((ga bs 0).1.getD k pt0).hd.1), .int .i64 (((ga bs 0).1.getD k pt0).hd.2.1), .int .u32 (((ga bs 0).1.getD k pt0).hd.2.2.1), .bool (decide (((ga bs 0).1.getD k pt0).hd.2.2.2 = true))]), (125, .bool false), (128, .slice a12 m12 c12), (129, .int .i64 ((k : Nat) : Int)), (130, .pointer (some ⟨ib38, io38 + k * 10, none⟩)), (131, .pointer (some ⟨ib38, io38 + k * 10 + 8, none⟩)), (132, .slice ba23 bm19 bc23), (133, .int .i64 ((bm19 : Nat) : Int)), (134, .pointer (some ⟨B16, 8, none⟩)), (135, .slice ba19 bm19 bc19), (136, .int .i64 ((bm19 : Nat) : Int)), (137, .bool false)] ∧ q ≤ bm19 ∧ Upd No w39 w') _ ⟨0, rfl, rfl, ⟨rfl, rfl, rfl, rfl, rfl, rfl, rfl, (by first | rfl | exact vint (by omega) | exact vint (by simp)), rfl, rfl, rfl, rfl, rfl, rfl, rfl, rfl, rfl, rfl, rfl, rfl, rfl, rfl, rfl, rfl, rfl, rfl, rfl, rfl, rfl, rfl, rfl, rfl, rfl, rfl, rfl, rfl, rfl, rfl, rfl, rfl, rfl, rfl, trivial⟩, (by omega), Upd.refl _ _⟩ ?_
     rintro m40 ρ40 ds40 w40 ⟨q, rfl, rfl, hl40, hq, hU40⟩
     obtain ⟨ρ40x, rfl⟩ : ∃ ρx, ρ40 = upds ρx [(0, .slice a n c), (5, .slice a3 m3 c3), (7, .slice a5 m5 c5), (9, .slice a12 m12 c12), (11, .int .i64 ((k : Nat) : Int)), (12, .int .i64 0), (13, .pointer (some ⟨B16, 0, none⟩)), (14, .int .i64 ((q : Nat) : Int)), (98, .slice a12 m12 c12), (99, .int .i64 ((k : Nat) : Int)), (100, .pointer (some ⟨ib24, io24 + k * 10, none⟩)), (101, .pointer (some ⟨ib24, io24 + k * 10 + 1, none⟩)), (102, .int .i64 (((ga bs 0).1.getD k pt0).sz)), (103, .pointer (some ⟨B16, 1, none⟩)), (104, .int .i64 (((ga bs 0).1.getD k pt0).sz)), (105, .bool false), (108, .slice a12 m12 c12), (109, .int .i64 ((k : Nat) : Int)), (110, .pointer (some ⟨ib25, io25 + k * 10, none⟩)), (111, .pointer (some ⟨ib25, io25 + k * 10 + 2, none⟩)), (112, .bool false), (113, .pointer (some ⟨B16, 2, none⟩)), (114, .bool false), (115, .bool false), (118, .slice a12 m12 c12), (119, .int .i64 ((k : Nat) : Int)), (120, .pointer (some ⟨ib37, io37 + k * 10, none⟩)), (121, .pointer (some ⟨ib37, io37 + k * 10 + 4, none⟩)), (122, .agg #[.int .i64 (((ga bs 0).1.getD k pt0).hd.1), .int .i64 (((ga bs 0).1.getD k pt0).hd.2.1), .int .u32 (((ga bs 0).1.getD k pt0).hd.2.2.1), .bool (decide (((ga bs 0).1.getD k pt0).hd.2.2.2 = true))]), (123, .pointer (some ⟨B16, 4, none⟩)), (124, .agg #[.int .i64 (((ga bs 0).1.getD k pt0).hd.1), .int .i64 (((ga bs 0).1.getD k pt0).hd.2.1), .int .u32 (((ga bs 0).1.getD k pt0).hd.2.2.1), .bool (decide (((ga bs 0).1.getD k pt0).hd.2.2.2 = true))]), (125, .bool false), (128, .slice a12 m12 c12), (129, .int .i64 ((k : Nat) : Int)), (130, .pointer (some ⟨ib38, io38 + k * 10, none⟩)), (131, .pointer (some ⟨ib38, io38 + k * 10 + 8, none⟩)), (132, .slice ba23 bm19 bc23), (133, .int .i64 ((bm19 : Nat) : Int)), (134, .pointer (some ⟨B16, 8, none⟩)), (135, .slice ba19 bm19 bc19), (136, .int .i64 ((bm19 : Nat) : Int)), (137, .bool false)] := ⟨_, upds_self hl40⟩
     clear hl40
     have hzw40 := hU40.size
     replace hS13 := hS13.upd0 hU40
     replace HL15 := HL15.trans0 hU40
     replace hb16 := hb16.upd0 hU40
     replace hB20 := hB20.upd0 hU40
     replace hB23 := hB23.upd0 hU40
     have hox := ga_batd (bs := bs) (by omega) k q
     have hoy := ga_batd (bs := cs) (by omega) (((k : Nat) : Int) - ((m3 : Nat) : Int)).toNat q
     have hsk := (ga_okd hb (by omega) k).2.2
     have hsy := (ga_okd hb2 (by omega) (((k : Nat) : Int) - ((m3 : Nat) : Int)).toNat).2.2
     have HL40 := hU40
     refine W_seq (W_seq (W_region ?_))
     refine Wmv (.int .i64 ((q : Nat) : Int)) ?_
     refine Wl_v (r_fld underlying45 rfl sizeOf43 rfl rfl) ?_
     refine Wl_load (v := .slice ba19 bm19 bc19) isAgg43 rfl hb16 rfl ?_
     refine Wl_v (r_len underlying43 rfl) ?_
     refine Wl_v (r_lt rfl rfl) ?_
     refine Wl_nil ?_
     by_cases q18 : ((q : Nat) : Int) < ((bm19 : Nat) : Int)
     ·rw [decide_eq_true q18]
      refine W_cond_t rfl ?_
      refine W_skip (W_seq (W_block (W_seq ?_)))
      refine W_drawt rfl (l0 := tf 0 36) (by kernel_rfl) ?_
      refine Tk 0 (tf 1 36) rfl (YI_v (v := .slice a12 m12 c12) rfl (fun w' hw' => r_mv (v := .slice a12 m12 c12) rfl)) ?_
      refine Tk 1 (tf 2 36) rfl (YI_v (v := .int .i64 ((k : Nat) : Int)) rfl (fun w' hw' => r_mv (v := .int .i64 ((k : Nat) : Int)) rfl)) ?_
      obtain ⟨ib41, io41, ha41, hib41, hc41⟩ := Sl.rat pv0 encP_len (by decide) (hS13) (i := k) (by omega)
      rw [hbe23] at hc41
      refine Tk 2 (tf 3 36) rfl (YI_v (v := .pointer (some ⟨ib41, io41 + k * 10, none⟩)) rfl (fun w' hw' => r_idx (b := ib41) (off := io41) (m := m12) (c := c12) (o' := io41 + k * 10) underlying57 sizeOf45 (by rw [← ha41]; rfl) rfl (by omega) (by omega) (by omega))) ?_
      refine Tk 3 (tf 4 36) rfl (YI_v (v := .pointer (some ⟨ib41, io41 + k * 10 + 8, none⟩)) rfl (fun w' hw' => r_fld underlying45 rfl sizeOf43 rfl rfl)) ?_
      refine Tk 4 (tf 5 36) rfl (YI_v (v := .slice ba23 bm19 bc23) rfl (fun w' hw' => r_load (v := .slice ba23 bm19 bc23) isAgg43 rfl (hw'.cellk (hc41 8 (by decide))))) ?_
      refine Tk 5 (tf 6 36) rfl (YI_v (v := .int .i64 ((q : Nat) : Int)) rfl (fun w' hw' => r_mv (v := .int .i64 ((q : Nat) : Int)) rfl)) ?_
      obtain ⟨ib42, io42, ha42, hib42, hc42⟩ := Sl.rat (0, 0, 0, 0, false) encK_len (by decide) (hB23) (i := q) (by omega)
      refine Tk 6 (tf 7 36) rfl (YI_v (v := .pointer (some ⟨ib42, io42 + q * 5, none⟩)) rfl (fun w' hw' => r_idx (b := ib42) (off := io42) (m := bm19) (c := bc23) (o' := io42 + q * 5) underlying43 sizeOf51 (by rw [← ha42]; rfl) rfl (by omega) (by omega) (by omega))) ?_
      refine Tk 7 (tf 8 36) rfl (YI_v (v := .pointer (some ⟨ib42, io42 + q * 5, none⟩)) rfl (fun w' hw' => r_fld underlying51 rfl sizeOf3 rfl rfl)) ?_
      refine Tk 8 (tf 9 36) rfl (YI_v (v := .int .i64 (((((ga bs 0).1.getD k pt0).bl).getD q (0, 0, 0, 0, false)).1)) rfl (fun w' hw' => r_load (v := .int .i64 (((((ga bs 0).1.getD k pt0).bl).getD q (0, 0, 0, 0, false)).1)) isAgg3 rfl (hw'.cellk (hc42 0 (by decide))))) ?_
      refine Tk 9 (tf 10 36) rfl (YI_v (v := .pointer (some ⟨B16, 8, none⟩)) rfl (fun w' hw' => r_fld underlying45 rfl sizeOf43 rfl rfl)) ?_
      refine Tk 10 (tf 11 36) rfl (YI_v (v := .slice ba19 bm19 bc19) rfl (fun w' hw' => r_load isAgg43 rfl (by rw [(hb16.upd0 hw').cell]; rfl))) ?_
      refine Tk 11 (tf 12 36) rfl (YI_v (v := .int .i64 ((q : Nat) : Int)) rfl (fun w' hw' => r_mv (v := .int .i64 ((q : Nat) : Int)) rfl)) ?_
      obtain ⟨ib43, io43, ha43, hib43, hc43⟩ := Sl.rat (0, 0, 0, 0, false) encK_len (by decide) (hB20) (i := q) (by omega)
      refine Tk 12 (tf 13 36) rfl (YI_v (v := .pointer (some ⟨ib43, io43 + q * 5, none⟩)) rfl (fun w' hw' => r_idx (b := ib43) (off := io43) (m := bm19) (c := bc19) (o' := io43 + q * 5) underlying43 sizeOf51 (by rw [← ha43]; rfl) rfl (by omega) (by omega) (by omega))) ?_
      refine Tk 13 (tf 14 36) rfl (YI_v (v := .pointer (some ⟨ib43, io43 + q * 5, none⟩)) rfl (fun w' hw' => r_fld underlying51 rfl sizeOf3 rfl rfl)) ?_
      refine Tk 14 (tf 15 36) rfl (YI_v (v := .int .i64 (((((ga bs 0).1.getD k pt0).bl).getD q (0, 0, 0, 0, false)).1)) rfl (fun w' hw' => r_load (v := .int .i64 (((((ga bs 0).1.getD k pt0).bl).getD q (0, 0, 0, 0, false)).1)) isAgg3 rfl (hw'.cellk (hc43 0 (by decide))))) ?_
      refine Tk 15 (tf 16 36) rfl (YI_v (v := .int .i64 0) rfl (fun w' hw' => r_mv (v := .int .i64 0) rfl)) ?_
      refine Tk 16 (tf 17 36) rfl (YI_v (v := .int .i64 ((((((ga bs 0).1.getD k pt0).bl).getD q (0, 0, 0, 0, false)).1) + 0)) rfl (fun w' hw' => r_add rfl rfl (wi64 (by omega) (by omega)))) ?_
      refine Tk 17 (tf 18 36) rfl (YI_v (v := .bool (decide ((((((ga bs 0).1.getD k pt0).bl).getD q (0, 0, 0, 0, false)).1) ≠ ((((((ga bs 0).1.getD k pt0).bl).getD q (0, 0, 0, 0, false)).1) + 0)))) rfl (fun w' hw' => r_ne rfl rfl)) ?_
      refine Tk 18 (tf 19 36) rfl (YI_v (v := .bool (decide ((((((ga bs 0).1.getD k pt0).bl).getD q (0, 0, 0, 0, false)).1) ≠ ((((((ga bs 0).1.getD k pt0).bl).getD q (0, 0, 0, 0, false)).1) + 0)))) rfl (fun w' hw' => r_mv (v := .bool (decide ((((((ga bs 0).1.getD k pt0).bl).getD q (0, 0, 0, 0, false)).1) ≠ ((((((ga bs 0).1.getD k pt0).bl).getD q (0, 0, 0, 0, false)).1) + 0)))) rfl)) ?_
      have q19 : ¬ ((((((ga bs 0).1.getD k pt0).bl).getD q (0, 0, 0, 0, false)).1) ≠ ((((((ga bs 0).1.getD k pt0).bl).getD q (0, 0, 0, 0, false)).1) + 0)) := (by omega)
      rw [decide_eq_false q19]
      refine Tk 19 (tf 20 36) rfl (YI_v (v := .slice a12 m12 c12) rfl (fun w' hw' => r_mv (v := .slice a12 m12 c12) rfl)) ?_
      refine Tk 20 (tf 21 36) rfl (YI_v (v := .int .i64 ((k : Nat) : Int)) rfl (fun w' hw' => r_mv (v := .int .i64 ((k : Nat) : Int)) rfl)) ?_
      obtain ⟨ib44, io44, ha44, hib44, hc44⟩ := Sl.rat pv0 encP_len (by decide) (hS13) (i := k) (by omega)
      rw [hbe23] at hc44
      refine Tk 21 (tf 22 36) rfl (YI_v (v := .pointer (some ⟨ib44, io44 + k * 10, none⟩)) rfl (fun w' hw' => r_idx (b := ib44) (off := io44) (m := m12) (c := c12) (o' := io44 + k * 10) underlying57 sizeOf45 (by rw [← ha44]; rfl) rfl (by omega) (by omega) (by omega))) ?_
      refine Tk 22 (tf 23 36) rfl (YI_v (v := .pointer (some ⟨ib44, io44 + k * 10 + 8, none⟩)) rfl (fun w' hw' => r_fld underlying45 rfl sizeOf43 rfl rfl)) ?_
      refine Tk 23 (tf 24 36) rfl (YI_v (v := .slice ba23 bm19 bc23) rfl (fun w' hw' => r_load (v := .slice ba23 bm19 bc23) isAgg43 rfl (hw'.cellk (hc44 8 (by decide))))) ?_
      refine Tk 24 (tf 25 36) rfl (YI_v (v := .int .i64 ((q : Nat) : Int)) rfl (fun w' hw' => r_mv (v := .int .i64 ((q : Nat) : Int)) rfl)) ?_
      obtain ⟨ib45, io45, ha45, hib45, hc45⟩ := Sl.rat (0, 0, 0, 0, false) encK_len (by decide) (hB23) (i := q) (by omega)
      refine Tk 25 (tf 26 36) rfl (YI_v (v := .pointer (some ⟨ib45, io45 + q * 5, none⟩)) rfl (fun w' hw' => r_idx (b := ib45) (off := io45) (m := bm19) (c := bc23) (o' := io45 + q * 5) underlying43 sizeOf51 (by rw [← ha45]; rfl) rfl (by omega) (by omega) (by omega))) ?_
      refine Tk 26 (tf 27 36) rfl (YI_v (v := .pointer (some ⟨ib45, io45 + q * 5 + 2, none⟩)) rfl (fun w' hw' => r_fld underlying51 rfl sizeOf3 rfl rfl)) ?_
      refine Tk 27 (tf 28 36) rfl (YI_v (v := .int .i64 (((((ga bs 0).1.getD k pt0).bl).getD q (0, 0, 0, 0, false)).2.2.1)) rfl (fun w' hw' => r_load (v := .int .i64 (((((ga bs 0).1.getD k pt0).bl).getD q (0, 0, 0, 0, false)).2.2.1)) isAgg3 rfl (hw'.cellk (hc45 2 (by decide))))) ?_
      refine Tk 28 (tf 29 36) rfl (YI_v (v := .pointer (some ⟨B16, 8, none⟩)) rfl (fun w' hw' => r_fld underlying45 rfl sizeOf43 rfl rfl)) ?_
      refine Tk 29 (tf 30 36) rfl (YI_v (v := .slice ba19 bm19 bc19) rfl (fun w' hw' => r_load isAgg43 rfl (by rw [(hb16.upd0 hw').cell]; rfl))) ?_
      refine Tk 30 (tf 31 36) rfl (YI_v (v := .int .i64 ((q : Nat) : Int)) rfl (fun w' hw' => r_mv (v := .int .i64 ((q : Nat) : Int)) rfl)) ?_
      obtain ⟨ib46, io46, ha46, hib46, hc46⟩ := Sl.rat (0, 0, 0, 0, false) encK_len (by decide) (hB20) (i := q) (by omega)
      refine Tk 31 (tf 32 36) rfl (YI_v (v := .pointer (some ⟨ib46, io46 + q * 5, none⟩)) rfl (fun w' hw' => r_idx (b := ib46) (off := io46) (m := bm19) (c := bc19) (o' := io46 + q * 5) underlying43 sizeOf51 (by rw [← ha46]; rfl) rfl (by omega) (by omega) (by omega))) ?_
      refine Tk 32 (tf 33 36) rfl (YI_v (v := .pointer (some ⟨ib46, io46 + q * 5 + 2, none⟩)) rfl (fun w' hw' => r_fld underlying51 rfl sizeOf3 rfl rfl)) ?_
      refine Tk 33 (tf 34 36) rfl (YI_v (v := .int .i64 (((((ga bs 0).1.getD k pt0).bl).getD q (0, 0, 0, 0, false)).2.2.1)) rfl (fun w' hw' => r_load (v := .int .i64 (((((ga bs 0).1.getD k pt0).bl).getD q (0, 0, 0, 0, false)).2.2.1)) isAgg3 rfl (hw'.cellk (hc46 2 (by decide))))) ?_
      refine Tk 34 (tf 35 36) rfl (YI_v (v := .bool (decide ((((((ga bs 0).1.getD k pt0).bl).getD q (0, 0, 0, 0, false)).2.2.1) ≠ (((((ga bs 0).1.getD k pt0).bl).getD q (0, 0, 0, 0, false)).2.2.1)))) rfl (fun w' hw' => r_ne rfl rfl)) ?_
      refine Tk 35 (tf 36 36) rfl (YI_v rfl (fun w' hw' => r_pick_f (v := .bool (decide ((((((ga bs 0).1.getD k pt0).bl).getD q (0, 0, 0, 0, false)).2.2.1) ≠ (((((ga bs 0).1.getD k pt0).bl).getD q (0, 0, 0, 0, false)).2.2.1)))) rfl rfl)) ?_
      intro w47 hU47
      have hzw47 := hU47.size
      replace HL40 := HL40.trans0 hU47
      refine Wa_done (by kernel_rfl) ?_
      have q20 : ¬ ((((((ga bs 0).1.getD k pt0).bl).getD q (0, 0, 0, 0, false)).2.2.1) ≠ (((((ga bs 0).1.getD k pt0).bl).getD q (0, 0, 0, 0, false)).2.2.1)) := (by omega)
      rw [decide_eq_false q20]
      refine W_cond_f rfl ?_
      refine W_skip (W_region ?_)
      refine Wmv (.int .i64 ((q : Nat) : Int)) ?_
      refine Wl_v (r_add rfl rfl (wi64 (by omega) (by omega))) ?_
      refine Was (.int .i64 (((q : Nat) : Int) + 1)) ?_
      refine Wl_nil ?_
      refine ⟨_, ?_, (q + 1), rfl, rfl, ⟨rfl, rfl, rfl, rfl, rfl, rfl, rfl, (Eq.trans (b := .int .i64 (((q : Nat) : Int) + 1)) rfl (vint (by omega))), rfl, rfl, rfl, rfl, rfl, rfl, rfl, rfl, rfl, rfl, rfl, rfl, rfl, rfl, rfl, rfl, rfl, rfl, rfl, rfl, rfl, rfl, rfl, rfl, rfl, rfl, rfl, rfl, rfl, rfl, rfl, rfl, rfl, rfl, trivial⟩, (by omega), HL40⟩
      omega
     rw [decide_eq_false q18]
     refine W_cond_f rfl ?_
     refine W_exit ?_
     refine W_region ?_
     refine Wmv (.int .i64 ((k : Nat) : Int)) ?_
     refine Wl_v (r_add rfl rfl (wi64 (by omega) (by omega))) ?_
     refine Was (.int .i64 (((k : Nat) : Int) + 1)) ?_
     refine Wl_nil ?_
     refine ⟨_, ?_, (k + 1), rfl, rfl, ⟨rfl, rfl, rfl, rfl, (Eq.trans (b := .int .i64 (((k : Nat) : Int) + 1)) rfl (vint (by omega))), trivial⟩, (by omega), HL15⟩
     omega
    rw [decide_eq_false q7]
    refine W_cond_f rfl ?_
    refine W_seq (W_region ?_)
    refine Wmv (.slice a5 m5 c5) ?_
    refine Wmv (.int .i64 ((k : Nat) : Int)) ?_
    refine Wmv (.slice a3 m3 c3) ?_
    refine Wl_v (r_len underlying57 rfl) ?_
    refine Wl_v (r_sub rfl rfl (wi64 (by omega) (by omega))) ?_
    refine Wl_idxr pv0 encP_len (by decide) underlying57 sizeOf45 rfl rfl hS6 (by omega) (by omega) ?_
    intro ib48 io48 hc48
    obtain ⟨ba49, bm49, bc49, hbe49⟩ := gd_part (i := (((k : Nat) : Int) - ((m3 : Nat) : Int)).toNat) hv6
    rw [hbe49] at hc48
    have hB50 := hPget hP6 hbe49 (by omega)
    have hl_hB50 := rlen encK_len (by decide) hB50
    have hc_hB50 := hB50.cap.1
    refine Wl_v (r_loada (cs := [.int .i64 (((ga cs 0).1.getD ((((k : Nat) : Int) - ((m3 : Nat) : Int)).toNat) pt0).at_), .int .i64 (((ga cs 0).1.getD ((((k : Nat) : Int) - ((m3 : Nat) : Int)).toNat) pt0).sz), .bool (decide (((ga cs 0).1.getD ((((k : Nat) : Int) - ((m3 : Nat) : Int)).toNat) pt0).sk = true)), .int .i64 (((ga cs 0).1.getD ((((k : Nat) : Int) - ((m3 : Nat) : Int)).toNat) pt0).pl), .int .i64 (((ga cs 0).1.getD ((((k : Nat) : Int) - ((m3 : Nat) : Int)).toNat) pt0).hd.1), .int .i64 (((ga cs 0).1.getD ((((k : Nat) : Int) - ((m3 : Nat) : Int)).toNat) pt0).hd.2.1), .int .u32 (((ga cs 0).1.getD ((((k : Nat) : Int) - ((m3 : Nat) : Int)).toNat) pt0).hd.2.2.1), .bool (decide (((ga cs 0).1.getD ((((k : Nat) : Int) - ((m3 : Nat) : Int)).toNat) pt0).hd.2.2.2 = true)), .slice ba49 bm49 bc49, .int .u32 (((ga cs 0).1.getD ((((k : Nat) : Int) - ((m3 : Nat) : Int)).toNat) pt0).ck)]) isAgg45 sizeOf45 rfl rfl hc48) ?_
    refine Wl_storea (off := 0) (vs := [.int .i64 (((ga cs 0).1.getD ((((k : Nat) : Int) - ((m3 : Nat) : Int)).toNat) pt0).at_), .int .i64 (((ga cs 0).1.getD ((((k : Nat) : Int) - ((m3 : Nat) : Int)).toNat) pt0).sz), .bool (decide (((ga cs 0).1.getD ((((k : Nat) : Int) - ((m3 : Nat) : Int)).toNat) pt0).sk = true)), .int .i64 (((ga cs 0).1.getD ((((k : Nat) : Int) - ((m3 : Nat) : Int)).toNat) pt0).pl), .int .i64 (((ga cs 0).1.getD ((((k : Nat) : Int) - ((m3 : Nat) : Int)).toNat) pt0).hd.1), .int .i64 (((ga cs 0).1.getD ((((k : Nat) : Int) - ((m3 : Nat) : Int)).toNat) pt0).hd.2.1), .int .u32 (((ga cs 0).1.getD ((((k : Nat) : Int) - ((m3 : Nat) : Int)).toNat) pt0).hd.2.2.1), .bool (decide (((ga cs 0).1.getD ((((k : Nat) : Int) - ((m3 : Nat) : Int)).toNat) pt0).hd.2.2.2 = true)), .slice ba49 bm49 bc49, .int .u32 (((ga cs 0).1.getD ((((k : Nat) : Int) - ((m3 : Nat) : Int)).toNat) pt0).ck)]) (cs' := [.int .i64 (((ga cs 0).1.getD ((((k : Nat) : Int) - ((m3 : Nat) : Int)).toNat) pt0).at_), .int .i64 (((ga cs 0).1.getD ((((k : Nat) : Int) - ((m3 : Nat) : Int)).toNat) pt0).sz), .bool (decide (((ga cs 0).1.getD ((((k : Nat) : Int) - ((m3 : Nat) : Int)).toNat) pt0).sk = true)), .int .i64 (((ga cs 0).1.getD ((((k : Nat) : Int) - ((m3 : Nat) : Int)).toNat) pt0).pl), .int .i64 (((ga cs 0).1.getD ((((k : Nat) : Int) - ((m3 : Nat) : Int)).toNat) pt0).hd.1), .int .i64 (((ga cs 0).1.getD ((((k : Nat) : Int) - ((m3 : Nat) : Int)).toNat) pt0).hd.2.1), .int .u32 (((ga cs 0).1.getD ((((k : Nat) : Int) - ((m3 : Nat) : Int)).toNat) pt0).hd.2.2.1), .bool (decide (((ga cs 0).1.getD ((((k : Nat) : Int) - ((m3 : Nat) : Int)).toNat) pt0).hd.2.2.2 = true)), .slice ba49 bm49 bc49, .int .u32 (((ga cs 0).1.getD ((((k : Nat) : Int) - ((m3 : Nat) : Int)).toNat) pt0).ck)]) sizeOf45 rfl rfl rfl (by simp only [List.mem_cons, List.not_mem_nil, or_false, forall_eq_or_imp, forall_eq]; exact ⟨rfl, rfl, rfl, rfl, rfl, rfl, rfl, rfl, rfl, rfl⟩) hb16 (by simp) rfl ?_
    intro w51 hU51 hzz51 hb16n
    replace hb16 := hb16n; clear hb16n
    have hzw51 := hU51.size
    replace hS13 := hS13.upd1 hU51 (show ¬ ((w11.heap.size ≤ B16 ∧ B16 < w12.heap.size)) by omega)
    replace hP13 := hP13.upd1 hU51 (by omega)
    replace HL15 := HL15.trans1 hU51 (by show (False) ∨ w14.heap.size ≤ B16; omega)
    replace hB50 := hB50.upd1 hU51 (show ¬ ((w3.heap.size ≤ B16 ∧ B16 < w5.heap.size ∧ B16 ≠ w5.heap.size)) by omega)
    refine Wl_nil (W_region ?_)
    refine Wmv (.slice a n c) ?_
    refine Wl_v (r_len underlying22 rfl) ?_
    refine Was (.int .i64 ((n : Nat) : Int)) ?_
    refine Wl_nil (W_seq (W_seq ?_))
    refine W_drawt rfl (l0 := tf 0 52) (by kernel_rfl) ?_
    refine Tk 0 (tf 1 52) rfl (YI_v (v := .slice a12 m12 c12) rfl (fun w' hw' => r_mv (v := .slice a12 m12 c12) rfl)) ?_
    refine Tk 1 (tf 2 52) rfl (YI_v (v := .int .i64 ((k : Nat) : Int)) rfl (fun w' hw' => r_mv (v := .int .i64 ((k : Nat) : Int)) rfl)) ?_
    obtain ⟨ib52, io52, ha52, hib52, hc52⟩ := Sl.rat pv0 encP_len (by decide) (hS13) (i := k) (by omega)
    obtain ⟨ba53, bm53, bc53, hbe53⟩ := gd_part (i := k) hv13
    rw [show (ga (bs ++ cs) 0).1.getD k pt0 = (psh ((n : Nat) : Int) ((ga cs 0).1.getD (((k : Nat) : Int) - ((m3 : Nat) : Int)).toNat pt0)) from by rw [hJ]; exact (show ((ga bs 0).1 ++ (ga cs 0).1.map (psh ((bs.length : Nat) : Int))).getD k pt0 = psh ((n : Nat) : Int) ((ga cs 0).1.getD (((k : Nat) : Int) - ((m3 : Nat) : Int)).toNat pt0) from by rw [show bs.length = n from by omega]; exact join_r (by omega) (by omega) (by omega))] at hbe53
    rw [hbe53] at hc52
    have hB53 := hPget hP13 hbe53 (by omega)
    rw [show (psh ((n : Nat) : Int) ((ga cs 0).1.getD (((k : Nat) : Int) - ((m3 : Nat) : Int)).toNat pt0)).bl = ((ga cs 0).1.getD (((k : Nat) : Int) - ((m3 : Nat) : Int)).toNat pt0).bl.map (bsh ((n : Nat) : Int)) from rfl] at hB53
    have hl_hB53 := rlen encK_len (by decide) hB53
    have hc_hB53 := hB53.cap.1
    have hbq : bm49 = bm53 := by rw [List.length_map] at hl_hB53; omega
    subst hbq
    refine Tk 2 (tf 3 52) rfl (YI_v (v := .pointer (some ⟨ib52, io52 + k * 10, none⟩)) rfl (fun w' hw' => r_idx (b := ib52) (off := io52) (m := m12) (c := c12) (o' := io52 + k * 10) underlying57 sizeOf45 (by rw [← ha52]; rfl) rfl (by omega) (by omega) (by omega))) ?_
    refine Tk 3 (tf 4 52) rfl (YI_v (v := .pointer (some ⟨ib52, io52 + k * 10, none⟩)) rfl (fun w' hw' => r_fld underlying45 rfl sizeOf3 rfl rfl)) ?_
    refine Tk 4 (tf 5 52) rfl (YI_v (v := .int .i64 (((ga cs 0).1.getD (((k : Nat) : Int) - ((m3 : Nat) : Int)).toNat pt0).at_ + ((n : Nat) : Int))) rfl (fun w' hw' => r_load (v := .int .i64 (((ga cs 0).1.getD (((k : Nat) : Int) - ((m3 : Nat) : Int)).toNat pt0).at_ + ((n : Nat) : Int))) isAgg3 rfl (hw'.cellk (hc52 0 (by decide))))) ?_
    refine Tk 5 (tf 6 52) rfl (YI_v (v := .pointer (some ⟨B16, 0, none⟩)) rfl (fun w' hw' => r_fld underlying45 rfl sizeOf3 rfl rfl)) ?_
    refine Tk 6 (tf 7 52) rfl (YI_v (v := .int .i64 (((ga cs 0).1.getD ((((k : Nat) : Int) - ((m3 : Nat) : Int)).toNat) pt0).at_)) rfl (fun w' hw' => r_load isAgg3 rfl (by rw [(hb16.upd0 hw').cell]; rfl))) ?_
    refine Tk 7 (tf 8 52) rfl (YI_v (v := .int .i64 ((n : Nat) : Int)) rfl (fun w' hw' => r_mv (v := .int .i64 ((n : Nat) : Int)) rfl)) ?_
    refine Tk 8 (tf 9 52) rfl (YI_v (v := .int .i64 ((((ga cs 0).1.getD ((((k : Nat) : Int) - ((m3 : Nat) : Int)).toNat) pt0).at_) + ((n : Nat) : Int))) rfl (fun w' hw' => r_add rfl rfl (wi64 (by omega) (by omega)))) ?_
    refine Tk 9 (tf 10 52) rfl (YI_v (v := .bool (decide ((((ga cs 0).1.getD (((k : Nat) : Int) - ((m3 : Nat) : Int)).toNat pt0).at_ + ((n : Nat) : Int)) ≠ ((((ga cs 0).1.getD ((((k : Nat) : Int) - ((m3 : Nat) : Int)).toNat) pt0).at_) + ((n : Nat) : Int))))) rfl (fun w' hw' => r_ne rfl rfl)) ?_
    refine Tk 10 (tf 11 52) rfl (YI_v (v := .bool (decide ((((ga cs 0).1.getD (((k : Nat) : Int) - ((m3 : Nat) : Int)).toNat pt0).at_ + ((n : Nat) : Int)) ≠ ((((ga cs 0).1.getD ((((k : Nat) : Int) - ((m3 : Nat) : Int)).toNat) pt0).at_) + ((n : Nat) : Int))))) rfl (fun w' hw' => r_mv (v := .bool (decide ((((ga cs 0).1.getD (((k : Nat) : Int) - ((m3 : Nat) : Int)).toNat pt0).at_ + ((n : Nat) : Int)) ≠ ((((ga cs 0).1.getD ((((k : Nat) : Int) - ((m3 : Nat) : Int)).toNat) pt0).at_) + ((n : Nat) : Int))))) rfl)) ?_
    have q21 : ¬ ((((ga cs 0).1.getD (((k : Nat) : Int) - ((m3 : Nat) : Int)).toNat pt0).at_ + ((n : Nat) : Int)) ≠ ((((ga cs 0).1.getD ((((k : Nat) : Int) - ((m3 : Nat) : Int)).toNat) pt0).at_) + ((n : Nat) : Int))) := (by omega)
    rw [decide_eq_false q21]
    refine Tk 11 (tf 12 52) rfl (YI_v (v := .slice a12 m12 c12) rfl (fun w' hw' => r_mv (v := .slice a12 m12 c12) rfl)) ?_
    refine Tk 12 (tf 13 52) rfl (YI_v (v := .int .i64 ((k : Nat) : Int)) rfl (fun w' hw' => r_mv (v := .int .i64 ((k : Nat) : Int)) rfl)) ?_
    obtain ⟨ib54, io54, ha54, hib54, hc54⟩ := Sl.rat pv0 encP_len (by decide) (hS13) (i := k) (by omega)
    rw [hbe53] at hc54
    refine Tk 13 (tf 14 52) rfl (YI_v (v := .pointer (some ⟨ib54, io54 + k * 10, none⟩)) rfl (fun w' hw' => r_idx (b := ib54) (off := io54) (m := m12) (c := c12) (o' := io54 + k * 10) underlying57 sizeOf45 (by rw [← ha54]; rfl) rfl (by omega) (by omega) (by omega))) ?_
    refine Tk 14 (tf 15 52) rfl (YI_v (v := .pointer (some ⟨ib54, io54 + k * 10 + 1, none⟩)) rfl (fun w' hw' => r_fld underlying45 rfl sizeOf3 rfl rfl)) ?_
    refine Tk 15 (tf 16 52) rfl (YI_v (v := .int .i64 (((ga cs 0).1.getD (((k : Nat) : Int) - ((m3 : Nat) : Int)).toNat pt0).sz)) rfl (fun w' hw' => r_load (v := .int .i64 (((ga cs 0).1.getD (((k : Nat) : Int) - ((m3 : Nat) : Int)).toNat pt0).sz)) isAgg3 rfl (hw'.cellk (hc54 1 (by decide))))) ?_
    refine Tk 16 (tf 17 52) rfl (YI_v (v := .pointer (some ⟨B16, 1, none⟩)) rfl (fun w' hw' => r_fld underlying45 rfl sizeOf3 rfl rfl)) ?_
    refine Tk 17 (tf 18 52) rfl (YI_v (v := .int .i64 (((ga cs 0).1.getD ((((k : Nat) : Int) - ((m3 : Nat) : Int)).toNat) pt0).sz)) rfl (fun w' hw' => r_load isAgg3 rfl (by rw [(hb16.upd0 hw').cell]; rfl))) ?_
    refine Tk 18 (tf 19 52) rfl (YI_v (v := .bool (decide ((((ga cs 0).1.getD (((k : Nat) : Int) - ((m3 : Nat) : Int)).toNat pt0).sz) ≠ (((ga cs 0).1.getD ((((k : Nat) : Int) - ((m3 : Nat) : Int)).toNat) pt0).sz)))) rfl (fun w' hw' => r_ne rfl rfl)) ?_
    refine Tk 19 (tf 20 52) rfl (YI_v rfl (fun w' hw' => r_pick_f (v := .bool (decide ((((ga cs 0).1.getD (((k : Nat) : Int) - ((m3 : Nat) : Int)).toNat pt0).sz) ≠ (((ga cs 0).1.getD ((((k : Nat) : Int) - ((m3 : Nat) : Int)).toNat) pt0).sz)))) rfl rfl)) ?_
    refine Tk 20 (tf 21 52) rfl (YI_v (v := .bool (decide ((((ga cs 0).1.getD (((k : Nat) : Int) - ((m3 : Nat) : Int)).toNat pt0).sz) ≠ (((ga cs 0).1.getD ((((k : Nat) : Int) - ((m3 : Nat) : Int)).toNat) pt0).sz)))) rfl (fun w' hw' => r_mv (v := .bool (decide ((((ga cs 0).1.getD (((k : Nat) : Int) - ((m3 : Nat) : Int)).toNat pt0).sz) ≠ (((ga cs 0).1.getD ((((k : Nat) : Int) - ((m3 : Nat) : Int)).toNat) pt0).sz)))) rfl)) ?_
    have q22 : ¬ ((((ga cs 0).1.getD (((k : Nat) : Int) - ((m3 : Nat) : Int)).toNat pt0).sz) ≠ (((ga cs 0).1.getD ((((k : Nat) : Int) - ((m3 : Nat) : Int)).toNat) pt0).sz)) := (by omega)
    rw [decide_eq_false q22]
    refine Tk 21 (tf 22 52) rfl (YI_v (v := .slice a12 m12 c12) rfl (fun w' hw' => r_mv (v := .slice a12 m12 c12) rfl)) ?_
    refine Tk 22 (tf 23 52) rfl (YI_v (v := .int .i64 ((k : Nat) : Int)) rfl (fun w' hw' => r_mv (v := .int .i64 ((k : Nat) : Int)) rfl)) ?_
    obtain ⟨ib55, io55, ha55, hib55, hc55⟩ := Sl.rat pv0 encP_len (by decide) (hS13) (i := k) (by omega)
    rw [hbe53] at hc55
    refine Tk 23 (tf 24 52) rfl (YI_v (v := .pointer (some ⟨ib55, io55 + k * 10, none⟩)) rfl (fun w' hw' => r_idx (b := ib55) (off := io55) (m := m12) (c := c12) (o' := io55 + k * 10) underlying57 sizeOf45 (by rw [← ha55]; rfl) rfl (by omega) (by omega) (by omega))) ?_
    refine Tk 24 (tf 25 52) rfl (YI_v (v := .pointer (some ⟨ib55, io55 + k * 10 + 2, none⟩)) rfl (fun w' hw' => r_fld underlying45 rfl sizeOf4 rfl rfl)) ?_
    refine Tk 25 (tf 26 52) rfl (YI_v (v := .bool (decide (((ga cs 0).1.getD (((k : Nat) : Int) - ((m3 : Nat) : Int)).toNat pt0).sk = true))) rfl (fun w' hw' => r_load (v := .bool (decide (((ga cs 0).1.getD (((k : Nat) : Int) - ((m3 : Nat) : Int)).toNat pt0).sk = true))) isAgg4 rfl (hw'.cellk (hc55 2 (by decide))))) ?_
    refine Tk 26 (tf 27 52) rfl (YI_v (v := .pointer (some ⟨B16, 2, none⟩)) rfl (fun w' hw' => r_fld underlying45 rfl sizeOf4 rfl rfl)) ?_
    refine Tk 27 (tf 28 52) rfl (YI_v (v := .bool (decide (((ga cs 0).1.getD ((((k : Nat) : Int) - ((m3 : Nat) : Int)).toNat) pt0).sk = true))) rfl (fun w' hw' => r_load isAgg4 rfl (by rw [(hb16.upd0 hw').cell]; rfl))) ?_
    by_cases q23 : ((ga cs 0).1.getD (((k : Nat) : Int) - ((m3 : Nat) : Int)).toNat pt0).sk = true
    ·rw [decide_eq_true q23]
     refine Tk 28 (tf 29 52) rfl (YI_v (v := .bool false) rfl (fun w' hw' => r_neb (a := true) (b := true) underlying4 rfl rfl)) ?_
     refine Tk 29 (tf 30 52) rfl (YI_v rfl (fun w' hw' => r_pick_f (v := .bool false) rfl rfl)) ?_
     refine Tk 30 (tf 31 52) rfl (YI_v (v := .bool false) rfl (fun w' hw' => r_mv (v := .bool false) rfl)) ?_
     refine Tk 31 (tf 32 52) rfl (YI_v (v := .slice a12 m12 c12) rfl (fun w' hw' => r_mv (v := .slice a12 m12 c12) rfl)) ?_
     refine Tk 32 (tf 33 52) rfl (YI_v (v := .int .i64 ((k : Nat) : Int)) rfl (fun w' hw' => r_mv (v := .int .i64 ((k : Nat) : Int)) rfl)) ?_
     obtain ⟨ib56, io56, ha56, hib56, hc56⟩ := Sl.rat pv0 encP_len (by decide) (hS13) (i := k) (by omega)
     rw [hbe53] at hc56
     refine Tk 33 (tf 34 52) rfl (YI_v (v := .pointer (some ⟨ib56, io56 + k * 10, none⟩)) rfl (fun w' hw' => r_idx (b := ib56) (off := io56) (m := m12) (c := c12) (o' := io56 + k * 10) underlying57 sizeOf45 (by rw [← ha56]; rfl) rfl (by omega) (by omega) (by omega))) ?_
     refine Tk 34 (tf 35 52) rfl (YI_v (v := .pointer (some ⟨ib56, io56 + k * 10 + 4, none⟩)) rfl (fun w' hw' => r_fld underlying45 rfl sizeOf41 rfl rfl)) ?_
     refine Tk 35 (tf 36 52) rfl (YI_v (v := .agg #[.int .i64 (((ga cs 0).1.getD (((k : Nat) : Int) - ((m3 : Nat) : Int)).toNat pt0).hd.1), .int .i64 (((ga cs 0).1.getD (((k : Nat) : Int) - ((m3 : Nat) : Int)).toNat pt0).hd.2.1), .int .u32 (((ga cs 0).1.getD (((k : Nat) : Int) - ((m3 : Nat) : Int)).toNat pt0).hd.2.2.1), .bool (decide (((ga cs 0).1.getD (((k : Nat) : Int) - ((m3 : Nat) : Int)).toNat pt0).hd.2.2.2 = true))]) rfl (fun w' hw' => r_loada (cs := [.int .i64 (((ga cs 0).1.getD (((k : Nat) : Int) - ((m3 : Nat) : Int)).toNat pt0).hd.1), .int .i64 (((ga cs 0).1.getD (((k : Nat) : Int) - ((m3 : Nat) : Int)).toNat pt0).hd.2.1), .int .u32 (((ga cs 0).1.getD (((k : Nat) : Int) - ((m3 : Nat) : Int)).toNat pt0).hd.2.2.1), .bool (decide (((ga cs 0).1.getD (((k : Nat) : Int) - ((m3 : Nat) : Int)).toNat pt0).hd.2.2.2 = true))]) isAgg41 sizeOf41 rfl rfl (fun j hj => by have h9 := hw'.cellsk (cs := [.int .i64 (((ga cs 0).1.getD (((k : Nat) : Int) - ((m3 : Nat) : Int)).toNat pt0).at_ + ((n : Nat) : Int)), .int .i64 (((ga cs 0).1.getD (((k : Nat) : Int) - ((m3 : Nat) : Int)).toNat pt0).sz), .bool (decide (((ga cs 0).1.getD (((k : Nat) : Int) - ((m3 : Nat) : Int)).toNat pt0).sk = true)), .int .i64 (((ga cs 0).1.getD (((k : Nat) : Int) - ((m3 : Nat) : Int)).toNat pt0).pl), .int .i64 (((ga cs 0).1.getD (((k : Nat) : Int) - ((m3 : Nat) : Int)).toNat pt0).hd.1), .int .i64 (((ga cs 0).1.getD (((k : Nat) : Int) - ((m3 : Nat) : Int)).toNat pt0).hd.2.1), .int .u32 (((ga cs 0).1.getD (((k : Nat) : Int) - ((m3 : Nat) : Int)).toNat pt0).hd.2.2.1), .bool (decide (((ga cs 0).1.getD (((k : Nat) : Int) - ((m3 : Nat) : Int)).toNat pt0).hd.2.2.2 = true)), .slice ba53 bm49 bc53, .int .u32 (((ga cs 0).1.getD (((k : Nat) : Int) - ((m3 : Nat) : Int)).toNat pt0).ck)]) (sz := 10) rfl hc56 (4 + j) (by have h8 : j < 4 := hj; omega); rw [← Nat.add_assoc] at h9; rw [h9]; match j, hj with | 0, _ => rfl | 1, _ => rfl | 2, _ => rfl | 3, _ => rfl))) ?_
     refine Tk 36 (tf 37 52) rfl (YI_v (v := .pointer (some ⟨B16, 4, none⟩)) rfl (fun w' hw' => r_fld underlying45 rfl sizeOf41 rfl rfl)) ?_
     refine Tk 37 (tf 38 52) rfl (YI_v (v := .agg #[.int .i64 (((ga cs 0).1.getD ((((k : Nat) : Int) - ((m3 : Nat) : Int)).toNat) pt0).hd.1), .int .i64 (((ga cs 0).1.getD ((((k : Nat) : Int) - ((m3 : Nat) : Int)).toNat) pt0).hd.2.1), .int .u32 (((ga cs 0).1.getD ((((k : Nat) : Int) - ((m3 : Nat) : Int)).toNat) pt0).hd.2.2.1), .bool (decide (((ga cs 0).1.getD ((((k : Nat) : Int) - ((m3 : Nat) : Int)).toNat) pt0).hd.2.2.2 = true))]) rfl (fun w' hw' => r_loada (b := B16) (off := 4) (cs := [.int .i64 (((ga cs 0).1.getD ((((k : Nat) : Int) - ((m3 : Nat) : Int)).toNat) pt0).hd.1), .int .i64 (((ga cs 0).1.getD ((((k : Nat) : Int) - ((m3 : Nat) : Int)).toNat) pt0).hd.2.1), .int .u32 (((ga cs 0).1.getD ((((k : Nat) : Int) - ((m3 : Nat) : Int)).toNat) pt0).hd.2.2.1), .bool (decide (((ga cs 0).1.getD ((((k : Nat) : Int) - ((m3 : Nat) : Int)).toNat) pt0).hd.2.2.2 = true))]) isAgg41 sizeOf41 rfl rfl (fun j hj => by rw [(hb16.upd0 hw').cell]; match j, hj with | 0, _ => rfl | 1, _ => rfl | 2, _ => rfl | 3, _ => rfl))) ?_
     refine Tk 38 (tf 39 52) rfl (YI_v (v := .bool (!decide ((((ga cs 0).1.getD (((k : Nat) : Int) - ((m3 : Nat) : Int)).toNat pt0).hd.1) = (((ga cs 0).1.getD ((((k : Nat) : Int) - ((m3 : Nat) : Int)).toNat) pt0).hd.1) ∧ (((ga cs 0).1.getD (((k : Nat) : Int) - ((m3 : Nat) : Int)).toNat pt0).hd.2.1) = (((ga cs 0).1.getD ((((k : Nat) : Int) - ((m3 : Nat) : Int)).toNat) pt0).hd.2.1) ∧ (((ga cs 0).1.getD (((k : Nat) : Int) - ((m3 : Nat) : Int)).toNat pt0).hd.2.2.1) = (((ga cs 0).1.getD ((((k : Nat) : Int) - ((m3 : Nat) : Int)).toNat) pt0).hd.2.2.1) ∧ (decide (((ga cs 0).1.getD (((k : Nat) : Int) - ((m3 : Nat) : Int)).toNat pt0).hd.2.2.2 = true)) = (decide (((ga cs 0).1.getD ((((k : Nat) : Int) - ((m3 : Nat) : Int)).toNat) pt0).hd.2.2.2 = true))))) rfl (fun w' hw' => r_neag (pp := (((ga cs 0).1.getD (((k : Nat) : Int) - ((m3 : Nat) : Int)).toNat pt0).hd.1) = (((ga cs 0).1.getD ((((k : Nat) : Int) - ((m3 : Nat) : Int)).toNat) pt0).hd.1) ∧ (((ga cs 0).1.getD (((k : Nat) : Int) - ((m3 : Nat) : Int)).toNat pt0).hd.2.1) = (((ga cs 0).1.getD ((((k : Nat) : Int) - ((m3 : Nat) : Int)).toNat) pt0).hd.2.1) ∧ (((ga cs 0).1.getD (((k : Nat) : Int) - ((m3 : Nat) : Int)).toNat pt0).hd.2.2.1) = (((ga cs 0).1.getD ((((k : Nat) : Int) - ((m3 : Nat) : Int)).toNat) pt0).hd.2.2.1) ∧ (decide (((ga cs 0).1.getD (((k : Nat) : Int) - ((m3 : Nat) : Int)).toNat pt0).hd.2.2.2 = true)) = (decide (((ga cs 0).1.getD ((((k : Nat) : Int) - ((m3 : Nat) : Int)).toNat) pt0).hd.2.2.2 = true))) underlying41 (by kernel_rfl) (by kernel_rfl) rfl rfl (fun w => eqf_int (by decide) underlying3 isAgg3 rfl rfl (fun w => eqf_int (by decide) underlying3 isAgg3 rfl rfl (fun w => eqf_int (by decide) underlying39 isAgg39 rfl rfl (fun w => eqf_bool (by decide) underlying4 isAgg4 rfl rfl (fun w => eqf_nil))))) (by simp [Bool.decide_and]))) ?_
     refine Tk 39 (tf 40 52) rfl (YI_v rfl (fun w' hw' => r_pick_f (v := .bool (!decide ((((ga cs 0).1.getD (((k : Nat) : Int) - ((m3 : Nat) : Int)).toNat pt0).hd.1) = (((ga cs 0).1.getD ((((k : Nat) : Int) - ((m3 : Nat) : Int)).toNat) pt0).hd.1) ∧ (((ga cs 0).1.getD (((k : Nat) : Int) - ((m3 : Nat) : Int)).toNat pt0).hd.2.1) = (((ga cs 0).1.getD ((((k : Nat) : Int) - ((m3 : Nat) : Int)).toNat) pt0).hd.2.1) ∧ (((ga cs 0).1.getD (((k : Nat) : Int) - ((m3 : Nat) : Int)).toNat pt0).hd.2.2.1) = (((ga cs 0).1.getD ((((k : Nat) : Int) - ((m3 : Nat) : Int)).toNat) pt0).hd.2.2.1) ∧ (decide (((ga cs 0).1.getD (((k : Nat) : Int) - ((m3 : Nat) : Int)).toNat pt0).hd.2.2.2 = true)) = (decide (((ga cs 0).1.getD ((((k : Nat) : Int) - ((m3 : Nat) : Int)).toNat) pt0).hd.2.2.2 = true))))) rfl rfl)) ?_
     refine Tk 40 (tf 41 52) rfl (YI_v (v := .bool (!decide ((((ga cs 0).1.getD (((k : Nat) : Int) - ((m3 : Nat) : Int)).toNat pt0).hd.1) = (((ga cs 0).1.getD ((((k : Nat) : Int) - ((m3 : Nat) : Int)).toNat) pt0).hd.1) ∧ (((ga cs 0).1.getD (((k : Nat) : Int) - ((m3 : Nat) : Int)).toNat pt0).hd.2.1) = (((ga cs 0).1.getD ((((k : Nat) : Int) - ((m3 : Nat) : Int)).toNat) pt0).hd.2.1) ∧ (((ga cs 0).1.getD (((k : Nat) : Int) - ((m3 : Nat) : Int)).toNat pt0).hd.2.2.1) = (((ga cs 0).1.getD ((((k : Nat) : Int) - ((m3 : Nat) : Int)).toNat) pt0).hd.2.2.1) ∧ (decide (((ga cs 0).1.getD (((k : Nat) : Int) - ((m3 : Nat) : Int)).toNat pt0).hd.2.2.2 = true)) = (decide (((ga cs 0).1.getD ((((k : Nat) : Int) - ((m3 : Nat) : Int)).toNat) pt0).hd.2.2.2 = true))))) rfl (fun w' hw' => r_mv (v := .bool (!decide ((((ga cs 0).1.getD (((k : Nat) : Int) - ((m3 : Nat) : Int)).toNat pt0).hd.1) = (((ga cs 0).1.getD ((((k : Nat) : Int) - ((m3 : Nat) : Int)).toNat) pt0).hd.1) ∧ (((ga cs 0).1.getD (((k : Nat) : Int) - ((m3 : Nat) : Int)).toNat pt0).hd.2.1) = (((ga cs 0).1.getD ((((k : Nat) : Int) - ((m3 : Nat) : Int)).toNat) pt0).hd.2.1) ∧ (((ga cs 0).1.getD (((k : Nat) : Int) - ((m3 : Nat) : Int)).toNat pt0).hd.2.2.1) = (((ga cs 0).1.getD ((((k : Nat) : Int) - ((m3 : Nat) : Int)).toNat) pt0).hd.2.2.1) ∧ (decide (((ga cs 0).1.getD (((k : Nat) : Int) - ((m3 : Nat) : Int)).toNat pt0).hd.2.2.2 = true)) = (decide (((ga cs 0).1.getD ((((k : Nat) : Int) - ((m3 : Nat) : Int)).toNat) pt0).hd.2.2.2 = true))))) rfl)) ?_
     have q24 : (((ga cs 0).1.getD (((k : Nat) : Int) - ((m3 : Nat) : Int)).toNat pt0).hd.1) = (((ga cs 0).1.getD ((((k : Nat) : Int) - ((m3 : Nat) : Int)).toNat) pt0).hd.1) ∧ (((ga cs 0).1.getD (((k : Nat) : Int) - ((m3 : Nat) : Int)).toNat pt0).hd.2.1) = (((ga cs 0).1.getD ((((k : Nat) : Int) - ((m3 : Nat) : Int)).toNat) pt0).hd.2.1) ∧ (((ga cs 0).1.getD (((k : Nat) : Int) - ((m3 : Nat) : Int)).toNat pt0).hd.2.2.1) = (((ga cs 0).1.getD ((((k : Nat) : Int) - ((m3 : Nat) : Int)).toNat) pt0).hd.2.2.1) ∧ (decide (((ga cs 0).1.getD (((k : Nat) : Int) - ((m3 : Nat) : Int)).toNat pt0).hd.2.2.2 = true)) = (decide (((ga cs 0).1.getD ((((k : Nat) : Int) - ((m3 : Nat) : Int)).toNat) pt0).hd.2.2.2 = true)) := ⟨rfl, rfl, rfl, rfl⟩
     rw [decide_eq_true q24]
     simp only [Bool.not_true, Bool.not_false]
     refine Tk 41 (tf 42 52) rfl (YI_v (v := .slice a12 m12 c12) rfl (fun w' hw' => r_mv (v := .slice a12 m12 c12) rfl)) ?_
     refine Tk 42 (tf 43 52) rfl (YI_v (v := .int .i64 ((k : Nat) : Int)) rfl (fun w' hw' => r_mv (v := .int .i64 ((k : Nat) : Int)) rfl)) ?_
     obtain ⟨ib57, io57, ha57, hib57, hc57⟩ := Sl.rat pv0 encP_len (by decide) (hS13) (i := k) (by omega)
     rw [hbe53] at hc57
     refine Tk 43 (tf 44 52) rfl (YI_v (v := .pointer (some ⟨ib57, io57 + k * 10, none⟩)) rfl (fun w' hw' => r_idx (b := ib57) (off := io57) (m := m12) (c := c12) (o' := io57 + k * 10) underlying57 sizeOf45 (by rw [← ha57]; rfl) rfl (by omega) (by omega) (by omega))) ?_
     refine Tk 44 (tf 45 52) rfl (YI_v (v := .pointer (some ⟨ib57, io57 + k * 10 + 8, none⟩)) rfl (fun w' hw' => r_fld underlying45 rfl sizeOf43 rfl rfl)) ?_
     refine Tk 45 (tf 46 52) rfl (YI_v (v := .slice ba53 bm49 bc53) rfl (fun w' hw' => r_load (v := .slice ba53 bm49 bc53) isAgg43 rfl (hw'.cellk (hc57 8 (by decide))))) ?_
     refine Tk 46 (tf 47 52) rfl (YI_v (v := .int .i64 ((bm49 : Nat) : Int)) rfl (fun w' hw' => r_len underlying43 rfl)) ?_
     refine Tk 47 (tf 48 52) rfl (YI_v (v := .pointer (some ⟨B16, 8, none⟩)) rfl (fun w' hw' => r_fld underlying45 rfl sizeOf43 rfl rfl)) ?_
     refine Tk 48 (tf 49 52) rfl (YI_v (v := .slice ba49 bm49 bc49) rfl (fun w' hw' => r_load isAgg43 rfl (by rw [(hb16.upd0 hw').cell]; rfl))) ?_
     refine Tk 49 (tf 50 52) rfl (YI_v (v := .int .i64 ((bm49 : Nat) : Int)) rfl (fun w' hw' => r_len underlying43 rfl)) ?_
     refine Tk 50 (tf 51 52) rfl (YI_v (v := .bool (decide (((bm49 : Nat) : Int) ≠ ((bm49 : Nat) : Int)))) rfl (fun w' hw' => r_ne rfl rfl)) ?_
     refine Tk 51 (tf 52 52) rfl (YI_v rfl (fun w' hw' => r_pick_f (v := .bool (decide (((bm49 : Nat) : Int) ≠ ((bm49 : Nat) : Int)))) rfl rfl)) ?_
     intro w58 hU58
     have hzw58 := hU58.size
     replace hS13 := hS13.upd0 hU58
     replace HL15 := HL15.trans0 hU58
     replace hb16 := hb16.upd0 hU58
     replace hB50 := hB50.upd0 hU58
     replace hB53 := hB53.upd0 hU58
     refine Wa_done (by kernel_rfl) ?_
     have q25 : ¬ (((bm49 : Nat) : Int) ≠ ((bm49 : Nat) : Int)) := (by omega)
     rw [decide_eq_false q25]
     refine W_cond_f rfl ?_
     refine W_skip (W_seq (W_region ?_))
     refine Was (.int .i64 0) ?_
     refine Wl_nil (W_block ?_)
     refine W_loop (fun mu ρ ds w' => ∃ (q : Nat), bm49 - q = mu ∧ ds = [] ∧ Liv ρ [(0, .slice a n c), (5, .slice a3 m3 c3), (7, .slice a5 m5 c5), (9, .slice a12 m12 c12), (11, .int .i64 ((k : Nat) : Int)), (12, .int .i64 ((n : Nat) : Int)), (13, .pointer (some ⟨B16, 0, none⟩)), (14, .int .i64 ((q : Nat) : Int)), (98, .slice a12 m12 c12), (99, .int .i64 ((k : Nat) : Int)), (100, .pointer (some ⟨ib54, io54 + k * 10, none⟩)), (101, .pointer (some ⟨ib54, io54 + k * 10 + 1, none⟩)), (102, .int .i64 (((ga cs 0).1.getD (((k : Nat) : Int) - ((m3 : Nat) : Int)).toNat pt0).sz)), (103, .pointer (some ⟨B16, 1, none⟩)), (104, .int .i64 (((ga cs 0).1.getD ((((k : Nat) : Int) - ((m3 : Nat) : Int)).toNat) pt0).sz)), (105, .bool false), (108, .slice a12 m12 c12), (109, .int .i64 ((k : Nat) : Int)), (110, .pointer (some ⟨ib55, io55 + k * 10, none⟩)), (111, .pointer (some ⟨ib55, io55 + k * 10 + 2, none⟩)), (112, .bool true), (113, .pointer (some ⟨B16, 2, none⟩)), (114, .bool true), (115, .bool false), (118, .slice a12 m12 c12), (119, .int .i64 ((k : Nat) : Int)), (120, .pointer (some ⟨ib56, io56 + k * 10, none⟩)), (121, .pointer (some ⟨ib56, io56 + k * 10 + 4, none⟩)), (122, .agg #[.int .i64 (((ga cs 0).1.getD (((k : Nat) : Int) - ((m3 : Nat) : Int)).toNat pt0).hd.1), .int .i64 (((ga cs 0).1.getD (((k : Nat) : Int) - ((m3 : Nat) : Int)).toNat pt0).hd.2.1), .int .u32 (((ga cs 0).1.getD (((k : Nat) : Int) - ((m3 : Nat) : Int)).toNat pt0).hd.2.2.1), .bool (decide (((ga cs 0).1.getD (((k : Nat) : Int) - ((m3 : Nat) : Int)).toNat pt0).hd.2.2.2 = true))]), (123, .pointer (some ⟨B16, 4, none⟩)), (124, .agg #[.int .i64 (((ga cs 0).1.getD ((((k : Nat) : Int) - ((m3 : Nat) : Int)).toNat) pt0).hd.1), .int .i64 (((ga cs 0).1.getD ((((k : Nat) : Int) - ((m3 : Nat) : Int)).toNat) pt0).hd.2.1), .int .u32 (((ga cs 0).1.getD ((((k : Nat) : Int) - ((m3 : Nat) : Int)).toNat) pt0).hd.2.2.1), .bool (decide (((ga cs 0).1.getD ((((k : Nat) : Int) - ((m3 : Nat) : Int)).toNat) pt0).hd.2.2.2 = true))]), (125, .bool false), (128, .slice a12 m12 c12), (129, .int .i64 ((k : Nat) : Int)), (130, .pointer (some ⟨ib57, io57 + k * 10, none⟩)), (131, .pointer (some ⟨ib57, io57 + k * 10 + 8, none⟩)), (132, .slice ba53 bm49 bc53), (133, .int .i64 ((bm49 : Nat) : Int)), (134, .pointer (some ⟨B16, 8, none⟩)), (135, .slice ba49 bm49 bc49), (136, .int .i64 ((bm49 : Nat) : Int)), (137, .bool false)] ∧ q ≤ bm49 ∧ Upd No w58 w') _ ⟨0, rfl, rfl, ⟨rfl, rfl, rfl, rfl, rfl, rfl, rfl, (by first | rfl | exact vint (by omega) | exact vint (by simp)), rfl, rfl, rfl, rfl, rfl, rfl, rfl, rfl, rfl, rfl, rfl, rfl, rfl, rfl, rfl, rfl, rfl, rfl, rfl, rfl, rfl, rfl, rfl, rfl, rfl, rfl, rfl, rfl, rfl, rfl, rfl, rfl, rfl, rfl, trivial⟩, (by omega), Upd.refl _ _⟩ ?_
     rintro m59 ρ59 ds59 w59 ⟨q, rfl, rfl, hl59, hq, hU59⟩
     obtain ⟨ρ59x, rfl⟩ : ∃ ρx, ρ59 = upds ρx [(0, .slice a n c), (5, .slice a3 m3 c3), (7, .slice a5 m5 c5), (9, .slice a12 m12 c12), (11, .int .i64 ((k : Nat) : Int)), (12, .int .i64 ((n : Nat) : Int)), (13, .pointer (some ⟨B16, 0, none⟩)), (14, .int .i64 ((q : Nat) : Int)), (98, .slice a12 m12 c12), (99, .int .i64 ((k : Nat) : Int)), (100, .pointer (some ⟨ib54, io54 + k * 10, none⟩)), (101, .pointer (some ⟨ib54, io54 + k * 10 + 1, none⟩)), (102, .int .i64 (((ga cs 0).1.getD (((k : Nat) : Int) - ((m3 : Nat) : Int)).toNat pt0).sz)), (103, .pointer (some ⟨B16, 1, none⟩)), (104, .int .i64 (((ga cs 0).1.getD ((((k : Nat) : Int) - ((m3 : Nat) : Int)).toNat) pt0).sz)), (105, .bool false), (108, .slice a12 m12 c12), (109, .int .i64 ((k : Nat) : Int)), (110, .pointer (some ⟨ib55, io55 + k * 10, none⟩)), (111, .pointer (some ⟨ib55, io55 + k * 10 + 2, none⟩)), (112, .bool true), (113, .pointer (some ⟨B16, 2, none⟩)), (114, .bool true), (115, .bool false), (118, .slice a12 m12 c12), (119, .int .i64 ((k : Nat) : Int)), (120, .pointer (some ⟨ib56, io56 + k * 10, none⟩)), (121, .pointer (some ⟨ib56, io56 + k * 10 + 4, none⟩)), (122, .agg #[.int .i64 (((ga cs 0).1.getD (((k : Nat) : Int) - ((m3 : Nat) : Int)).toNat pt0).hd.1), .int .i64 (((ga cs 0).1.getD (((k : Nat) : Int) - ((m3 : Nat) : Int)).toNat pt0).hd.2.1), .int .u32 (((ga cs 0).1.getD (((k : Nat) : Int) - ((m3 : Nat) : Int)).toNat pt0).hd.2.2.1), .bool (decide (((ga cs 0).1.getD (((k : Nat) : Int) - ((m3 : Nat) : Int)).toNat pt0).hd.2.2.2 = true))]), (123, .pointer (some ⟨B16, 4, none⟩)), (124, .agg #[.int .i64 (((ga cs 0).1.getD ((((k : Nat) : Int) - ((m3 : Nat) : Int)).toNat) pt0).hd.1), .int .i64 (((ga cs 0).1.getD ((((k : Nat) : Int) - ((m3 : Nat) : Int)).toNat) pt0).hd.2.1), .int .u32 (((ga cs 0).1.getD ((((k : Nat) : Int) - ((m3 : Nat) : Int)).toNat) pt0).hd.2.2.1), .bool (decide (((ga cs 0).1.getD ((((k : Nat) : Int) - ((m3 : Nat) : Int)).toNat) pt0).hd.2.2.2 = true))]), (125, .bool false), (128, .slice a12 m12 c12), (129, .int .i64 ((k : Nat) : Int)), (130, .pointer (some ⟨ib57, io57 + k * 10, none⟩)), (131, .pointer (some ⟨ib57, io57 + k * 10 + 8, none⟩)), (132, .slice ba53 bm49 bc53), (133, .int .i64 ((bm49 : Nat) : Int)), (134, .pointer (some ⟨B16, 8, none⟩)), (135, .slice ba49 bm49 bc49), (136, .int .i64 ((bm49 : Nat) : Int)), (137, .bool false)] := ⟨_, upds_self hl59⟩
     clear hl59
     have hzw59 := hU59.size
     replace hS13 := hS13.upd0 hU59
     replace HL15 := HL15.trans0 hU59
     replace hb16 := hb16.upd0 hU59
     replace hB50 := hB50.upd0 hU59
     replace hB53 := hB53.upd0 hU59
     have hox := ga_batd (bs := bs) (by omega) k q
     have hoy := ga_batd (bs := cs) (by omega) (((k : Nat) : Int) - ((m3 : Nat) : Int)).toNat q
     have hsk := (ga_okd hb (by omega) k).2.2
     have hsy := (ga_okd hb2 (by omega) (((k : Nat) : Int) - ((m3 : Nat) : Int)).toNat).2.2
     have HL59 := hU59
     refine W_seq (W_seq (W_region ?_))
     refine Wmv (.int .i64 ((q : Nat) : Int)) ?_
     refine Wl_v (r_fld underlying45 rfl sizeOf43 rfl rfl) ?_
     refine Wl_load (v := .slice ba49 bm49 bc49) isAgg43 rfl hb16 rfl ?_
     refine Wl_v (r_len underlying43 rfl) ?_
     refine Wl_v (r_lt rfl rfl) ?_
     refine Wl_nil ?_
     by_cases q26 : ((q : Nat) : Int) < ((bm49 : Nat) : Int)
     ·rw [decide_eq_true q26]
      refine W_cond_t rfl ?_
      refine W_skip (W_seq (W_block (W_seq ?_)))
      refine W_drawt rfl (l0 := tf 0 36) (by kernel_rfl) ?_
      refine Tk 0 (tf 1 36) rfl (YI_v (v := .slice a12 m12 c12) rfl (fun w' hw' => r_mv (v := .slice a12 m12 c12) rfl)) ?_
      refine Tk 1 (tf 2 36) rfl (YI_v (v := .int .i64 ((k : Nat) : Int)) rfl (fun w' hw' => r_mv (v := .int .i64 ((k : Nat) : Int)) rfl)) ?_
      obtain ⟨ib60, io60, ha60, hib60, hc60⟩ := Sl.rat pv0 encP_len (by decide) (hS13) (i := k) (by omega)
      rw [hbe53] at hc60
      refine Tk 2 (tf 3 36) rfl (YI_v (v := .pointer (some ⟨ib60, io60 + k * 10, none⟩)) rfl (fun w' hw' => r_idx (b := ib60) (off := io60) (m := m12) (c := c12) (o' := io60 + k * 10) underlying57 sizeOf45 (by rw [← ha60]; rfl) rfl (by omega) (by omega) (by omega))) ?_
      refine Tk 3 (tf 4 36) rfl (YI_v (v := .pointer (some ⟨ib60, io60 + k * 10 + 8, none⟩)) rfl (fun w' hw' => r_fld underlying45 rfl sizeOf43 rfl rfl)) ?_
      refine Tk 4 (tf 5 36) rfl (YI_v (v := .slice ba53 bm49 bc53) rfl (fun w' hw' => r_load (v := .slice ba53 bm49 bc53) isAgg43 rfl (hw'.cellk (hc60 8 (by decide))))) ?_
      refine Tk 5 (tf 6 36) rfl (YI_v (v := .int .i64 ((q : Nat) : Int)) rfl (fun w' hw' => r_mv (v := .int .i64 ((q : Nat) : Int)) rfl)) ?_
      obtain ⟨ib61, io61, ha61, hib61, hc61⟩ := Sl.rat (0, 0, 0, 0, false) encK_len (by decide) (hB53) (i := q) (by omega)
      rw [bsh_gd (by omega)] at hc61
      refine Tk 6 (tf 7 36) rfl (YI_v (v := .pointer (some ⟨ib61, io61 + q * 5, none⟩)) rfl (fun w' hw' => r_idx (b := ib61) (off := io61) (m := bm49) (c := bc53) (o' := io61 + q * 5) underlying43 sizeOf51 (by rw [← ha61]; rfl) rfl (by omega) (by omega) (by omega))) ?_
      refine Tk 7 (tf 8 36) rfl (YI_v (v := .pointer (some ⟨ib61, io61 + q * 5, none⟩)) rfl (fun w' hw' => r_fld underlying51 rfl sizeOf3 rfl rfl)) ?_
      refine Tk 8 (tf 9 36) rfl (YI_v (v := .int .i64 ((((ga cs 0).1.getD (((k : Nat) : Int) - ((m3 : Nat) : Int)).toNat pt0).bl.getD q (0, 0, 0, 0, false)).1 + ((n : Nat) : Int))) rfl (fun w' hw' => r_load (v := .int .i64 ((((ga cs 0).1.getD (((k : Nat) : Int) - ((m3 : Nat) : Int)).toNat pt0).bl.getD q (0, 0, 0, 0, false)).1 + ((n : Nat) : Int))) isAgg3 rfl (hw'.cellk (hc61 0 (by decide))))) ?_
      refine Tk 9 (tf 10 36) rfl (YI_v (v := .pointer (some ⟨B16, 8, none⟩)) rfl (fun w' hw' => r_fld underlying45 rfl sizeOf43 rfl rfl)) ?_
      refine Tk 10 (tf 11 36) rfl (YI_v (v := .slice ba49 bm49 bc49) rfl (fun w' hw' => r_load isAgg43 rfl (by rw [(hb16.upd0 hw').cell]; rfl))) ?_
      refine Tk 11 (tf 12 36) rfl (YI_v (v := .int .i64 ((q : Nat) : Int)) rfl (fun w' hw' => r_mv (v := .int .i64 ((q : Nat) : Int)) rfl)) ?_
      obtain ⟨ib62, io62, ha62, hib62, hc62⟩ := Sl.rat (0, 0, 0, 0, false) encK_len (by decide) (hB50) (i := q) (by omega)
      refine Tk 12 (tf 13 36) rfl (YI_v (v := .pointer (some ⟨ib62, io62 + q * 5, none⟩)) rfl (fun w' hw' => r_idx (b := ib62) (off := io62) (m := bm49) (c := bc49) (o' := io62 + q * 5) underlying43 sizeOf51 (by rw [← ha62]; rfl) rfl (by omega) (by omega) (by omega))) ?_
      refine Tk 13 (tf 14 36) rfl (YI_v (v := .pointer (some ⟨ib62, io62 + q * 5, none⟩)) rfl (fun w' hw' => r_fld underlying51 rfl sizeOf3 rfl rfl)) ?_
      refine Tk 14 (tf 15 36) rfl (YI_v (v := .int .i64 (((((ga cs 0).1.getD ((((k : Nat) : Int) - ((m3 : Nat) : Int)).toNat) pt0).bl).getD q (0, 0, 0, 0, false)).1)) rfl (fun w' hw' => r_load (v := .int .i64 (((((ga cs 0).1.getD ((((k : Nat) : Int) - ((m3 : Nat) : Int)).toNat) pt0).bl).getD q (0, 0, 0, 0, false)).1)) isAgg3 rfl (hw'.cellk (hc62 0 (by decide))))) ?_
      refine Tk 15 (tf 16 36) rfl (YI_v (v := .int .i64 ((n : Nat) : Int)) rfl (fun w' hw' => r_mv (v := .int .i64 ((n : Nat) : Int)) rfl)) ?_
      refine Tk 16 (tf 17 36) rfl (YI_v (v := .int .i64 ((((((ga cs 0).1.getD ((((k : Nat) : Int) - ((m3 : Nat) : Int)).toNat) pt0).bl).getD q (0, 0, 0, 0, false)).1) + ((n : Nat) : Int))) rfl (fun w' hw' => r_add rfl rfl (wi64 (by omega) (by omega)))) ?_
      refine Tk 17 (tf 18 36) rfl (YI_v (v := .bool (decide (((((ga cs 0).1.getD (((k : Nat) : Int) - ((m3 : Nat) : Int)).toNat pt0).bl.getD q (0, 0, 0, 0, false)).1 + ((n : Nat) : Int)) ≠ ((((((ga cs 0).1.getD ((((k : Nat) : Int) - ((m3 : Nat) : Int)).toNat) pt0).bl).getD q (0, 0, 0, 0, false)).1) + ((n : Nat) : Int))))) rfl (fun w' hw' => r_ne rfl rfl)) ?_
      refine Tk 18 (tf 19 36) rfl (YI_v (v := .bool (decide (((((ga cs 0).1.getD (((k : Nat) : Int) - ((m3 : Nat) : Int)).toNat pt0).bl.getD q (0, 0, 0, 0, false)).1 + ((n : Nat) : Int)) ≠ ((((((ga cs 0).1.getD ((((k : Nat) : Int) - ((m3 : Nat) : Int)).toNat) pt0).bl).getD q (0, 0, 0, 0, false)).1) + ((n : Nat) : Int))))) rfl (fun w' hw' => r_mv (v := .bool (decide (((((ga cs 0).1.getD (((k : Nat) : Int) - ((m3 : Nat) : Int)).toNat pt0).bl.getD q (0, 0, 0, 0, false)).1 + ((n : Nat) : Int)) ≠ ((((((ga cs 0).1.getD ((((k : Nat) : Int) - ((m3 : Nat) : Int)).toNat) pt0).bl).getD q (0, 0, 0, 0, false)).1) + ((n : Nat) : Int))))) rfl)) ?_
      have q27 : ¬ (((((ga cs 0).1.getD (((k : Nat) : Int) - ((m3 : Nat) : Int)).toNat pt0).bl.getD q (0, 0, 0, 0, false)).1 + ((n : Nat) : Int)) ≠ ((((((ga cs 0).1.getD ((((k : Nat) : Int) - ((m3 : Nat) : Int)).toNat) pt0).bl).getD q (0, 0, 0, 0, false)).1) + ((n : Nat) : Int))) := (by omega)
      rw [decide_eq_false q27]
      refine Tk 19 (tf 20 36) rfl (YI_v (v := .slice a12 m12 c12) rfl (fun w' hw' => r_mv (v := .slice a12 m12 c12) rfl)) ?_
      refine Tk 20 (tf 21 36) rfl (YI_v (v := .int .i64 ((k : Nat) : Int)) rfl (fun w' hw' => r_mv (v := .int .i64 ((k : Nat) : Int)) rfl)) ?_
      obtain ⟨ib63, io63, ha63, hib63, hc63⟩ := Sl.rat pv0 encP_len (by decide) (hS13) (i := k) (by omega)
      rw [hbe53] at hc63
      refine Tk 21 (tf 22 36) rfl (YI_v (v := .pointer (some ⟨ib63, io63 + k * 10, none⟩)) rfl (fun w' hw' => r_idx (b := ib63) (off := io63) (m := m12) (c := c12) (o' := io63 + k * 10) underlying57 sizeOf45 (by rw [← ha63]; rfl) rfl (by omega) (by omega) (by omega))) ?_
      refine Tk 22 (tf 23 36) rfl (YI_v (v := .pointer (some ⟨ib63, io63 + k * 10 + 8, none⟩)) rfl (fun w' hw' => r_fld underlying45 rfl sizeOf43 rfl rfl)) ?_
      refine Tk 23 (tf 24 36) rfl (YI_v (v := .slice ba53 bm49 bc53) rfl (fun w' hw' => r_load (v := .slice ba53 bm49 bc53) isAgg43 rfl (hw'.cellk (hc63 8 (by decide))))) ?_
      refine Tk 24 (tf 25 36) rfl (YI_v (v := .int .i64 ((q : Nat) : Int)) rfl (fun w' hw' => r_mv (v := .int .i64 ((q : Nat) : Int)) rfl)) ?_
      obtain ⟨ib64, io64, ha64, hib64, hc64⟩ := Sl.rat (0, 0, 0, 0, false) encK_len (by decide) (hB53) (i := q) (by omega)
      rw [bsh_gd (by omega)] at hc64
      refine Tk 25 (tf 26 36) rfl (YI_v (v := .pointer (some ⟨ib64, io64 + q * 5, none⟩)) rfl (fun w' hw' => r_idx (b := ib64) (off := io64) (m := bm49) (c := bc53) (o' := io64 + q * 5) underlying43 sizeOf51 (by rw [← ha64]; rfl) rfl (by omega) (by omega) (by omega))) ?_
      refine Tk 26 (tf 27 36) rfl (YI_v (v := .pointer (some ⟨ib64, io64 + q * 5 + 2, none⟩)) rfl (fun w' hw' => r_fld underlying51 rfl sizeOf3 rfl rfl)) ?_
      refine Tk 27 (tf 28 36) rfl (YI_v (v := .int .i64 ((((ga cs 0).1.getD (((k : Nat) : Int) - ((m3 : Nat) : Int)).toNat pt0).bl.getD q (0, 0, 0, 0, false)).2.2.1)) rfl (fun w' hw' => r_load (v := .int .i64 ((((ga cs 0).1.getD (((k : Nat) : Int) - ((m3 : Nat) : Int)).toNat pt0).bl.getD q (0, 0, 0, 0, false)).2.2.1)) isAgg3 rfl (hw'.cellk (hc64 2 (by decide))))) ?_
      refine Tk 28 (tf 29 36) rfl (YI_v (v := .pointer (some ⟨B16, 8, none⟩)) rfl (fun w' hw' => r_fld underlying45 rfl sizeOf43 rfl rfl)) ?_
      refine Tk 29 (tf 30 36) rfl (YI_v (v := .slice ba49 bm49 bc49) rfl (fun w' hw' => r_load isAgg43 rfl (by rw [(hb16.upd0 hw').cell]; rfl))) ?_
      refine Tk 30 (tf 31 36) rfl (YI_v (v := .int .i64 ((q : Nat) : Int)) rfl (fun w' hw' => r_mv (v := .int .i64 ((q : Nat) : Int)) rfl)) ?_
      obtain ⟨ib65, io65, ha65, hib65, hc65⟩ := Sl.rat (0, 0, 0, 0, false) encK_len (by decide) (hB50) (i := q) (by omega)
      refine Tk 31 (tf 32 36) rfl (YI_v (v := .pointer (some ⟨ib65, io65 + q * 5, none⟩)) rfl (fun w' hw' => r_idx (b := ib65) (off := io65) (m := bm49) (c := bc49) (o' := io65 + q * 5) underlying43 sizeOf51 (by rw [← ha65]; rfl) rfl (by omega) (by omega) (by omega))) ?_
      refine Tk 32 (tf 33 36) rfl (YI_v (v := .pointer (some ⟨ib65, io65 + q * 5 + 2, none⟩)) rfl (fun w' hw' => r_fld underlying51 rfl sizeOf3 rfl rfl)) ?_
      refine Tk 33 (tf 34 36) rfl (YI_v (v := .int .i64 (((((ga cs 0).1.getD ((((k : Nat) : Int) - ((m3 : Nat) : Int)).toNat) pt0).bl).getD q (0, 0, 0, 0, false)).2.2.1)) rfl (fun w' hw' => r_load (v := .int .i64 (((((ga cs 0).1.getD ((((k : Nat) : Int) - ((m3 : Nat) : Int)).toNat) pt0).bl).getD q (0, 0, 0, 0, false)).2.2.1)) isAgg3 rfl (hw'.cellk (hc65 2 (by decide))))) ?_
      refine Tk 34 (tf 35 36) rfl (YI_v (v := .bool (decide (((((ga cs 0).1.getD (((k : Nat) : Int) - ((m3 : Nat) : Int)).toNat pt0).bl.getD q (0, 0, 0, 0, false)).2.2.1) ≠ (((((ga cs 0).1.getD ((((k : Nat) : Int) - ((m3 : Nat) : Int)).toNat) pt0).bl).getD q (0, 0, 0, 0, false)).2.2.1)))) rfl (fun w' hw' => r_ne rfl rfl)) ?_
      refine Tk 35 (tf 36 36) rfl (YI_v rfl (fun w' hw' => r_pick_f (v := .bool (decide (((((ga cs 0).1.getD (((k : Nat) : Int) - ((m3 : Nat) : Int)).toNat pt0).bl.getD q (0, 0, 0, 0, false)).2.2.1) ≠ (((((ga cs 0).1.getD ((((k : Nat) : Int) - ((m3 : Nat) : Int)).toNat) pt0).bl).getD q (0, 0, 0, 0, false)).2.2.1)))) rfl rfl)) ?_
      intro w66 hU66
      have hzw66 := hU66.size
      replace HL59 := HL59.trans0 hU66
      refine Wa_done (by kernel_rfl) ?_
      have q28 : ¬ (((((ga cs 0).1.getD (((k : Nat) : Int) - ((m3 : Nat) : Int)).toNat pt0).bl.getD q (0, 0, 0, 0, false)).2.2.1) ≠ (((((ga cs 0).1.getD ((((k : Nat) : Int) - ((m3 : Nat) : Int)).toNat) pt0).bl).getD q (0, 0, 0, 0, false)).2.2.1)) := (by omega)
      rw [decide_eq_false q28]
      refine W_cond_f rfl ?_
      refine W_skip (W_region ?_)
      refine Wmv (.int .i64 ((q : Nat) : Int)) ?_
      refine Wl_v (r_add rfl rfl (wi64 (by omega) (by omega))) ?_
      refine Was (.int .i64 (((q : Nat) : Int) + 1)) ?_
      refine Wl_nil ?_
      refine ⟨_, ?_, (q + 1), rfl, rfl, ⟨rfl, rfl, rfl, rfl, rfl, rfl, rfl, (Eq.trans (b := .int .i64 (((q : Nat) : Int) + 1)) rfl (vint (by omega))), rfl, rfl, rfl, rfl, rfl, rfl, rfl, rfl, rfl, rfl, rfl, rfl, rfl, rfl, rfl, rfl, rfl, rfl, rfl, rfl, rfl, rfl, rfl, rfl, rfl, rfl, rfl, rfl, rfl, rfl, rfl, rfl, rfl, rfl, trivial⟩, (by omega), HL59⟩
      omega
     rw [decide_eq_false q26]
     refine W_cond_f rfl ?_
     refine W_exit ?_
     refine W_region ?_
     refine Wmv (.int .i64 ((k : Nat) : Int)) ?_
     refine Wl_v (r_add rfl rfl (wi64 (by omega) (by omega))) ?_
     refine Was (.int .i64 (((k : Nat) : Int) + 1)) ?_
     refine Wl_nil ?_
     refine ⟨_, ?_, (k + 1), rfl, rfl, ⟨rfl, rfl, rfl, rfl, (Eq.trans (b := .int .i64 (((k : Nat) : Int) + 1)) rfl (vint (by omega))), trivial⟩, (by omega), HL15⟩
     omega
    rw [decide_eq_false q23]
    refine Tk 28 (tf 29 52) rfl (YI_v (v := .bool false) rfl (fun w' hw' => r_neb (a := false) (b := false) underlying4 rfl rfl)) ?_
    refine Tk 29 (tf 30 52) rfl (YI_v rfl (fun w' hw' => r_pick_f (v := .bool false) rfl rfl)) ?_
    refine Tk 30 (tf 31 52) rfl (YI_v (v := .bool false) rfl (fun w' hw' => r_mv (v := .bool false) rfl)) ?_
    refine Tk 31 (tf 32 52) rfl (YI_v (v := .slice a12 m12 c12) rfl (fun w' hw' => r_mv (v := .slice a12 m12 c12) rfl)) ?_
    refine Tk 32 (tf 33 52) rfl (YI_v (v := .int .i64 ((k : Nat) : Int)) rfl (fun w' hw' => r_mv (v := .int .i64 ((k : Nat) : Int)) rfl)) ?_
    obtain ⟨ib67, io67, ha67, hib67, hc67⟩ := Sl.rat pv0 encP_len (by decide) (hS13) (i := k) (by omega)
    rw [hbe53] at hc67
    refine Tk 33 (tf 34 52) rfl (YI_v (v := .pointer (some ⟨ib67, io67 + k * 10, none⟩)) rfl (fun w' hw' => r_idx (b := ib67) (off := io67) (m := m12) (c := c12) (o' := io67 + k * 10) underlying57 sizeOf45 (by rw [← ha67]; rfl) rfl (by omega) (by omega) (by omega))) ?_
    refine Tk 34 (tf 35 52) rfl (YI_v (v := .pointer (some ⟨ib67, io67 + k * 10 + 4, none⟩)) rfl (fun w' hw' => r_fld underlying45 rfl sizeOf41 rfl rfl)) ?_
    refine Tk 35 (tf 36 52) rfl (YI_v (v := .agg #[.int .i64 (((ga cs 0).1.getD (((k : Nat) : Int) - ((m3 : Nat) : Int)).toNat pt0).hd.1), .int .i64 (((ga cs 0).1.getD (((k : Nat) : Int) - ((m3 : Nat) : Int)).toNat pt0).hd.2.1), .int .u32 (((ga cs 0).1.getD (((k : Nat) : Int) - ((m3 : Nat) : Int)).toNat pt0).hd.2.2.1), .bool (decide (((ga cs 0).1.getD (((k : Nat) : Int) - ((m3 : Nat) : Int)).toNat pt0).hd.2.2.2 = true))]) rfl (fun w' hw' => r_loada (cs := [.int .i64 (((ga cs 0).1.getD (((k : Nat) : Int) - ((m3 : Nat) : Int)).toNat pt0).hd.1), .int .i64 (((ga cs 0).1.getD (((k : Nat) : Int) - ((m3 : Nat) : Int)).toNat pt0).hd.2.1), .int .u32 (((ga cs 0).1.getD (((k : Nat) : Int) - ((m3 : Nat) : Int)).toNat pt0).hd.2.2.1), .bool (decide (((ga cs 0).1.getD (((k : Nat) : Int) - ((m3 : Nat) : Int)).toNat pt0).hd.2.2.2 = true))]) isAgg41 sizeOf41 rfl rfl (fun j hj => by have h9 := hw'.cellsk (cs := [.int .i64 (((ga cs 0).1.getD (((k : Nat) : Int) - ((m3 : Nat) : Int)).toNat pt0).at_ + ((n : Nat) : Int)), .int .i64 (((ga cs 0).1.getD (((k : Nat) : Int) - ((m3 : Nat) : Int)).toNat pt0).sz), .bool (decide (((ga cs 0).1.getD (((k : Nat) : Int) - ((m3 : Nat) : Int)).toNat pt0).sk = true)), .int .i64 (((ga cs 0).1.getD (((k : Nat) : Int) - ((m3 : Nat) : Int)).toNat pt0).pl), .int .i64 (((ga cs 0).1.getD (((k : Nat) : Int) - ((m3 : Nat) : Int)).toNat pt0).hd.1), .int .i64 (((ga cs 0).1.getD (((k : Nat) : Int) - ((m3 : Nat) : Int)).toNat pt0).hd.2.1), .int .u32 (((ga cs 0).1.getD (((k : Nat) : Int) - ((m3 : Nat) : Int)).toNat pt0).hd.2.2.1), .bool (decide (((ga cs 0).1.getD (((k : Nat) : Int) - ((m3 : Nat) : Int)).toNat pt0).hd.2.2.2 = true)), .slice ba53 bm49 bc53, .int .u32 (((ga cs 0).1.getD (((k : Nat) : Int) - ((m3 : Nat) : Int)).toNat pt0).ck)]) (sz := 10) rfl hc67 (4 + j) (by have h8 : j < 4 := hj; omega); rw [← Nat.add_assoc] at h9; rw [h9]; match j, hj with | 0, _ => rfl | 1, _ => rfl | 2, _ => rfl | 3, _ => rfl))) ?_
    refine Tk 36 (tf 37 52) rfl (YI_v (v := .pointer (some ⟨B16, 4, none⟩)) rfl (fun w' hw' => r_fld underlying45 rfl sizeOf41 rfl rfl)) ?_
    refine Tk 37 (tf 38 52) rfl (YI_v (v := .agg #[.int .i64 (((ga cs 0).1.getD ((((k : Nat) : Int) - ((m3 : Nat) : Int)).toNat) pt0).hd.1), .int .i64 (((ga cs 0).1.getD ((((k : Nat) : Int) - ((m3 : Nat) : Int)).toNat) pt0).hd.2.1), .int .u32 (((ga cs 0).1.getD ((((k : Nat) : Int) - ((m3 : Nat) : Int)).toNat) pt0).hd.2.2.1), .bool (decide (((ga cs 0).1.getD ((((k : Nat) : Int) - ((m3 : Nat) : Int)).toNat) pt0).hd.2.2.2 = true))]) rfl (fun w' hw' => r_loada (b := B16) (off := 4) (cs := [.int .i64 (((ga cs 0).1.getD ((((k : Nat) : Int) - ((m3 : Nat) : Int)).toNat) pt0).hd.1), .int .i64 (((ga cs 0).1.getD ((((k : Nat) : Int) - ((m3 : Nat) : Int)).toNat) pt0).hd.2.1), .int .u32 (((ga cs 0).1.getD ((((k : Nat) : Int) - ((m3 : Nat) : Int)).toNat) pt0).hd.2.2.1), .bool (decide (((ga cs 0).1.getD ((((k : Nat) : Int) - ((m3 : Nat) : Int)).toNat) pt0).hd.2.2.2 = true))]) isAgg41 sizeOf41 rfl rfl (fun j hj => by rw [(hb16.upd0 hw').cell]; match j, hj with | 0, _ => rfl | 1, _ => rfl | 2, _ => rfl | 3, _ => rfl))) ?_
    refine Tk 38 (tf 39 52) rfl (YI_v (v := .bool (!decide ((((ga cs 0).1.getD (((k : Nat) : Int) - ((m3 : Nat) : Int)).toNat pt0).hd.1) = (((ga cs 0).1.getD ((((k : Nat) : Int) - ((m3 : Nat) : Int)).toNat) pt0).hd.1) ∧ (((ga cs 0).1.getD (((k : Nat) : Int) - ((m3 : Nat) : Int)).toNat pt0).hd.2.1) = (((ga cs 0).1.getD ((((k : Nat) : Int) - ((m3 : Nat) : Int)).toNat) pt0).hd.2.1) ∧ (((ga cs 0).1.getD (((k : Nat) : Int) - ((m3 : Nat) : Int)).toNat pt0).hd.2.2.1) = (((ga cs 0).1.getD ((((k : Nat) : Int) - ((m3 : Nat) : Int)).toNat) pt0).hd.2.2.1) ∧ (decide (((ga cs 0).1.getD (((k : Nat) : Int) - ((m3 : Nat) : Int)).toNat pt0).hd.2.2.2 = true)) = (decide (((ga cs 0).1.getD ((((k : Nat) : Int) - ((m3 : Nat) : Int)).toNat) pt0).hd.2.2.2 = true))))) rfl (fun w' hw' => r_neag (pp := (((ga cs 0).1.getD (((k : Nat) : Int) - ((m3 : Nat) : Int)).toNat pt0).hd.1) = (((ga cs 0).1.getD ((((k : Nat) : Int) - ((m3 : Nat) : Int)).toNat) pt0).hd.1) ∧ (((ga cs 0).1.getD (((k : Nat) : Int) - ((m3 : Nat) : Int)).toNat pt0).hd.2.1) = (((ga cs 0).1.getD ((((k : Nat) : Int) - ((m3 : Nat) : Int)).toNat) pt0).hd.2.1) ∧ (((ga cs 0).1.getD (((k : Nat) : Int) - ((m3 : Nat) : Int)).toNat pt0).hd.2.2.1) = (((ga cs 0).1.getD ((((k : Nat) : Int) - ((m3 : Nat) : Int)).toNat) pt0).hd.2.2.1) ∧ (decide (((ga cs 0).1.getD (((k : Nat) : Int) - ((m3 : Nat) : Int)).toNat pt0).hd.2.2.2 = true)) = (decide (((ga cs 0).1.getD ((((k : Nat) : Int) - ((m3 : Nat) : Int)).toNat) pt0).hd.2.2.2 = true))) underlying41 (by kernel_rfl) (by kernel_rfl) rfl rfl (fun w => eqf_int (by decide) underlying3 isAgg3 rfl rfl (fun w => eqf_int (by decide) underlying3 isAgg3 rfl rfl (fun w => eqf_int (by decide) underlying39 isAgg39 rfl rfl (fun w => eqf_bool (by decide) underlying4 isAgg4 rfl rfl (fun w => eqf_nil))))) (by simp [Bool.decide_and]))) ?_
    refine Tk 39 (tf 40 52) rfl (YI_v rfl (fun w' hw' => r_pick_f (v := .bool (!decide ((((ga cs 0).1.getD (((k : Nat) : Int) - ((m3 : Nat) : Int)).toNat pt0).hd.1) = (((ga cs 0).1.getD ((((k : Nat) : Int) - ((m3 : Nat) : Int)).toNat) pt0).hd.1) ∧ (((ga cs 0).1.getD (((k : Nat) : Int) - ((m3 : Nat) : Int)).toNat pt0).hd.2.1) = (((ga cs 0).1.getD ((((k : Nat) : Int) - ((m3 : Nat) : Int)).toNat) pt0).hd.2.1) ∧ (((ga cs 0).1.getD (((k : Nat) : Int) - ((m3 : Nat) : Int)).toNat pt0).hd.2.2.1) = (((ga cs 0).1.getD ((((k : Nat) : Int) - ((m3 : Nat) : Int)).toNat) pt0).hd.2.2.1) ∧ (decide (((ga cs 0).1.getD (((k : Nat) : Int) - ((m3 : Nat) : Int)).toNat pt0).hd.2.2.2 = true)) = (decide (((ga cs 0).1.getD ((((k : Nat) : Int) - ((m3 : Nat) : Int)).toNat) pt0).hd.2.2.2 = true))))) rfl rfl)) ?_
    refine Tk 40 (tf 41 52) rfl (YI_v (v := .bool (!decide ((((ga cs 0).1.getD (((k : Nat) : Int) - ((m3 : Nat) : Int)).toNat pt0).hd.1) = (((ga cs 0).1.getD ((((k : Nat) : Int) - ((m3 : Nat) : Int)).toNat) pt0).hd.1) ∧ (((ga cs 0).1.getD (((k : Nat) : Int) - ((m3 : Nat) : Int)).toNat pt0).hd.2.1) = (((ga cs 0).1.getD ((((k : Nat) : Int) - ((m3 : Nat) : Int)).toNat) pt0).hd.2.1) ∧ (((ga cs 0).1.getD (((k : Nat) : Int) - ((m3 : Nat) : Int)).toNat pt0).hd.2.2.1) = (((ga cs 0).1.getD ((((k : Nat) : Int) - ((m3 : Nat) : Int)).toNat) pt0).hd.2.2.1) ∧ (decide (((ga cs 0).1.getD (((k : Nat) : Int) - ((m3 : Nat) : Int)).toNat pt0).hd.2.2.2 = true)) = (decide (((ga cs 0).1.getD ((((k : Nat) : Int) - ((m3 : Nat) : Int)).toNat) pt0).hd.2.2.2 = true))))) rfl (fun w' hw' => r_mv (v := .bool (!decide ((((ga cs 0).1.getD (((k : Nat) : Int) - ((m3 : Nat) : Int)).toNat pt0).hd.1) = (((ga cs 0).1.getD ((((k : Nat) : Int) - ((m3 : Nat) : Int)).toNat) pt0).hd.1) ∧ (((ga cs 0).1.getD (((k : Nat) : Int) - ((m3 : Nat) : Int)).toNat pt0).hd.2.1) = (((ga cs 0).1.getD ((((k : Nat) : Int) - ((m3 : Nat) : Int)).toNat) pt0).hd.2.1) ∧ (((ga cs 0).1.getD (((k : Nat) : Int) - ((m3 : Nat) : Int)).toNat pt0).hd.2.2.1) = (((ga cs 0).1.getD ((((k : Nat) : Int) - ((m3 : Nat) : Int)).toNat) pt0).hd.2.2.1) ∧ (decide (((ga cs 0).1.getD (((k : Nat) : Int) - ((m3 : Nat) : Int)).toNat pt0).hd.2.2.2 = true)) = (decide (((ga cs 0).1.getD ((((k : Nat) : Int) - ((m3 : Nat) : Int)).toNat) pt0).hd.2.2.2 = true))))) rfl)) ?_
    have q29 : (((ga cs 0).1.getD (((k : Nat) : Int) - ((m3 : Nat) : Int)).toNat pt0).hd.1) = (((ga cs 0).1.getD ((((k : Nat) : Int) - ((m3 : Nat) : Int)).toNat) pt0).hd.1) ∧ (((ga cs 0).1.getD (((k : Nat) : Int) - ((m3 : Nat) : Int)).toNat pt0).hd.2.1) = (((ga cs 0).1.getD ((((k : Nat) : Int) - ((m3 : Nat) : Int)).toNat) pt0).hd.2.1) ∧ (((ga cs 0).1.getD (((k : Nat) : Int) - ((m3 : Nat) : Int)).toNat pt0).hd.2.2.1) = (((ga cs 0).1.getD ((((k : Nat) : Int) - ((m3 : Nat) : Int)).toNat) pt0).hd.2.2.1) ∧ (decide (((ga cs 0).1.getD (((k : Nat) : Int) - ((m3 : Nat) : Int)).toNat pt0).hd.2.2.2 = true)) = (decide (((ga cs 0).1.getD ((((k : Nat) : Int) - ((m3 : Nat) : Int)).toNat) pt0).hd.2.2.2 = true)) := ⟨rfl, rfl, rfl, rfl⟩
    rw [decide_eq_true q29]
    simp only [Bool.not_true, Bool.not_false]
    refine Tk 41 (tf 42 52) rfl (YI_v (v := .slice a12 m12 c12) rfl (fun w' hw' => r_mv (v := .slice a12 m12 c12) rfl)) ?_
    refine Tk 42 (tf 43 52) rfl (YI_v (v := .int .i64 ((k : Nat) : Int)) rfl (fun w' hw' => r_mv (v := .int .i64 ((k : Nat) : Int)) rfl)) ?_
    obtain ⟨ib68, io68, ha68, hib68, hc68⟩ := Sl.rat pv0 encP_len (by decide) (hS13) (i := k) (by omega)
    rw [hbe53] at hc68
    refine Tk 43 (tf 44 52) rfl (YI_v (v := .pointer (some ⟨ib68, io68 + k * 10, none⟩)) rfl (fun w' hw' => r_idx (b := ib68) (off := io68) (m := m12) (c := c12) (o' := io68 + k * 10) underlying57 sizeOf45 (by rw [← ha68]; rfl) rfl (by omega) (by omega) (by omega))) ?_
    refine Tk 44 (tf 45 52) rfl (YI_v (v := .pointer (some ⟨ib68, io68 + k * 10 + 8, none⟩)) rfl (fun w' hw' => r_fld underlying45 rfl sizeOf43 rfl rfl)) ?_
    refine Tk 45 (tf 46 52) rfl (YI_v (v := .slice ba53 bm49 bc53) rfl (fun w' hw' => r_load (v := .slice ba53 bm49 bc53) isAgg43 rfl (hw'.cellk (hc68 8 (by decide))))) ?_
    refine Tk 46 (tf 47 52) rfl (YI_v (v := .int .i64 ((bm49 : Nat) : Int)) rfl (fun w' hw' => r_len underlying43 rfl)) ?_
    refine Tk 47 (tf 48 52) rfl (YI_v (v := .pointer (some ⟨B16, 8, none⟩)) rfl (fun w' hw' => r_fld underlying45 rfl sizeOf43 rfl rfl)) ?_
    refine Tk 48 (tf 49 52) rfl (YI_v (v := .slice ba49 bm49 bc49) rfl (fun w' hw' => r_load isAgg43 rfl (by rw [(hb16.upd0 hw').cell]; rfl))) ?_
    refine Tk 49 (tf 50 52) rfl (YI_v (v := .int .i64 ((bm49 : Nat) : Int)) rfl (fun w' hw' => r_len underlying43 rfl)) ?_
    refine Tk 50 (tf 51 52) rfl (YI_v (v := .bool (decide (((bm49 : Nat) : Int) ≠ ((bm49 : Nat) : Int)))) rfl (fun w' hw' => r_ne rfl rfl)) ?_
    refine Tk 51 (tf 52 52) rfl (YI_v rfl (fun w' hw' => r_pick_f (v := .bool (decide (((bm49 : Nat) : Int) ≠ ((bm49 : Nat) : Int)))) rfl rfl)) ?_
    intro w69 hU69
    have hzw69 := hU69.size
    replace hS13 := hS13.upd0 hU69
    replace HL15 := HL15.trans0 hU69
    replace hb16 := hb16.upd0 hU69
    replace hB50 := hB50.upd0 hU69
    replace hB53 := hB53.upd0 hU69
    refine Wa_done (by kernel_rfl) ?_
    have q30 : ¬ (((bm49 : Nat) : Int) ≠ ((bm49 : Nat) : Int)) := (by omega)
    rw [decide_eq_false q30]
    refine W_cond_f rfl ?_
    refine W_skip (W_seq (W_region ?_))
    refine Was (.int .i64 0) ?_
    refine Wl_nil (W_block ?_)
    refine W_loop (fun mu ρ ds w' => ∃ (q : Nat), bm49 - q = mu ∧ ds = [] ∧ Liv ρ [(0, .slice a n c), (5, .slice a3 m3 c3), (7, .slice a5 m5 c5), (9, .slice a12 m12 c12), (11, .int .i64 ((k : Nat) : Int)), (12, .int .i64 ((n : Nat) : Int)), (13, .pointer (some ⟨B16, 0, none⟩)), (14, .int .i64 ((q : Nat) : Int)), (98, .slice a12 m12 c12), (99, .int .i64 ((k : Nat) : Int)), (100, .pointer (some ⟨ib54, io54 + k * 10, none⟩)), (101, .pointer (some ⟨ib54, io54 + k * 10 + 1, none⟩)), (102, .int .i64 (((ga cs 0).1.getD (((k : Nat) : Int) - ((m3 : Nat) : Int)).toNat pt0).sz)), (103, .pointer (some ⟨B16, 1, none⟩)), (104, .int .i64 (((ga cs 0).1.getD ((((k : Nat) : Int) - ((m3 : Nat) : Int)).toNat) pt0).sz)), (105, .bool false), (108, .slice a12 m12 c12), (109, .int .i64 ((k : Nat) : Int)), (110, .pointer (some ⟨ib55, io55 + k * 10, none⟩)), (111, .pointer (some ⟨ib55, io55 + k * 10 + 2, none⟩)), (112, .bool false), (113, .pointer (some ⟨B16, 2, none⟩)), (114, .bool false), (115, .bool false), (118, .slice a12 m12 c12), (119, .int .i64 ((k : Nat) : Int)), (120, .pointer (some ⟨ib67, io67 + k * 10, none⟩)), (121, .pointer (some ⟨ib67, io67 + k * 10 + 4, none⟩)), (122, .agg #[.int .i64 (((ga cs 0).1.getD (((k : Nat) : Int) - ((m3 : Nat) : Int)).toNat pt0).hd.1), .int .i64 (((ga cs 0).1.getD (((k : Nat) : Int) - ((m3 : Nat) : Int)).toNat pt0).hd.2.1), .int .u32 (((ga cs 0).1.getD (((k : Nat) : Int) - ((m3 : Nat) : Int)).toNat pt0).hd.2.2.1), .bool (decide (((ga cs 0).1.getD (((k : Nat) : Int) - ((m3 : Nat) : Int)).toNat pt0).hd.2.2.2 = true))]), (123, .pointer (some ⟨B16, 4, none⟩)), (124, .agg #[.int .i64 (((ga cs 0).1.getD ((((k : Nat) : Int) - ((m3 : Nat) : Int)).toNat) pt0).hd.1), .int .i64 (((ga cs 0).1.getD ((((k : Nat) : Int) - ((m3 : Nat) : Int)).toNat) pt0).hd.2.1), .int .u32 (((ga cs 0).1.getD ((((k : Nat) : Int) - ((m3 : Nat) : Int)).toNat) pt0).hd.2.2.1), .bool (decide (((ga cs 0).1.getD ((((k : Nat) : Int) - ((m3 : Nat) : Int)).toNat) pt0).hd.2.2.2 = true))]), (125, .bool false), (128, .slice a12 m12 c12), (129, .int .i64 ((k : Nat) : Int)), (130, .pointer (some ⟨ib68, io68 + k * 10, none⟩)), (131, .pointer (some ⟨ib68, io68 + k * 10 + 8, none⟩)), (132, .slice ba53 bm49 bc53), (133, .int .i64 ((bm49 : Nat) : Int)), (134, .pointer (some ⟨B16, 8, none⟩)), (135, .slice ba49 bm49 bc49), (136, .int .i64 ((bm49 : Nat) : Int)), (137, .bool false)] ∧ q ≤ bm49 ∧ Upd No w69 w') _ ⟨0, rfl, rfl, ⟨rfl, rfl, rfl, rfl, rfl, rfl, rfl, (by first | rfl | exact vint (by omega) | exact vint (by simp)), rfl, rfl, rfl, rfl, rfl, rfl, rfl, rfl, rfl, rfl, rfl, rfl, rfl, rfl, rfl, rfl, rfl, rfl, rfl, rfl, rfl, rfl, rfl, rfl, rfl, rfl, rfl, rfl, rfl, rfl, rfl, rfl, rfl, rfl, trivial⟩, (by omega), Upd.refl _ _⟩ ?_
    rintro m70 ρ70 ds70 w70 ⟨q, rfl, rfl, hl70, hq, hU70⟩
    obtain ⟨ρ70x, rfl⟩ : ∃ ρx, ρ70 = upds ρx [(0, .slice a n c), (5, .slice a3 m3 c3), (7, .slice a5 m5 c5), (9, .slice a12 m12 c12), (11, .int .i64 ((k : Nat) : Int)), (12, .int .i64 ((n : Nat) : Int)), (13, .pointer (some ⟨B16, 0, none⟩)), (14, .int .i64 ((q : Nat) : Int)), (98, .slice a12 m12 c12), (99, .int .i64 ((k : Nat) : Int)), (100, .pointer (some ⟨ib54, io54 + k * 10, none⟩)), (101, .pointer (some ⟨ib54, io54 + k * 10 + 1, none⟩)), (102, .int .i64 (((ga cs 0).1.getD (((k : Nat) : Int) - ((m3 : Nat) : Int)).toNat pt0).sz)), (103, .pointer (some ⟨B16, 1, none⟩)), (104, .int .i64 (((ga cs 0).1.getD ((((k : Nat) : Int) - ((m3 : Nat) : Int)).toNat) pt0).sz)), (105, .bool false), (108, .slice a12 m12 c12), (109, .int .i64 ((k : Nat) : Int)), (110, .pointer (some ⟨ib55, io55 + k * 10, none⟩)), (111, .pointer (some ⟨ib55, io55 + k * 10 + 2, none⟩)), (112, .bool false), (113, .pointer (some ⟨B16, 2, none⟩)), (114, .bool false), (115, .bool false), (118, .slice a12 m12 c12), (119, .int .i64 ((k : Nat) : Int)), (120, .pointer (some ⟨ib67, io67 + k * 10, none⟩)), (121, .pointer (some ⟨ib67, io67 + k * 10 + 4, none⟩)), (122, .agg #[.int .i64 (((ga cs 0).1.getD (((k : Nat) : Int) - ((m3 : Nat) : Int)).toNat pt0).hd.1), .int .i64 (((ga cs 0).1.getD (((k : Nat) : Int) - ((m3 : Nat) : Int)).toNat pt0).hd.2.1), .int .u32 (((ga cs 0).1.getD (((k : Nat) : Int) - ((m3 : Nat) : Int)).toNat pt0).hd.2.2.1), .bool (decide (((ga cs 0).1.getD (((k : Nat) : Int) - ((m3 : Nat) : Int)).toNat pt0).hd.2.2.2 = true))]), (123, .pointer (some ⟨B16, 4, none⟩)), (124, .agg #[.int .i64 (((ga cs 0).1.getD ((((k : Nat) : Int) - ((m3 : Nat) : Int)).toNat) pt0).hd.1), .int .i64 (((ga cs 0).1.getD ((((k : Nat) : Int) - ((m3 : Nat) : Int)).toNat) pt0).hd.2.1), .int .u32 (((ga cs 0).1.getD ((((k : Nat) : Int) - ((m3 : Nat) : Int)).toNat) pt0).hd.2.2.1), .bool (decide (((ga cs 0).1.getD ((((k : Nat) : Int) - ((m3 : Nat) : Int)).toNat) pt0).hd.2.2.2 = true))]), (125, .bool false), (128, .slice a12 m12 c12), (129, .int .i64 ((k : Nat) : Int)), (130, .pointer (some ⟨ib68, io68 + k * 10, none⟩)), (131, .pointer (some ⟨ib68, io68 + k * 10 + 8, none⟩)), (132, .slice ba53 bm49 bc53), (133, .int .i64 ((bm49 : Nat) : Int)), (134, .pointer (some ⟨B16, 8, none⟩)), (135, .slice ba49 bm49 bc49), (136, .int .i64 ((bm49 : Nat) : Int)), (137, .bool false)] := ⟨_, upds_self hl70⟩
    clear hl70
    have hzw70 := hU70.size
    replace hS13 := hS13.upd0 hU70
    replace HL15 := HL15.trans0 hU70
    replace hb16 := hb16.upd0 hU70
    replace hB50 := hB50.upd0 hU70
    replace hB53 := hB53.upd0 hU70
    have hox := ga_batd (bs := bs) (by omega) k q
    have hoy := ga_batd (bs := cs) (by omega) (((k : Nat) : Int) - ((m3 : Nat) : Int)).toNat q
    have hsk := (ga_okd hb (by omega) k).2.2
    have hsy := (ga_okd hb2 (by omega) (((k : Nat) : Int) - ((m3 : Nat) : Int)).toNat).2.2
    have HL70 := hU70
    refine W_seq (W_seq (W_region ?_))
    refine Wmv (.int .i64 ((q : Nat) : Int)) ?_
    refine Wl_v (r_fld underlying45 rfl sizeOf43 rfl rfl) ?_
    refine Wl_load (v := .slice ba49 bm49 bc49) isAgg43 rfl hb16 rfl ?_
    refine Wl_v (r_len underlying43 rfl) ?_
    refine Wl_v (r_lt rfl rfl) ?_
    refine Wl_nil ?_
    by_cases q31 : ((q : Nat) : Int) < ((bm49 : Nat) : Int)
    ·rw [decide_eq_true q31]
     refine W_cond_t rfl ?_
     refine W_skip (W_seq (W_block (W_seq ?_)))
     refine W_drawt rfl (l0 := tf 0 36) (by kernel_rfl) ?_
     refine Tk 0 (tf 1 36) rfl (YI_v (v := .slice a12 m12 c12) rfl (fun w' hw' => r_mv (v := .slice a12 m12 c12) rfl)) ?_
     refine Tk 1 (tf 2 36) rfl (YI_v (v := .int .i64 ((k : Nat) : Int)) rfl (fun w' hw' => r_mv (v := .int .i64 ((k : Nat) : Int)) rfl)) ?_
     obtain ⟨ib71, io71, ha71, hib71, hc71⟩ := Sl.rat pv0 encP_len (by decide) (hS13) (i := k) (by omega)
     rw [hbe53] at hc71
     refine Tk 2 (tf 3 36) rfl (YI_v (v := .pointer (some ⟨ib71, io71 + k * 10, none⟩)) rfl (fun w' hw' => r_idx (b := ib71) (off := io71) (m := m12) (c := c12) (o' := io71 + k * 10) underlying57 sizeOf45 (by rw [← ha71]; rfl) rfl (by omega) (by omega) (by omega))) ?_
     refine Tk 3 (tf 4 36) rfl (YI_v (v := .pointer (some ⟨ib71, io71 + k * 10 + 8, none⟩)) rfl (fun w' hw' => r_fld underlying45 rfl sizeOf43 rfl rfl)) ?_
     refine Tk 4 (tf 5 36) rfl (YI_v (v := .slice ba53 bm49 bc53) rfl (fun w' hw' => r_load (v := .slice ba53 bm49 bc53) isAgg43 rfl (hw'.cellk (hc71 8 (by decide))))) ?_
     refine Tk 5 (tf 6 36) rfl (YI_v (v := .int .i64 ((q : Nat) : Int)) rfl (fun w' hw' => r_mv (v := .int .i64 ((q : Nat) : Int)) rfl)) ?_
     obtain ⟨ib72, io72, ha72, hib72, hc72⟩ := Sl.rat (0, 0, 0, 0, false) encK_len (by decide) (hB53) (i := q) (by omega)
     rw [bsh_gd (by omega)] at hc72
     refine Tk 6 (tf 7 36) rfl (YI_v (v := .pointer (some ⟨ib72, io72 + q * 5, none⟩)) rfl (fun w' hw' => r_idx (b := ib72) (off := io72) (m := bm49) (c := bc53) (o' := io72 + q * 5) underlying43 sizeOf51 (by rw [← ha72]; rfl) rfl (by omega) (by omega) (by omega))) ?_
     refine Tk 7 (tf 8 36) rfl (YI_v (v := .pointer (some ⟨ib72, io72 + q * 5, none⟩)) rfl (fun w' hw' => r_fld underlying51 rfl sizeOf3 rfl rfl)) ?_
     refine Tk 8 (tf 9 36) rfl (YI_v (v := .int .i64 ((((ga cs 0).1.getD (((k : Nat) : Int) - ((m3 : Nat) : Int)).toNat pt0).bl.getD q (0, 0, 0, 0, false)).1 + ((n : Nat) : Int))) rfl (fun w' hw' => r_load (v := .int .i64 ((((ga cs 0).1.getD (((k : Nat) : Int) - ((m3 : Nat) : Int)).toNat pt0).bl.getD q (0, 0, 0, 0, false)).1 + ((n : Nat) : Int))) isAgg3 rfl (hw'.cellk (hc72 0 (by decide))))) ?_
     refine Tk 9 (tf 10 36) rfl (YI_v (v := .pointer (some ⟨B16, 8, none⟩)) rfl (fun w' hw' => r_fld underlying45 rfl sizeOf43 rfl rfl)) ?_
     refine Tk 10 (tf 11 36) rfl (YI_v (v := .slice ba49 bm49 bc49) rfl (fun w' hw' => r_load isAgg43 rfl (by rw [(hb16.upd0 hw').cell]; rfl))) ?_
     refine Tk 11 (tf 12 36) rfl (YI_v (v := .int .i64 ((q : Nat) : Int)) rfl (fun w' hw' => r_mv (v := .int .i64 ((q : Nat) : Int)) rfl)) ?_
     obtain ⟨ib73, io73, ha73, hib73, hc73⟩ := Sl.rat (0, 0, 0, 0, false) encK_len (by decide) (hB50) (i := q) (by omega)
     refine Tk 12 (tf 13 36) rfl (YI_v (v := .pointer (some ⟨ib73, io73 + q * 5, none⟩)) rfl (fun w' hw' => r_idx (b := ib73) (off := io73) (m := bm49) (c := bc49) (o' := io73 + q * 5) underlying43 sizeOf51 (by rw [← ha73]; rfl) rfl (by omega) (by omega) (by omega))) ?_
     refine Tk 13 (tf 14 36) rfl (YI_v (v := .pointer (some ⟨ib73, io73 + q * 5, none⟩)) rfl (fun w' hw' => r_fld underlying51 rfl sizeOf3 rfl rfl)) ?_
     refine Tk 14 (tf 15 36) rfl (YI_v (v := .int .i64 (((((ga cs 0).1.getD ((((k : Nat) : Int) - ((m3 : Nat) : Int)).toNat) pt0).bl).getD q (0, 0, 0, 0, false)).1)) rfl (fun w' hw' => r_load (v := .int .i64 (((((ga cs 0).1.getD ((((k : Nat) : Int) - ((m3 : Nat) : Int)).toNat) pt0).bl).getD q (0, 0, 0, 0, false)).1)) isAgg3 rfl (hw'.cellk (hc73 0 (by decide))))) ?_
     refine Tk 15 (tf 16 36) rfl (YI_v (v := .int .i64 ((n : Nat) : Int)) rfl (fun w' hw' => r_mv (v := .int .i64 ((n : Nat) : Int)) rfl)) ?_
     refine Tk 16 (tf 17 36) rfl (YI_v (v := .int .i64 ((((((ga cs 0).1.getD ((((k : Nat) : Int) - ((m3 : Nat) : Int)).toNat) pt0).bl).getD q (0, 0, 0, 0, false)).1) + ((n : Nat) : Int))) rfl (fun w' hw' => r_add rfl rfl (wi64 (by omega) (by omega)))) ?_
     refine Tk 17 (tf 18 36) rfl (YI_v (v := .bool (decide (((((ga cs 0).1.getD (((k : Nat) : Int) - ((m3 : Nat) : Int)).toNat pt0).bl.getD q (0, 0, 0, 0, false)).1 + ((n : Nat) : Int)) ≠ ((((((ga cs 0).1.getD ((((k : Nat) : Int) - ((m3 : Nat) : Int)).toNat) pt0).bl).getD q (0, 0, 0, 0, false)).1) + ((n : Nat) : Int))))) rfl (fun w' hw' => r_ne rfl rfl)) ?_
     refine Tk 18 (tf 19 36) rfl (YI_v (v := .bool (decide (((((ga cs 0).1.getD (((k : Nat) : Int) - ((m3 : Nat) : Int)).toNat pt0).bl.getD q (0, 0, 0, 0, false)).1 + ((n : Nat) : Int)) ≠ ((((((ga cs 0).1.getD ((((k : Nat) : Int) - ((m3 : Nat) : Int)).toNat) pt0).bl).getD q (0, 0, 0, 0, false)).1) + ((n : Nat) : Int))))) rfl (fun w' hw' => r_mv (v := .bool (decide (((((ga cs 0).1.getD (((k : Nat) : Int) - ((m3 : Nat) : Int)).toNat pt0).bl.getD q (0, 0, 0, 0, false)).1 + ((n : Nat) : Int)) ≠ ((((((ga cs 0).1.getD ((((k : Nat) : Int) - ((m3 : Nat) : Int)).toNat) pt0).bl).getD q (0, 0, 0, 0, false)).1) + ((n : Nat) : Int))))) rfl)) ?_
     have q32 : ¬ (((((ga cs 0).1.getD (((k : Nat) : Int) - ((m3 : Nat) : Int)).toNat pt0).bl.getD q (0, 0, 0, 0, false)).1 + ((n : Nat) : Int)) ≠ ((((((ga cs 0).1.getD ((((k : Nat) : Int) - ((m3 : Nat) : Int)).toNat) pt0).bl).getD q (0, 0, 0, 0, false)).1) + ((n : Nat) : Int))) := (by omega)
     rw [decide_eq_false q32]
     refine Tk 19 (tf 20 36) rfl (YI_v (v := .slice a12 m12 c12) rfl (fun w' hw' => r_mv (v := .slice a12 m12 c12) rfl)) ?_
     refine Tk 20 (tf 21 36) rfl (YI_v (v := .int .i64 ((k : Nat) : Int)) rfl (fun w' hw' => r_mv (v := .int .i64 ((k : Nat) : Int)) rfl)) ?_
     obtain ⟨ib74, io74, ha74, hib74, hc74⟩ := Sl.rat pv0 encP_len (by decide) (hS13) (i := k) (by omega)
     rw [hbe53] at hc74
     refine Tk 21 (tf 22 36) rfl (YI_v (v := .pointer (some ⟨ib74, io74 + k * 10, none⟩)) rfl (fun w' hw' => r_idx (b := ib74) (off := io74) (m := m12) (c := c12) (o' := io74 + k * 10) underlying57 sizeOf45 (by rw [← ha74]; rfl) rfl (by omega) (by omega) (by omega))) ?_
     refine Tk 22 (tf 23 36) rfl (YI_v (v := .pointer (some ⟨ib74, io74 + k * 10 + 8, none⟩)) rfl (fun w' hw' => r_fld underlying45 rfl sizeOf43 rfl rfl)) ?_
     refine Tk 23 (tf 24 36) rfl (YI_v (v := .slice ba53 bm49 bc53) rfl (fun w' hw' => r_load (v := .slice ba53 bm49 bc53) isAgg43 rfl (hw'.cellk (hc74 8 (by decide))))) ?_
     refine Tk 24 (tf 25 36) rfl (YI_v (v := .int .i64 ((q : Nat) : Int)) rfl (fun w' hw' => r_mv (v := .int .i64 ((q : Nat) : Int)) rfl)) ?_
     obtain ⟨ib75, io75, ha75, hib75, hc75⟩ := Sl.rat (0, 0, 0, 0, false) encK_len (by decide) (hB53) (i := q) (by omega)
     rw [bsh_gd (by omega)] at hc75
     refine Tk 25 (tf 26 36) rfl (YI_v (v := .pointer (some ⟨ib75, io75 + q * 5, none⟩)) rfl (fun w' hw' => r_idx (b := ib75) (off := io75) (m := bm49) (c := bc53) (o' := io75 + q * 5) underlying43 sizeOf51 (by rw [← ha75]; rfl) rfl (by omega) (by omega) (by omega))) ?_
     refine Tk 26 (tf 27 36) rfl (YI_v (v := .pointer (some ⟨ib75, io75 + q * 5 + 2, none⟩)) rfl (fun w' hw' => r_fld underlying51 rfl sizeOf3 rfl rfl)) ?_
     refine Tk 27 (tf 28 36) rfl (YI_v (v := .int .i64 ((((ga cs 0).1.getD (((k : Nat) : Int) - ((m3 : Nat) : Int)).toNat pt0).bl.getD q (0, 0, 0, 0, false)).2.2.1)) rfl (fun w' hw' => r_load (v := .int .i64 ((((ga cs 0).1.getD (((k : Nat) : Int) - ((m3 : Nat) : Int)).toNat pt0).bl.getD q (0, 0, 0, 0, false)).2.2.1)) isAgg3 rfl (hw'.cellk (hc75 2 (by decide))))) ?_
     refine Tk 28 (tf 29 36) rfl (YI_v (v := .pointer (some ⟨B16, 8, none⟩)) rfl (fun w' hw' => r_fld underlying45 rfl sizeOf43 rfl rfl)) ?_
     refine Tk 29 (tf 30 36) rfl (YI_v (v := .slice ba49 bm49 bc49) rfl (fun w' hw' => r_load isAgg43 rfl (by rw [(hb16.upd0 hw').cell]; rfl))) ?_
     refine Tk 30 (tf 31 36) rfl (YI_v (v := .int .i64 ((q : Nat) : Int)) rfl (fun w' hw' => r_mv (v := .int .i64 ((q : Nat) : Int)) rfl)) ?_
     obtain ⟨ib76, io76, ha76, hib76, hc76⟩ := Sl.rat (0, 0, 0, 0, false) encK_len (by decide) (hB50) (i := q) (by omega)
     refine Tk 31 (tf 32 36) rfl (YI_v (v := .pointer (some ⟨ib76, io76 + q * 5, none⟩)) rfl (fun w' hw' => r_idx (b := ib76) (off := io76) (m := bm49) (c := bc49) (o' := io76 + q * 5) underlying43 sizeOf51 (by rw [← ha76]; rfl) rfl (by omega) (by omega) (by omega))) ?_
     refine Tk 32 (tf 33 36) rfl (YI_v (v := .pointer (some ⟨ib76, io76 + q * 5 + 2, none⟩)) rfl (fun w' hw' => r_fld underlying51 rfl sizeOf3 rfl rfl)) ?_
     refine Tk 33 (tf 34 36) rfl (YI_v (v := .int .i64 (((((ga cs 0).1.getD ((((k : Nat) : Int) - ((m3 : Nat) : Int)).toNat) pt0).bl).getD q (0, 0, 0, 0, false)).2.2.1)) rfl (fun w' hw' => r_load (v := .int .i64 (((((ga cs 0).1.getD ((((k : Nat) : Int) - ((m3 : Nat) : Int)).toNat) pt0).bl).getD q (0, 0, 0, 0, false)).2.2.1)) isAgg3 rfl (hw'.cellk (hc76 2 (by decide))))) ?_
     refine Tk 34 (tf 35 36) rfl (YI_v (v := .bool (decide (((((ga cs 0).1.getD (((k : Nat) : Int) - ((m3 : Nat) : Int)).toNat pt0).bl.getD q (0, 0, 0, 0, false)).2.2.1) ≠ (((((ga cs 0).1.getD ((((k : Nat) : Int) - ((m3 : Nat) : Int)).toNat) pt0).bl).getD q (0, 0, 0, 0, false)).2.2.1)))) rfl (fun w' hw' => r_ne rfl rfl)) ?_
     refine Tk 35 (tf 36 36) rfl (YI_v rfl (fun w' hw' => r_pick_f (v := .bool (decide (((((ga cs 0).1.getD (((k : Nat) : Int) - ((m3 : Nat) : Int)).toNat pt0).bl.getD q (0, 0, 0, 0, false)).2.2.1) ≠ (((((ga cs 0).1.getD ((((k : Nat) : Int) - ((m3 : Nat) : Int)).toNat) pt0).bl).getD q (0, 0, 0, 0, false)).2.2.1)))) rfl rfl)) ?_
     intro w77 hU77
     have hzw77 := hU77.size
     replace HL70 := HL70.trans0 hU77
     refine Wa_done (by kernel_rfl) ?_
     have q33 : ¬ (((((ga cs 0).1.getD (((k : Nat) : Int) - ((m3 : Nat) : Int)).toNat pt0).bl.getD q (0, 0, 0, 0, false)).2.2.1) ≠ (((((ga cs 0).1.getD ((((k : Nat) : Int) - ((m3 : Nat) : Int)).toNat) pt0).bl).getD q (0, 0, 0, 0, false)).2.2.1)) := (by omega)
     rw [decide_eq_false q33]
     refine W_cond_f rfl ?_
     refine W_skip (W_region ?_)
     refine Wmv (.int .i64 ((q : Nat) : Int)) ?_
     refine Wl_v (r_add rfl rfl (wi64 (by omega) (by omega))) ?_
     refine Was (.int .i64 (((q : Nat) : Int) + 1)) ?_
     refine Wl_nil ?_
     refine ⟨_, ?_, (q + 1), rfl, rfl, ⟨rfl, rfl, rfl, rfl, rfl, rfl, rfl, (Eq.trans (b := .int .i64 (((q : Nat) : Int) + 1)) rfl (vint (by omega))), rfl, rfl, rfl, rfl, rfl, rfl, rfl, rfl, rfl, rfl, rfl, rfl, rfl, rfl, rfl, rfl, rfl, rfl, rfl, rfl, rfl, rfl, rfl, rfl, rfl, rfl, rfl, rfl, rfl, rfl, rfl, rfl, rfl, rfl, trivial⟩, (by omega), HL70⟩
     omega
    rw [decide_eq_false q31]
    refine W_cond_f rfl ?_
    refine W_exit ?_
    refine W_region ?_
    refine Wmv (.int .i64 ((k : Nat) : Int)) ?_
    refine Wl_v (r_add rfl rfl (wi64 (by omega) (by omega))) ?_
    refine Was (.int .i64 (((k : Nat) : Int) + 1)) ?_
    refine Wl_nil ?_
    refine ⟨_, ?_, (k + 1), rfl, rfl, ⟨rfl, rfl, rfl, rfl, (Eq.trans (b := .int .i64 (((k : Nat) : Int) + 1)) rfl (vint (by omega))), trivial⟩, (by omega), HL15⟩
    omega
   rw [decide_eq_false q6]
   refine W_cond_f rfl ?_
   refine W_exit ?_
   refine W_seq (W_region ?_)
   refine Wl_call (r_call0 rfl call10 ) (works44 _ ht) ?_
   rintro v w78 ⟨rfl, hU78⟩
   have hzw78 := hU78.size
   replace HU := HU.trans0 hU78
   refine Was (.bool true) ?_
   refine Wl_nil ?_
   refine W_ret ?_
   refine ret_end (v := .bool true) rfl (res1 results6 rfl) ?_
   exact ⟨_, rfl, rfl, HU⟩
  refine Wl_call (r_call1 rfl call19 rfl) (read_no _ hs2.any hb2 (by omega) q4) ?_
  rintro v w79 ⟨rfl, hU79⟩
  have hzw79 := hU79.size
  replace ht := ht.upd0 hU79
  replace HU := HU.trans0 hU79
  refine Wmv (.tuple #[.slice none 0 0, .int .i64 ((ga cs 0).2)]) ?_
  refine Wl_v (r_ext (v := .slice none 0 0) rfl rfl) ?_
  refine Wl_v (r_ext (v := .int .i64 ((ga cs 0).2)) rfl rfl) ?_
  refine Was (.slice none 0 0) ?_
  refine Was (.int .i64 ((ga cs 0).2)) ?_
  refine Wl_nil (W_seq (W_seq (W_region ?_)))
  refine Wmv (.int .i64 0) ?_
  refine Wl_call (r_call1 rfl call13 rfl) (num44 _ ) ?_
  rintro v w80 ⟨rfl, hU80⟩
  have hzw80 := hU80.size
  replace ht := ht.upd0 hU80
  replace HU := HU.trans0 hU80
  refine Wmv (.int .i64 ((ga cs 0).2)) ?_
  refine Wl_call (r_call1 rfl call13 rfl) (num44 _ ) ?_
  rintro v w81 ⟨rfl, hU81⟩
  have hzw81 := hU81.size
  replace ht := ht.upd0 hU81
  replace HU := HU.trans0 hU81
  refine Wl_v (r_add rfl rfl (wi64 (by omega) (by omega))) ?_
  refine Wl_v (r_ne rfl rfl) ?_
  refine Wl_nil ?_
  have q34 : (0 + ((ga cs 0).2)) ≠ 0 := (by omega)
  rw [decide_eq_true q34]
  refine W_cond_t rfl ?_
  refine W_seq (W_region ?_)
  refine Wl_call (r_call0 rfl call10 ) (works44 _ ht) ?_
  rintro v w82 ⟨rfl, hU82⟩
  have hzw82 := hU82.size
  replace HU := HU.trans0 hU82
  refine Was (.bool true) ?_
  refine Wl_nil ?_
  refine W_ret ?_
  refine ret_end (v := .bool true) rfl (res1 results6 rfl) ?_
  exact ⟨_, rfl, rfl, HU⟩
 refine Wl_call (r_call1 rfl call19 rfl) (read_no _ hs.any hb (by omega) q3) ?_
 rintro v w83 ⟨rfl, hU83⟩
 have hzw83 := hU83.size
 replace ht := ht.upd0 hU83
 replace hs2 := hs2.upd0 hU83
 replace HU := HU.trans0 hU83
 refine Wmv (.tuple #[.slice none 0 0, .int .i64 ((ga bs 0).2)]) ?_
 refine Wl_v (r_ext (v := .slice none 0 0) rfl rfl) ?_
 refine Wl_v (r_ext (v := .int .i64 ((ga bs 0).2)) rfl rfl) ?_
 refine Was (.slice none 0 0) ?_
 refine Was (.int .i64 ((ga bs 0).2)) ?_
 refine Wl_nil (W_seq (W_region ?_))
 refine Wmv (.slice a9 n9 c9) ?_
 by_cases q35 : (ga cs 0).2 = 0
 ·refine Wl_call (r_call1 rfl call19 rfl) (read_ok _ hs2.any hb2 (by omega) q35) ?_
  rintro v w84 ⟨a84, m84, c84, rfl, hT84, hU84⟩
  have hzw84 := hU84.size
  replace ht := ht.upd0 hU84
  replace HU := HU.trans0 hU84
  obtain ⟨vs85, hv85, hS85, hP85⟩ := hT84
  have hl_hS85 := rlen encP_len (by decide) hS85
  have hc_hS85 := hS85.cap.1
  have hlm85 : (ga cs 0).1.length = m84 := by rw [← hv85, List.length_map]; exact hl_hS85
  have hgn1 := ga_len hb2 (by omega)
  refine Wmv (.tuple #[.slice a84 m84 c84, .int .i64 0]) ?_
  refine Wl_v (r_ext (v := .slice a84 m84 c84) rfl rfl) ?_
  refine Wl_v (r_ext (v := .int .i64 0) rfl rfl) ?_
  refine Was (.slice a84 m84 c84) ?_
  refine Was (.int .i64 0) ?_
  refine Wl_nil (W_seq (W_seq (W_region ?_)))
  refine Wmv (.int .i64 ((ga bs 0).2)) ?_
  refine Wl_call (r_call1 rfl call13 rfl) (num44 _ ) ?_
  rintro v w86 ⟨rfl, hU86⟩
  have hzw86 := hU86.size
  replace ht := ht.upd0 hU86
  replace HU := HU.trans0 hU86
  refine Wmv (.int .i64 0) ?_
  refine Wl_call (r_call1 rfl call13 rfl) (num44 _ ) ?_
  rintro v w87 ⟨rfl, hU87⟩
  have hzw87 := hU87.size
  replace ht := ht.upd0 hU87
  replace HU := HU.trans0 hU87
  refine Wl_v (r_add rfl rfl (wi64 (by omega) (by omega))) ?_
  refine Wl_v (r_ne rfl rfl) ?_
  refine Wl_nil ?_
  have q36 : (((ga bs 0).2) + 0) ≠ 0 := (by omega)
  rw [decide_eq_true q36]
  refine W_cond_t rfl ?_
  refine W_seq (W_region ?_)
  refine Wl_call (r_call0 rfl call10 ) (works44 _ ht) ?_
  rintro v w88 ⟨rfl, hU88⟩
  have hzw88 := hU88.size
  replace HU := HU.trans0 hU88
  refine Was (.bool true) ?_
  refine Wl_nil ?_
  refine W_ret ?_
  refine ret_end (v := .bool true) rfl (res1 results6 rfl) ?_
  exact ⟨_, rfl, rfl, HU⟩
 refine Wl_call (r_call1 rfl call19 rfl) (read_no _ hs2.any hb2 (by omega) q35) ?_
 rintro v w89 ⟨rfl, hU89⟩
 have hzw89 := hU89.size
 replace ht := ht.upd0 hU89
 replace HU := HU.trans0 hU89
 refine Wmv (.tuple #[.slice none 0 0, .int .i64 ((ga cs 0).2)]) ?_
 refine Wl_v (r_ext (v := .slice none 0 0) rfl rfl) ?_
 refine Wl_v (r_ext (v := .int .i64 ((ga cs 0).2)) rfl rfl) ?_
 refine Was (.slice none 0 0) ?_
 refine Was (.int .i64 ((ga cs 0).2)) ?_
 refine Wl_nil (W_seq (W_seq (W_region ?_)))
 refine Wmv (.int .i64 ((ga bs 0).2)) ?_
 refine Wl_call (r_call1 rfl call13 rfl) (num44 _ ) ?_
 rintro v w90 ⟨rfl, hU90⟩
 have hzw90 := hU90.size
 replace ht := ht.upd0 hU90
 replace HU := HU.trans0 hU90
 refine Wmv (.int .i64 ((ga cs 0).2)) ?_
 refine Wl_call (r_call1 rfl call13 rfl) (num44 _ ) ?_
 rintro v w91 ⟨rfl, hU91⟩
 have hzw91 := hU91.size
 replace ht := ht.upd0 hU91
 replace HU := HU.trans0 hU91
 refine Wl_v (r_add rfl rfl (wi64 (by omega) (by omega))) ?_
 refine Wl_v (r_ne rfl rfl) ?_
 refine Wl_nil ?_
 have q37 : (((ga bs 0).2) + ((ga cs 0).2)) ≠ 0 := (by omega)
 rw [decide_eq_true q37]
 refine W_cond_t rfl ?_
 refine W_seq (W_region ?_)
 refine Wl_call (r_call0 rfl call10 ) (works44 _ ht) ?_
 rintro v w92 ⟨rfl, hU92⟩
 have hzw92 := hU92.size
 replace HU := HU.trans0 hU92
 refine Was (.bool true) ?_
 refine Wl_nil ?_
 refine W_ret ?_
 refine ret_end (v := .bool true) rfl (res1 results6 rfl) ?_
 exact ⟨_, rfl, rfl, HU⟩
end Go.Proofs.YtbjjhfoeckkacaaDoor
