/-
 Walks, printed by a small program of this project (gen.py).
-/
import Derived.Test.YtilegaokfamfnaaZi
set_option linter.unusedVariables false
set_option linter.unusedSimpArgs false
namespace Go.Proofs.Ytilegaokfamfnaa
open Go.Fw

theorem _root_.Go.Fw.Sl.rcong2 {α : Type} {enc : α → List Value} {w : World} {R : Nat → Prop} {sz n : Nat} {v : Value} {l l' : List α} (h : Sl w R sz v n (rows enc l)) (e : l = l') : Sl w R sz v n (rows enc l') := e ▸ h

set_option maxRecDepth 100000 in
theorem rbwd_ok {a2 : Option Addr} {m d : Nat} {b : List Int} (w : World) (hsb : Sl w (fun g => g < w.heap.size) 1 (.slice a2 m d) m (ints .u8 b)) (hb : Byt b) (hm : m ≤ 100000) (hc : Cl b) :
  Calls Try.prog 54 #[.slice a2 m d] w (Ret fun v w' => ∃ (rr : Nat) (a' : Option Addr) (c' : Nat), v = .tuple #[.pointer (some ⟨rr, 0, none⟩), .int .i64 0] ∧ Blk w' rr [.slice a' (tbt b) c', .int .i64 0] ∧ Sl w' (fun g => w.heap.size ≤ g) 1 (.slice a' (tbt b) c') (tbt b) (rows encB (bl (wn b) (tbt b))) ∧ Upd No w w') := by
 have HU : Upd (fun b => False) w w := Upd.refl _ _
 have hl_hsb := ilen hsb
 have hc_hsb := hsb.cap.1
 have hcl := cl_bd hb hc
 have hc1 := hc.1
 refine calls_of_W Try.func54 rfl Try.ntmps54 (by simp) ?_
 refine W_seq ?_
 refine W_region ?_
 refine Wl_v (r_as (v := .pointer none) rfl) ?_
 refine Wl_v (r_as (v := .int .i64 0) rfl) ?_
 refine Wl_nil ?_
 refine W_seq ?_
 refine W_region ?_
 refine Wl_v (r_mv (v := .slice a2 m d) rfl) ?_
 refine Wl_call (r_call1 rfl Try.call78 rfl) (rrow_spec _ hsb.any hb (by omega)) ?_
 rintro v w1 ⟨a1, c1, rfl, hO1, hU1⟩
 have hzw1 := hU1.size
 replace hsb := hsb.upd0 hU1
 replace HU := HU.trans0 hU1
 replace hO1 := hO1.tight
 have hl_hO1 := rlen encB_len (by decide) hO1.sl
 have hc_hO1 := hO1.sl.cap.1
 refine Wl_v (r_as (v := .slice a1 (8 * m) c1) rfl) ?_
 refine Wl_nil ?_
 refine W_seq ?_
 refine W_seq ?_
 refine W_region ?_
 refine Wl_v (r_mv (v := .slice a2 m d) rfl) ?_
 refine Wl_v (r_len Try.underlying23 rfl) ?_
 refine Wl_v (r_eq rfl rfl) ?_
 refine Wl_v (r_mv (v := .bool (decide (((m : Nat) : Int) = 0))) rfl) ?_
 have q1 : ¬ (((m : Nat) : Int) = 0) := (by omega)
 rw [decide_eq_false q1]
 refine Wl_guard_t rfl ?_
 refine Wl_v (r_mv (v := .slice a2 m d) rfl) ?_
 refine Wl_guard_t rfl ?_
 refine Wl_v (r_mv (v := .slice a2 m d) rfl) ?_
 refine Wl_guard_t rfl ?_
 refine Wl_v (r_len Try.underlying23 rfl) ?_
 refine Wl_guard_t rfl ?_
 refine Wl_v (r_sub rfl rfl (wi64 (by omega) (by omega))) ?_
 refine Wl_guard_t rfl ?_
 refine Wl_idxi Try.underlying23 Try.sizeOf5 rfl rfl hsb (by omega) (by omega) ?_
 intro ib2 io2 hc2
 refine Wl_guard_t rfl ?_
 refine Wl_loadc Try.isAgg5 rfl hc2 ?_
 refine Wl_guard_t rfl ?_
 refine Wl_v (r_eq rfl rfl) ?_
 refine Wl_v (r_pick_f (v := .bool (decide ((b.getD (((m : Nat) : Int) - 1).toNat 0) = 0))) rfl rfl) ?_
 refine Wl_nil ?_
 have q2 : ¬ ((b.getD (((m : Nat) : Int) - 1).toNat 0) = 0) := (by rw [show (((m : Nat) : Int) - 1).toNat = m - 1 from by omega]; have := hc.2; rwa [show b.length = m from by omega] at this)
 rw [decide_eq_false q2]
 refine W_cond_f rfl ?_
 refine W_skip ?_
 refine W_seq ?_
 refine W_block ?_
 refine W_loop (fun mu ρ ds w' => ∃ (q : Nat), q = mu ∧ ds = [] ∧ Liv ρ [(4, .slice a1 q c1)] ∧ tbt b + 1 ≤ q ∧ q ≤ 8 * m ∧ wn b < 2 ^ q ∧ Sl w' (fun g => ((w.heap.size ≤ g) ∧ g < w1.heap.size)) 1 (.slice a1 q c1) q (rows encB (bl (wn b) q)) ∧ Upd No w1 w') _ ⟨(8 * m), rfl, rfl, ⟨(by first | rfl | exact vint (by omega) | exact vint (by simp)), trivial⟩, (by omega), (by omega), (by rw [← p256]; have := wn_lt hb; rwa [show b.length = m from by omega] at this), hO1.sl, Upd.refl _ _⟩ ?_
 rintro m3 ρ3 ds3 w3 ⟨q, rfl, rfl, hl3, hq0, hq8, hlt, hR9, hU3⟩
 obtain ⟨ρ3x, rfl⟩ : ∃ ρx, ρ3 = upds ρx [(4, .slice a1 q c1)] := ⟨_, upds_self hl3⟩
 clear hl3
 have hzw3 := hU3.size
 replace HU := HU.trans0 hU3
 have HL3 := hU3
 refine W_seq ?_
 refine W_seq ?_
 refine W_region ?_
 refine Wl_v (r_mv (v := .slice a1 q c1) rfl) ?_
 refine Wl_v (r_mv (v := .slice a1 q c1) rfl) ?_
 refine Wl_v (r_len Try.underlying72 rfl) ?_
 refine Wl_v (r_sub rfl rfl (wi64 (by omega) (by omega))) ?_
 refine Wl_idxr false encB_len (by decide) Try.underlying72 Try.sizeOf4 rfl rfl hR9 (by omega) (by omega) ?_
 intro ib4 io4 hc4
 refine Wl_loadc (v := .bool (decide (((bl (wn b) q).getD (((q : Nat) : Int) - 1).toNat false) = true))) Try.isAgg4 rfl (hc4 0 (by decide)) ?_
 refine Wl_v (r_not rfl) ?_
 refine Wl_nil ?_
 by_cases q3 : ((bl (wn b) q).getD (((q : Nat) : Int) - 1).toNat false) = true
 ·have hq1 : (((q : Nat) : Int) - 1).toNat = q - 1 := by omega
  have hbit : wn b / 2 ^ (q - 1) % 2 = 1 := by rw [hq1, bl_get (by omega)] at q3; simpa using q3
  have hqe : q - 1 = tbt b := by
   have h5 := top_bit hlt (by omega) hbit
   exact tb_uniq h5 (by rwa [show q - 1 + 1 = q from by omega]) hcl.1 hcl.2.1
  rw [decide_eq_true q3]
  simp only [Bool.not_true, Bool.not_false]
  refine W_cond_f rfl ?_
  refine W_exit ?_
  refine W_seq ?_
  refine W_region ?_
  refine Wl_v (r_mv (v := .slice a1 q c1) rfl) ?_
  refine Wl_v (r_mv (v := .slice a1 q c1) rfl) ?_
  refine Wl_v (r_len Try.underlying72 rfl) ?_
  refine Wl_v (r_sub rfl rfl (wi64 (by omega) (by omega))) ?_
  refine Wl_v (r_slicehn (h' := (((q : Nat) : Int) - 1).toNat) Try.underlying72 Try.sizeOf4 rfl rfl (by omega) (by omega)) ?_
  have hT5 := Sl.rhd (k := (((q : Nat) : Int) - 1).toNat) encB_len hR9 (by omega)
  refine Wl_v (r_build (pl := #[(0, 1), (1, 1)]) (pv := [(0, .slice a1 ((((q : Nat) : Int) - 1).toNat) c1)]) (cs := #[.slice a1 ((((q : Nat) : Int) - 1).toNat) c1, .int .i64 0]) Try.zeroValue97 Try.underlying97 (fun w => by kernel_rfl) (by simp only [List.map_toArray, List.map_cons, List.map_nil] <;> rfl) (by kernel_rfl)) ?_
  refine Wl_box (v := .agg #[.slice a1 ((((q : Nat) : Int) - 1).toNat) c1, .int .i64 0]) (cs := [.slice a1 ((((q : Nat) : Int) - 1).toNat) c1, .int .i64 0]) rfl rfl ?_
  intro B6 w6 hB6 hU6 hzz6 hb6
  have hzw6 := hU6.size
  replace HU := HU.trans0 hU6
  replace hT5 := hT5.upd0 hU6
  refine Wl_v (r_as (v := .pointer (some ⟨B6, 0, none⟩)) rfl) ?_
  refine Wl_v (r_as (v := .int .i64 0) rfl) ?_
  refine Wl_nil ?_
  refine W_ret ?_
  refine ret_end (v := .tuple #[.pointer (some ⟨B6, 0, none⟩), .int .i64 0]) rfl (res2 Try.results54 rfl rfl) ?_
  have hq2 : (((q : Nat) : Int) - 1).toNat = tbt b := by omega
  exact ⟨_, rfl, B6, a1, c1, rfl, (by rw [← hq2]; exact hb6), (by rw [← hq2]; exact (hT5.weak (by intro g hg; have h3 : ((w.heap.size ≤ g) ∧ g < w1.heap.size) := hg; show w.heap.size ≤ g; omega)).rcong2 (bl_take (by omega))), HU⟩
 ·have hq1 : (((q : Nat) : Int) - 1).toNat = q - 1 := by omega
  have hbit : ¬ wn b / 2 ^ (q - 1) % 2 = 1 := by rw [hq1, bl_get (by omega)] at q3; simpa using q3
  have hnb := no_bit hlt (by omega) hbit
  have htq : tbt b < q - 1 := (Nat.pow_lt_pow_iff_right (by decide)).1 (Nat.lt_of_le_of_lt hcl.1 hnb)
  rw [decide_eq_false q3]
  simp only [Bool.not_true, Bool.not_false]
  refine W_cond_t rfl ?_
  refine W_skip ?_
  refine W_block ?_
  refine W_region ?_
  refine Wl_v (r_mv (v := .slice a1 q c1) rfl) ?_
  refine Wl_v (r_mv (v := .slice a1 q c1) rfl) ?_
  refine Wl_v (r_len Try.underlying72 rfl) ?_
  refine Wl_v (r_sub rfl rfl (wi64 (by omega) (by omega))) ?_
  refine Wl_v (r_slicehn (h' := (((q : Nat) : Int) - 1).toNat) Try.underlying72 Try.sizeOf4 rfl rfl (by omega) (by omega)) ?_
  have hT7 := Sl.rhd (k := (((q : Nat) : Int) - 1).toNat) encB_len hR9 (by omega)
  refine Wl_v (r_as (v := .slice a1 ((((q : Nat) : Int) - 1).toNat) c1) rfl) ?_
  refine Wl_nil ?_
  refine ⟨_, ?_, (q - 1), rfl, rfl, ⟨(Eq.trans (b := .slice a1 ((((q : Nat) : Int) - 1).toNat) c1) rfl (by rw [hq1])), trivial⟩, (by omega), (by omega), (no_bit hlt (by omega) hbit), (by rw [← hq1]; exact hT7.rcong2 (bl_take (by omega))), HL3⟩
  omega

set_option maxRecDepth 100000 in
theorem rbwd_no {a2 : Option Addr} {m d : Nat} {b : List Int} (w : World) (hsb : Sl w (fun g => g < w.heap.size) 1 (.slice a2 m d) m (ints .u8 b)) (hb : Byt b) (hm : m ≤ 100000) (hc : ¬ Cl b) :
  Calls Try.prog 54 #[.slice a2 m d] w (Ret fun v w' => v = .tuple #[.pointer none, .int .i64 14] ∧ Upd No w w') := by
 have HU : Upd (fun b => False) w w := Upd.refl _ _
 have hl_hsb := ilen hsb
 have hc_hsb := hsb.cap.1
 refine calls_of_W Try.func54 rfl Try.ntmps54 (by simp) ?_
 refine W_seq ?_
 refine W_region ?_
 refine Wl_v (r_as (v := .pointer none) rfl) ?_
 refine Wl_v (r_as (v := .int .i64 0) rfl) ?_
 refine Wl_nil ?_
 refine W_seq ?_
 refine W_region ?_
 refine Wl_v (r_mv (v := .slice a2 m d) rfl) ?_
 refine Wl_call (r_call1 rfl Try.call78 rfl) (rrow_spec _ hsb.any hb (by omega)) ?_
 rintro v w1 ⟨a1, c1, rfl, hO1, hU1⟩
 have hzw1 := hU1.size
 replace hsb := hsb.upd0 hU1
 replace HU := HU.trans0 hU1
 replace hO1 := hO1.tight
 have hl_hO1 := rlen encB_len (by decide) hO1.sl
 have hc_hO1 := hO1.sl.cap.1
 refine Wl_v (r_as (v := .slice a1 (8 * m) c1) rfl) ?_
 refine Wl_nil ?_
 refine W_seq ?_
 refine W_seq ?_
 refine W_region ?_
 refine Wl_v (r_mv (v := .slice a2 m d) rfl) ?_
 refine Wl_v (r_len Try.underlying23 rfl) ?_
 refine Wl_v (r_eq rfl rfl) ?_
 refine Wl_v (r_mv (v := .bool (decide (((m : Nat) : Int) = 0))) rfl) ?_
 by_cases q1 : ((m : Nat) : Int) = 0
 ·rw [decide_eq_true q1]
  refine Wl_guard_f rfl ?_
  refine Wl_guard_f rfl ?_
  refine Wl_guard_f rfl ?_
  refine Wl_guard_f rfl ?_
  refine Wl_guard_f rfl ?_
  refine Wl_guard_f rfl ?_
  refine Wl_guard_f rfl ?_
  refine Wl_v (r_pick_t (v := .bool true) rfl rfl) ?_
  refine Wl_nil ?_
  refine W_cond_t rfl ?_
  refine W_seq ?_
  refine W_region ?_
  refine Wl_v (r_as (v := .pointer none) rfl) ?_
  refine Wl_v (r_as (v := .int .i64 14) rfl) ?_
  refine Wl_nil ?_
  refine W_ret ?_
  refine ret_end (v := .tuple #[.pointer none, .int .i64 14]) rfl (res2 Try.results54 rfl rfl) ?_
  exact ⟨_, rfl, rfl, HU⟩
 ·rw [decide_eq_false q1]
  refine Wl_guard_t rfl ?_
  refine Wl_v (r_mv (v := .slice a2 m d) rfl) ?_
  refine Wl_guard_t rfl ?_
  refine Wl_v (r_mv (v := .slice a2 m d) rfl) ?_
  refine Wl_guard_t rfl ?_
  refine Wl_v (r_len Try.underlying23 rfl) ?_
  refine Wl_guard_t rfl ?_
  refine Wl_v (r_sub rfl rfl (wi64 (by omega) (by omega))) ?_
  refine Wl_guard_t rfl ?_
  refine Wl_idxi Try.underlying23 Try.sizeOf5 rfl rfl hsb (by omega) (by omega) ?_
  intro ib2 io2 hc2
  refine Wl_guard_t rfl ?_
  refine Wl_loadc Try.isAgg5 rfl hc2 ?_
  refine Wl_guard_t rfl ?_
  refine Wl_v (r_eq rfl rfl) ?_
  refine Wl_v (r_pick_f (v := .bool (decide ((b.getD (((m : Nat) : Int) - 1).toNat 0) = 0))) rfl rfl) ?_
  refine Wl_nil ?_
  have q2 : (b.getD (((m : Nat) : Int) - 1).toNat 0) = 0 := (by rw [show (((m : Nat) : Int) - 1).toNat = m - 1 from by omega]; exact Classical.byContradiction fun h => hc ⟨by omega, by rw [show b.length = m from by omega]; exact h⟩)
  rw [decide_eq_true q2]
  refine W_cond_t rfl ?_
  refine W_seq ?_
  refine W_region ?_
  refine Wl_v (r_as (v := .pointer none) rfl) ?_
  refine Wl_v (r_as (v := .int .i64 14) rfl) ?_
  refine Wl_nil ?_
  refine W_ret ?_
  refine ret_end (v := .tuple #[.pointer none, .int .i64 14]) rfl (res2 Try.results54 rfl rfl) ?_
  exact ⟨_, rfl, rfl, HU⟩

set_option maxHeartbeats 2000000 in
set_option maxRecDepth 100000 in
theorem reach_ok {a a2 : Option Addr} {n c m d : Nat} {l b : List Int} {R : Nat → Prop} (w : World) (hs : Sl w R 1 (.slice a n c) n (ints .i64 l)) (hn : n ≤ 1000) (hsb : Sl w (fun g => g < w.heap.size) 1 (.slice a2 m d) m (ints .u8 b)) (hb : Byt b) (hm : m ≤ 100000) (hr : Rt l) (hc : Cl b) :
  Calls Try.prog 28 #[.slice a n c, .slice a2 m d] w (Ret fun v w' => ∃ (a' : Option Addr) (c' : Nat) (e' : Option Addr) (f' : Nat), v = .tuple #[.slice a' (nb l (wn b) (tbt b)) c', .slice e' (nb l (wn b) (tbt b)) f', .bool (decide (st l (wn b) (tbt b) (nb l (wn b) (tbt b)) = 0))] ∧ Own w' (fun g => w.heap.size ≤ g) 5 1 (.slice a' (nb l (wn b) (tbt b)) c') (nb l (wn b) (tbt b)) (ints .u8 (yms l (wn b) (tbt b) (nb l (wn b) (tbt b)))) ∧ Own w' (fun g => w.heap.size ≤ g) 3 1 (.slice e' (nb l (wn b) (tbt b)) f') (nb l (wn b) (tbt b)) (ints .i64 (sts l (wn b) (tbt b) (nb l (wn b) (tbt b)))) ∧ Upd No w w') := by
 have HU : Upd (fun b => False) w w := Upd.refl _ _
 have hl_hs := ilen hs
 have hc_hs := hs.cap.1
 replace hs := hs.tight
 have hl_hsb := ilen hsb
 have hc_hsb := hsb.cap.1
 have hcl := cl_bd hb hc
 refine calls_of_W Try.func28 rfl Try.ntmps28 (by simp) ?_
 refine W_seq ?_
 refine W_region ?_
 refine Wl_v (r_as (v := .slice none 0 0) rfl) ?_
 refine Wl_v (r_as (v := .slice none 0 0) rfl) ?_
 refine Wl_v (r_as (v := .bool false) rfl) ?_
 refine Wl_nil ?_
 refine W_seq ?_
 refine W_region ?_
 refine Wl_v (r_mv (v := .slice a2 m d) rfl) ?_
 refine Wl_call (r_call1 rfl Try.call54 rfl) (rbwd_ok _ hsb.any hb (by omega) hc) ?_
 rintro v w1 ⟨rr1, a1, c1, rfl, hB1, hS1, hU1⟩
 have hzw1 := hU1.size
 replace hs := hs.upd0 hU1
 replace HU := HU.trans0 hU1
 have hbl_hB1 := hB1.lt
 have hl_hS1 := rlen encB_len (by decide) hS1
 have hc_hS1 := hS1.cap.1
 replace hS1 := hS1.tight
 refine Wl_v (r_mv (v := .tuple #[.pointer (some ⟨rr1, 0, none⟩), .int .i64 0]) rfl) ?_
 refine Wl_v (r_ext (v := .pointer (some ⟨rr1, 0, none⟩)) rfl rfl) ?_
 refine Wl_v (r_ext (v := .int .i64 0) rfl rfl) ?_
 refine Wl_v (r_as (v := .pointer (some ⟨rr1, 0, none⟩)) rfl) ?_
 refine Wl_v (r_as (v := .int .i64 0) rfl) ?_
 refine Wl_nil ?_
 refine W_seq ?_
 refine W_seq ?_
 refine W_region ?_
 refine Wl_v (r_mv (v := .int .i64 0) rfl) ?_
 refine Wl_v (v := .bool false) (r_ne (a := 0) (b := 0) rfl rfl) ?_
 refine Wl_nil ?_
 refine W_cond_f rfl ?_
 refine W_skip ?_
 refine W_seq ?_
 refine W_region ?_
 refine Wl_v (r_as (v := .slice none 0 0) rfl) ?_
 refine Wl_nil ?_
 refine W_seq ?_
 refine W_region ?_
 refine Wl_v (r_as (v := .slice none 0 0) rfl) ?_
 refine Wl_nil ?_
 refine W_seq ?_
 refine W_region ?_
 refine Wl_v (r_mv (v := .pointer (some ⟨rr1, 0, none⟩)) rfl) ?_
 refine Wl_v (r_nil rfl) ?_
 refine Wl_v (r_fld Try.underlying97 rfl Try.sizeOf72 rfl rfl) ?_
 refine Wl_load (v := .slice a1 (tbt b) c1) Try.isAgg72 rfl hB1 rfl ?_
 refine Wl_v (r_as (v := .slice a1 (tbt b) c1) rfl) ?_
 refine Wl_nil ?_
 refine W_seq ?_
 refine W_block ?_
 refine W_loop (fun mu ρ ds w' => ∃ (k : Nat) (a8 : Option Addr) (c8 : Nat) (a9 : Option Addr) (c9 g1 g2 : Nat), st l (wn b) (tbt b) k = mu ∧ ds = [] ∧ Liv ρ [(0, .slice a n c), (9, .slice a8 k c8), (10, .slice a9 k c9), (11, .slice a1 (st l (wn b) (tbt b) k) c1)] ∧ Gd l b (tbt b) k ∧ (g1 ≠ g2 ∨ g1 < w1.heap.size) ∧ k ≤ 1000000 ∧ st l (wn b) (tbt b) k ≤ tbt b ∧ Sl w' (fun g => ((w.heap.size ≤ g) ∧ g < w1.heap.size)) 1 (.slice a1 (st l (wn b) (tbt b) k) c1) (st l (wn b) (tbt b) k) (rows encB (bl (wn b) (st l (wn b) (tbt b) k))) ∧ Own w' (fun g => g = g1 ∧ w1.heap.size ≤ g) 5 1 (.slice a8 k c8) k (ints .u8 (yms l (wn b) (tbt b) k)) ∧ Own w' (fun g => g = g2 ∧ w1.heap.size ≤ g) 3 1 (.slice a9 k c9) k (ints .i64 (sts l (wn b) (tbt b) k)) ∧ (g1 < (w').heap.size ∧ g2 < (w').heap.size) ∧ Upd (fun g => w1.heap.size ≤ g) w1 w') _ ⟨0, none, 0, none, 0, 0, 0, rfl, rfl, ⟨rfl, (by first | rfl | exact vint (by omega) | exact vint (by simp)), (by first | rfl | exact vint (by omega) | exact vint (by simp)), (by first | rfl | exact vint (by omega) | exact vint (by simp)), trivial⟩, (Gd.zero _ _ _), (by omega), (by omega), (st_le _ _ _), hS1, (by simpa [yms, tabn, ints] using Own.nil _ _ _ _), (by simpa [sts, tabn, ints] using Own.nil _ _ _ _), (by omega), Upd.refl _ _⟩ ?_
 rintro m2 ρ2 ds2 w2 ⟨k, a8, c8, a9, c9, g1, g2, rfl, rfl, hl2, hG, hg12, hk6, hst, hS1, hO1, hO2, hgs, hU2⟩
 obtain ⟨ρ2x, rfl⟩ : ∃ ρx, ρ2 = upds ρx [(0, .slice a n c), (9, .slice a8 k c8), (10, .slice a9 k c9), (11, .slice a1 (st l (wn b) (tbt b) k) c1)] := ⟨_, upds_self hl2⟩
 clear hl2
 have hzw2 := hU2.size
 replace hs := hs.upd hU2 (by intro x h1 h2; have h3 : ((R x) ∧ x < w.heap.size) := h1; have h4 : w1.heap.size ≤ x := h2; omega)
 replace HU := HU.trans hU2 (by intro x hx; have hx2 : w1.heap.size ≤ x := hx; show (False) ∨ w.heap.size ≤ x; omega)
 have HL2 := hU2
 refine W_seq ?_
 refine W_seq ?_
 refine W_region ?_
 refine Wl_v (r_mv (v := .slice a1 (st l (wn b) (tbt b) k) c1) rfl) ?_
 refine Wl_v (r_len Try.underlying72 rfl) ?_
 refine Wl_v (r_gt rfl rfl) ?_
 refine Wl_nil ?_
 by_cases q1 : 0 < ((st l (wn b) (tbt b) k : Nat) : Int)
 ·rw [decide_eq_true q1]
  refine W_cond_t rfl ?_
  refine W_skip ?_
  refine W_block ?_
  refine W_seq ?_
  refine W_region ?_
  refine Wl_v (r_mv (v := .slice a1 (st l (wn b) (tbt b) k) c1) rfl) ?_
  refine Wl_v (r_len Try.underlying72 rfl) ?_
  refine Wl_v (r_min rfl rfl) ?_
  refine Wl_v (r_as (v := .int .i64 (min ((st l (wn b) (tbt b) k : Nat) : Int) 11)) rfl) ?_
  rw [show (min ((st l (wn b) (tbt b) k : Nat) : Int) 11 : Int) = ((min (st l (wn b) (tbt b) k) 11 : Nat) : Int) from by omega]
  refine Wl_nil ?_
  refine W_seq ?_
  refine W_region ?_
  refine Wl_v (r_as (v := .int .u64 0) rfl) ?_
  refine Wl_nil ?_
  refine W_seq ?_
  refine W_seq ?_
  refine W_region ?_
  refine Wl_v (r_as (v := .int .i64 0) rfl) ?_
  refine Wl_nil ?_
  refine W_block ?_
  refine W_loop (fun mu ρ ds w' => ∃ (i : Nat), min (st l (wn b) (tbt b) k) 11 - i = mu ∧ ds = [] ∧ Liv ρ [(0, .slice a n c), (9, .slice a8 k c8), (10, .slice a9 k c9), (11, .slice a1 (st l (wn b) (tbt b) k) c1), (12, .int .i64 ((min (st l (wn b) (tbt b) k) 11 : Nat) : Int)), (13, .int .u64 ((wd (wn b) (st l (wn b) (tbt b) k) i : Nat) : Int)), (14, .int .i64 ((i : Nat) : Int))] ∧ i ≤ min (st l (wn b) (tbt b) k) 11 ∧ Upd No w2 w') _ ⟨0, rfl, rfl, ⟨rfl, rfl, rfl, rfl, rfl, (Eq.trans (b := .int .u64 0) rfl (vint (by simp [wd, Nat.mod_one]))), (by first | rfl | exact vint (by omega) | exact vint (by simp)), trivial⟩, (by omega), Upd.refl _ _⟩ ?_
  rintro m3 ρ3 ds3 w3 ⟨i, rfl, rfl, hl3, hi, hU3⟩
  obtain ⟨ρ3x, rfl⟩ : ∃ ρx, ρ3 = upds ρx [(0, .slice a n c), (9, .slice a8 k c8), (10, .slice a9 k c9), (11, .slice a1 (st l (wn b) (tbt b) k) c1), (12, .int .i64 ((min (st l (wn b) (tbt b) k) 11 : Nat) : Int)), (13, .int .u64 ((wd (wn b) (st l (wn b) (tbt b) k) i : Nat) : Int)), (14, .int .i64 ((i : Nat) : Int))] := ⟨_, upds_self hl3⟩
  clear hl3
  have hzw3 := hU3.size
  replace hs := hs.upd0 hU3
  replace HU := HU.trans0 hU3
  replace hS1 := hS1.upd0 hU3
  replace hO1 := hO1.upd0 hU3
  replace hO2 := hO2.upd0 hU3
  replace hgs := hgs
  replace HL2 := HL2.trans0 hU3
  have HL3 := hU3
  refine W_seq ?_
  refine W_seq ?_
  refine W_region ?_
  refine Wl_v (r_mv (v := .int .i64 ((i : Nat) : Int)) rfl) ?_
  refine Wl_v (r_mv (v := .int .i64 ((min (st l (wn b) (tbt b) k) 11 : Nat) : Int)) rfl) ?_
  refine Wl_v (r_lt rfl rfl) ?_
  refine Wl_nil ?_
  by_cases q2 : ((i : Nat) : Int) < ((min (st l (wn b) (tbt b) k) 11 : Nat) : Int)
  ·have hwl : wd (wn b) (st l (wn b) (tbt b) k) i < 2048 := by
    have h1 := wd_lt (wn b) (st l (wn b) (tbt b) k) i
    have h2 : 2 ^ i ≤ 2 ^ 11 := Nat.pow_le_pow_right (by decide) (by omega)
    omega
   rw [decide_eq_true q2]
   refine W_cond_t rfl ?_
   refine W_skip ?_
   refine W_seq ?_
   refine W_block ?_
   refine W_seq ?_
   refine W_region ?_
   refine Wl_v (r_mv (v := .int .u64 ((wd (wn b) (st l (wn b) (tbt b) k) i : Nat) : Int)) rfl) ?_
   refine Wl_v (r_mul rfl rfl (wu64 (by omega) (by omega))) ?_
   refine Wl_v (r_as (v := .int .u64 (2 * ((wd (wn b) (st l (wn b) (tbt b) k) i : Nat) : Int))) rfl) ?_
   refine Wl_nil ?_
   refine W_seq ?_
   refine W_region ?_
   refine Wl_v (r_mv (v := .slice a1 (st l (wn b) (tbt b) k) c1) rfl) ?_
   refine Wl_v (r_mv (v := .slice a1 (st l (wn b) (tbt b) k) c1) rfl) ?_
   refine Wl_v (r_len Try.underlying72 rfl) ?_
   refine Wl_v (r_sub rfl rfl (wi64 (by omega) (by omega))) ?_
   refine Wl_v (r_mv (v := .int .i64 ((i : Nat) : Int)) rfl) ?_
   refine Wl_v (r_sub rfl rfl (wi64 (by omega) (by omega))) ?_
   refine Wl_idxr false encB_len (by decide) Try.underlying72 Try.sizeOf4 rfl rfl hS1 (by omega) (by omega) ?_
   intro ib4 io4 hc4
   refine Wl_loadc (v := .bool (decide (((bl (wn b) (st l (wn b) (tbt b) k)).getD ((((st l (wn b) (tbt b) k : Nat) : Int) - 1) - ((i : Nat) : Int)).toNat false) = true))) Try.isAgg4 rfl (hc4 0 (by decide)) ?_
   refine Wl_nil ?_
   by_cases q3 : ((bl (wn b) (st l (wn b) (tbt b) k)).getD ((((st l (wn b) (tbt b) k : Nat) : Int) - 1) - ((i : Nat) : Int)).toNat false) = true
   ·have hbit : wn b / 2 ^ (st l (wn b) (tbt b) k - 1 - i) % 2 = 1 := by rw [show ((((st l (wn b) (tbt b) k : Nat) : Int) - 1) - ((i : Nat) : Int)).toNat = st l (wn b) (tbt b) k - 1 - i from by omega, bl_get (by omega)] at q3; simpa using q3
    rw [decide_eq_true q3]
    refine W_cond_t rfl ?_
    refine W_region ?_
    refine Wl_v (r_mv (v := .int .u64 (2 * ((wd (wn b) (st l (wn b) (tbt b) k) i : Nat) : Int))) rfl) ?_
    refine Wl_v (r_add rfl rfl (wu64 (by omega) (by omega))) ?_
    refine Wl_v (r_as (v := .int .u64 ((2 * ((wd (wn b) (st l (wn b) (tbt b) k) i : Nat) : Int)) + 1)) rfl) ?_
    refine Wl_nil ?_
    refine W_region ?_
    refine Wl_v (r_mv (v := .int .i64 ((i : Nat) : Int)) rfl) ?_
    refine Wl_v (r_add rfl rfl (wi64 (by omega) (by omega))) ?_
    refine Wl_v (r_as (v := .int .i64 (((i : Nat) : Int) + 1)) rfl) ?_
    refine Wl_nil ?_
    refine ⟨_, ?_, (i + 1), rfl, rfl, ⟨rfl, rfl, rfl, rfl, rfl, (Eq.trans (b := .int .u64 ((2 * ((wd (wn b) (st l (wn b) (tbt b) k) i : Nat) : Int)) + 1)) rfl (vint (by rw [wd_succ (by omega)]; omega))), (Eq.trans (b := .int .i64 (((i : Nat) : Int) + 1)) rfl (vint (by omega))), trivial⟩, (by omega), HL3⟩
    omega
   ·have hbit : ¬ wn b / 2 ^ (st l (wn b) (tbt b) k - 1 - i) % 2 = 1 := by rw [show ((((st l (wn b) (tbt b) k : Nat) : Int) - 1) - ((i : Nat) : Int)).toNat = st l (wn b) (tbt b) k - 1 - i from by omega, bl_get (by omega)] at q3; simpa using q3
    rw [decide_eq_false q3]
    refine W_cond_f rfl ?_
    refine W_skip ?_
    refine W_region ?_
    refine Wl_v (r_mv (v := .int .i64 ((i : Nat) : Int)) rfl) ?_
    refine Wl_v (r_add rfl rfl (wi64 (by omega) (by omega))) ?_
    refine Wl_v (r_as (v := .int .i64 (((i : Nat) : Int) + 1)) rfl) ?_
    refine Wl_nil ?_
    refine ⟨_, ?_, (i + 1), rfl, rfl, ⟨rfl, rfl, rfl, rfl, rfl, (Eq.trans (b := .int .u64 (2 * ((wd (wn b) (st l (wn b) (tbt b) k) i : Nat) : Int))) rfl (vint (by rw [wd_succ (by omega)]; omega))), (Eq.trans (b := .int .i64 (((i : Nat) : Int) + 1)) rfl (vint (by omega))), trivial⟩, (by omega), HL3⟩
    omega
  ·rw [decide_eq_false q2]
   obtain rfl : i = min (st l (wn b) (tbt b) k) 11 := by omega
   have hw11 := wd11 (wn b) (st l (wn b) (tbt b) k)
   refine W_cond_f rfl ?_
   refine W_exit ?_
   refine W_seq ?_
   refine W_region ?_
   refine Wl_v (r_mv (v := .slice a n c) rfl) ?_
   refine Wl_v (r_mv (v := .int .u64 ((wd (wn b) (st l (wn b) (tbt b) k) (min (st l (wn b) (tbt b) k) 11) : Nat) : Int)) rfl) ?_
   refine Wl_v (r_mv (v := .int .i64 ((min (st l (wn b) (tbt b) k) 11 : Nat) : Int)) rfl) ?_
   refine Wl_call (r_call3 rfl Try.call58 rfl rfl rfl) (read_spec _ hs (by omega) (by omega) (by omega)) ?_
   rintro v w5 ⟨rfl, hU5⟩
   have hzw5 := hU5.size
   replace HU := HU.trans0 hU5
   replace hS1 := hS1.upd0 hU5
   replace hO1 := hO1.upd0 hU5
   replace hO2 := hO2.upd0 hU5
   replace hgs := hgs
   replace HL2 := HL2.trans0 hU5
   refine Wl_v (r_mv (v := .tuple #[.int .i64 ((dec l ((wd (wn b) (st l (wn b) (tbt b) k) (min (st l (wn b) (tbt b) k) 11) : Nat) : Int) ((min (st l (wn b) (tbt b) k) 11 : Nat) : Int)).1), .int .i64 ((dec l ((wd (wn b) (st l (wn b) (tbt b) k) (min (st l (wn b) (tbt b) k) 11) : Nat) : Int) ((min (st l (wn b) (tbt b) k) 11 : Nat) : Int)).2.1), .int .i64 ((dec l ((wd (wn b) (st l (wn b) (tbt b) k) (min (st l (wn b) (tbt b) k) 11) : Nat) : Int) ((min (st l (wn b) (tbt b) k) 11 : Nat) : Int)).2.2)]) rfl) ?_
   rw [show dec l ((wd (wn b) (st l (wn b) (tbt b) k) (min (st l (wn b) (tbt b) k) 11) : Nat) : Int) ((min (st l (wn b) (tbt b) k) 11 : Nat) : Int) = nd l (wn b) (st l (wn b) (tbt b) k) from rfl]
   refine Wl_v (r_ext (v := .int .i64 ((nd l (wn b) (st l (wn b) (tbt b) k)).1)) rfl rfl) ?_
   refine Wl_v (r_ext (v := .int .i64 ((nd l (wn b) (st l (wn b) (tbt b) k)).2.1)) rfl rfl) ?_
   refine Wl_v (r_ext (v := .int .i64 ((nd l (wn b) (st l (wn b) (tbt b) k)).2.2)) rfl rfl) ?_
   refine Wl_v (r_as (v := .int .i64 ((nd l (wn b) (st l (wn b) (tbt b) k)).1)) rfl) ?_
   refine Wl_v (r_as (v := .int .i64 ((nd l (wn b) (st l (wn b) (tbt b) k)).2.1)) rfl) ?_
   refine Wl_v (r_as (v := .int .i64 ((nd l (wn b) (st l (wn b) (tbt b) k)).2.2)) rfl) ?_
   refine Wl_nil ?_
   refine W_seq ?_
   refine W_seq ?_
   refine W_region ?_
   refine Wl_v (r_mv (v := .int .i64 ((nd l (wn b) (st l (wn b) (tbt b) k)).2.2)) rfl) ?_
   refine Wl_v (r_ne rfl rfl) ?_
   refine Wl_nil ?_
   by_cases q4 : ((nd l (wn b) (st l (wn b) (tbt b) k)).2.2) ≠ 0
   ·rw [decide_eq_true q4]
    have hst9 := hst
    have hN := nb_eq hr hG q4
    subst hN
    refine W_cond_t rfl ?_
    refine W_seq ?_
    refine W_region ?_
    refine Wl_v (r_mv (v := .slice a8 (nb l (wn b) (tbt b)) c8) rfl) ?_
    refine Wl_v (r_mv (v := .slice a9 (nb l (wn b) (tbt b)) c9) rfl) ?_
    refine Wl_v (r_as (v := .slice a8 (nb l (wn b) (tbt b)) c8) rfl) ?_
    refine Wl_v (r_as (v := .slice a9 (nb l (wn b) (tbt b)) c9) rfl) ?_
    refine Wl_v (r_as (v := .bool false) rfl) ?_
    refine Wl_nil ?_
    refine W_ret ?_
    refine ret_end (v := .tuple #[.slice a8 (nb l (wn b) (tbt b)) c8, .slice a9 (nb l (wn b) (tbt b)) c9, .bool false]) rfl (res3 Try.results28 rfl rfl rfl) ?_
    exact ⟨_, rfl, a8, c8, a9, c9, (vtup3 rfl rfl (by rw [decide_eq_false (by omega)])), (hO1.weak (by intro g hg; have h3 : g = g1 ∧ w1.heap.size ≤ g := hg; show w.heap.size ≤ g; omega)), (hO2.weak (by intro g hg; have h3 : g = g2 ∧ w1.heap.size ≤ g := hg; show w.heap.size ≤ g; omega)), HU⟩
   ·rw [decide_eq_false q4]
    have hgk : (nd l (wn b) (st l (wn b) (tbt b) k)).2.2 = 0 := by omega
    have hrng := nd_rng hr hgk
    have hs1 : st l (wn b) (tbt b) (k + 1) = st l (wn b) (tbt b) k - (nd l (wn b) (st l (wn b) (tbt b) k)).2.1.toNat := rfl
    have hs1t : (((st l (wn b) (tbt b) k : Nat) : Int) - (nd l (wn b) (st l (wn b) (tbt b) k)).2.1).toNat = st l (wn b) (tbt b) (k + 1) := by omega
    have hsg := st_go hr (hG.succ hgk)
    refine W_cond_f rfl ?_
    refine W_skip ?_
    refine W_seq ?_
    refine W_region ?_
    refine Wl_v (r_mv (v := .slice a1 (st l (wn b) (tbt b) k) c1) rfl) ?_
    refine Wl_v (r_mv (v := .slice a1 (st l (wn b) (tbt b) k) c1) rfl) ?_
    refine Wl_v (r_len Try.underlying72 rfl) ?_
    refine Wl_v (r_mv (v := .int .i64 ((nd l (wn b) (st l (wn b) (tbt b) k)).2.1)) rfl) ?_
    refine Wl_v (r_sub rfl rfl (wi64 (by omega) (by omega))) ?_
    refine Wl_v (r_slicehn (h' := (((st l (wn b) (tbt b) k : Nat) : Int) - ((nd l (wn b) (st l (wn b) (tbt b) k)).2.1)).toNat) Try.underlying72 Try.sizeOf4 rfl rfl (by omega) (by omega)) ?_
    have hT6 := Sl.rhd (k := (((st l (wn b) (tbt b) k : Nat) : Int) - ((nd l (wn b) (st l (wn b) (tbt b) k)).2.1)).toNat) encB_len hS1 (by omega)
    refine Wl_v (r_as (v := .slice a1 ((((st l (wn b) (tbt b) k : Nat) : Int) - ((nd l (wn b) (st l (wn b) (tbt b) k)).2.1)).toNat) c1) rfl) ?_
    refine Wl_nil ?_
    refine W_region ?_
    refine Wl_v (r_mv (v := .slice a8 k c8) rfl) ?_
    refine Wl_v (r_mv (v := .int .i64 ((nd l (wn b) (st l (wn b) (tbt b) k)).1)) rfl) ?_
    refine Wl_v (r_cvt Try.underlying3 Try.underlying5 rfl (mu8 _)) ?_
    rw [show (((nd l (wn b) (st l (wn b) (tbt b) k)).1) % 256 : Int) = (nd l (wn b) (st l (wn b) (tbt b) k)).1 from by omega]
    refine Wl_lit (pv := [(0, .int .u8 ((nd l (wn b) (st l (wn b) (tbt b) k)).1))]) (cs := [.int .u8 ((nd l (wn b) (st l (wn b) (tbt b) k)).1)]) Try.underlying23 Try.sizeOf5 Try.zeroValue5 (by decide) (by decide) (by simp only [List.map_toArray, List.map_cons, List.map_nil] <;> rfl) (by kernel_rfl) rfl (by decide) ?_
    intro B7 w7 hB7 hU7 hzz7 hs7
    have hzw7 := hU7.size
    replace hO1 := hO1.upd0 hU7
    replace hO2 := hO2.upd0 hU7
    replace hgs := hgs
    replace HL2 := HL2.trans0 hU7
    replace hT6 := hT6.upd0 hU7
    replace hs7 : Own w7 (Is B7) 5 1 (.slice (some ⟨B7, 0, none⟩) 1 1) 1 (ints .u8 [(nd l (wn b) (st l (wn b) (tbt b) k)).1]) := hs7
    refine Wl_appendi (xs := yms l (wn b) (tbt b) k) (ys := [(nd l (wn b) (st l (wn b) (tbt b) k)).1]) (zs := (yms l (wn b) (tbt b) k) ++ [(nd l (wn b) (st l (wn b) (tbt b) k)).1]) (k' := .u8) (tot := k + 1) (by first | rfl | exact (rows_app _ _).symm | simp) Try.underlying23 (ti := Try.t5) (z := .int .u8 0) (sz := 1) (by' := 1) rfl rfl rfl rfl rfl (by decide) rfl hO1 rfl hs7.sl  (by omega) (by simp only [maxLen]; omega) (by omega) ?_
    intro a8 c8 w8 hU8 hzz8 hO8
    clear hO1
    have hzw8 := hU8.size
    replace hO2 := hO2.upd hU8 (by intro x h1 h2; have h3 : x = g2 ∧ w1.heap.size ≤ x := h1; have h4 : x = g1 ∧ w1.heap.size ≤ x := h2; omega)
    replace hgs := hgs
    replace HL2 := HL2.trans hU8 (by intro x hx; have hx2 : x = g1 ∧ w1.heap.size ≤ x := hx; show (w1.heap.size ≤ x) ∨ w1.heap.size ≤ x; omega)
    replace hT6 := hT6.upd hU8 (by intro x h1 h2; have h3 : ((w.heap.size ≤ x) ∧ x < w1.heap.size) := h1; have h4 : x = g1 ∧ w1.heap.size ≤ x := h2; omega)
    replace hO8 := hO8.tight
    have hl_hO8 := ilen hO8.sl
    have hc_hO8 := hO8.sl.cap.1
    refine Wl_v (r_mv (v := .slice a9 k c9) rfl) ?_
    refine Wl_v (r_mv (v := .slice a1 ((((st l (wn b) (tbt b) k : Nat) : Int) - ((nd l (wn b) (st l (wn b) (tbt b) k)).2.1)).toNat) c1) rfl) ?_
    refine Wl_v (r_len Try.underlying72 rfl) ?_
    refine Wl_lit (pv := [(0, .int .i64 (((((st l (wn b) (tbt b) k : Nat) : Int) - ((nd l (wn b) (st l (wn b) (tbt b) k)).2.1)).toNat : Nat) : Int))]) (cs := [.int .i64 (((((st l (wn b) (tbt b) k : Nat) : Int) - ((nd l (wn b) (st l (wn b) (tbt b) k)).2.1)).toNat : Nat) : Int)]) Try.underlying22 Try.sizeOf3 Try.zeroValue3 (by decide) (by decide) (by simp only [List.map_toArray, List.map_cons, List.map_nil] <;> rfl) (by kernel_rfl) rfl (by decide) ?_
    intro B9 w9 hB9 hU9 hzz9 hs9
    have hzw9 := hU9.size
    replace hO2 := hO2.upd0 hU9
    replace hgs := hgs
    replace HL2 := HL2.trans0 hU9
    replace hT6 := hT6.upd0 hU9
    replace hO8 := hO8.upd0 hU9
    replace hs9 : Own w9 (Is B9) 3 1 (.slice (some ⟨B9, 0, none⟩) 1 1) 1 (ints .i64 [(((((st l (wn b) (tbt b) k : Nat) : Int) - ((nd l (wn b) (st l (wn b) (tbt b) k)).2.1)).toNat : Nat) : Int)]) := hs9
    refine Wl_appendi (xs := sts l (wn b) (tbt b) k) (ys := [(((((st l (wn b) (tbt b) k : Nat) : Int) - ((nd l (wn b) (st l (wn b) (tbt b) k)).2.1)).toNat : Nat) : Int)]) (zs := (sts l (wn b) (tbt b) k) ++ [(((((st l (wn b) (tbt b) k : Nat) : Int) - ((nd l (wn b) (st l (wn b) (tbt b) k)).2.1)).toNat : Nat) : Int)]) (k' := .i64) (tot := k + 1) (by first | rfl | exact (rows_app _ _).symm | simp) Try.underlying22 (ti := Try.t3) (z := .int .i64 0) (sz := 1) (by' := 8) rfl rfl rfl rfl rfl (by decide) rfl hO2 rfl hs9.sl  (by omega) (by simp only [maxLen]; omega) (by omega) ?_
    intro a10 c10 w10 hU10 hzz10 hO10
    clear hO2
    have hzw10 := hU10.size
    replace hgs := hgs
    replace HL2 := HL2.trans hU10 (by intro x hx; have hx2 : x = g2 ∧ w1.heap.size ≤ x := hx; show (w1.heap.size ≤ x) ∨ w1.heap.size ≤ x; omega)
    replace hT6 := hT6.upd hU10 (by intro x h1 h2; have h3 : ((w.heap.size ≤ x) ∧ x < w1.heap.size) := h1; have h4 : x = g2 ∧ w1.heap.size ≤ x := h2; omega)
    replace hO8 := hO8.upd hU10 (by intro x h1 h2; have h3 : ((((x = g1 ∧ w1.heap.size ≤ x) ∨ x = w7.heap.size)) ∧ x < w8.heap.size) := h1; have h4 : x = g2 ∧ w1.heap.size ≤ x := h2; omega)
    replace hO10 := hO10.tight
    have hl_hO10 := ilen hO10.sl
    have hc_hO10 := hO10.sl.cap.1
    refine Wl_v (r_as (v := .slice a8 (k + 1) c8) rfl) ?_
    refine Wl_v (r_as (v := .slice a10 (k + 1) c10) rfl) ?_
    refine Wl_nil ?_
    obtain ⟨h1, hR1, hP1⟩ := hO8.one (by omega)
    obtain ⟨h2, hR2, hP2⟩ := hO10.one (by omega)
    replace hR1 : ((((h1 = g1 ∧ w1.heap.size ≤ h1) ∨ h1 = w7.heap.size)) ∧ h1 < w8.heap.size) := hR1
    replace hR2 : ((((h2 = g2 ∧ w1.heap.size ≤ h2) ∨ h2 = w9.heap.size)) ∧ h2 < w10.heap.size) := hR2
    refine ⟨_, ?_, (k + 1), a8, c8, a10, c10, h1, h2, rfl, rfl, ⟨rfl, (by first | rfl | exact vint (by omega) | exact vint (by simp)), (by first | rfl | exact vint (by omega) | exact vint (by simp)), (Eq.trans (b := .slice a1 ((((st l (wn b) (tbt b) k : Nat) : Int) - ((nd l (wn b) (st l (wn b) (tbt b) k)).2.1)).toNat) c1) rfl (by rw [hs1t])), trivial⟩, (hG.succ hgk), (by omega), (by omega), (st_le _ _ _), (by rw [← hs1t]; exact (hT6.rcong2 (bl_take (by omega)))), ((hP1.weak (by intro g hg; have h3 : g = h1 := hg; show g = h1 ∧ w1.heap.size ≤ g; omega)).icong (yms_succ _ _ _ _).symm), ((hP2.weak (by intro g hg; have h3 : g = h2 := hg; show g = h2 ∧ w1.heap.size ≤ g; omega)).icong (by rw [sts_succ, hs1t])), (by omega), HL2⟩
    omega
 ·rw [decide_eq_false q1]
  have hN := nb_stop hr hG (show st l (wn b) (tbt b) k = 0 from by omega)
  subst hN
  refine W_cond_f rfl ?_
  refine W_exit ?_
  refine W_seq ?_
  refine W_region ?_
  refine Wl_v (r_mv (v := .slice a8 (nb l (wn b) (tbt b)) c8) rfl) ?_
  refine Wl_v (r_mv (v := .slice a9 (nb l (wn b) (tbt b)) c9) rfl) ?_
  refine Wl_v (r_as (v := .slice a8 (nb l (wn b) (tbt b)) c8) rfl) ?_
  refine Wl_v (r_as (v := .slice a9 (nb l (wn b) (tbt b)) c9) rfl) ?_
  refine Wl_v (r_as (v := .bool true) rfl) ?_
  refine Wl_nil ?_
  refine W_ret ?_
  refine ret_end (v := .tuple #[.slice a8 (nb l (wn b) (tbt b)) c8, .slice a9 (nb l (wn b) (tbt b)) c9, .bool true]) rfl (res3 Try.results28 rfl rfl rfl) ?_
  exact ⟨_, rfl, a8, c8, a9, c9, (vtup3 rfl rfl (by rw [decide_eq_true (by omega)])), (hO1.weak (by intro g hg; have h3 : g = g1 ∧ w1.heap.size ≤ g := hg; show w.heap.size ≤ g; omega)), (hO2.weak (by intro g hg; have h3 : g = g2 ∧ w1.heap.size ≤ g := hg; show w.heap.size ≤ g; omega)), HU⟩

set_option maxRecDepth 100000 in
theorem reach_no {a a2 : Option Addr} {n c m d : Nat} {l b : List Int} {R : Nat → Prop} (w : World) (hs : Sl w R 1 (.slice a n c) n (ints .i64 l)) (hn : n ≤ 1000) (hsb : Sl w (fun g => g < w.heap.size) 1 (.slice a2 m d) m (ints .u8 b)) (hb : Byt b) (hm : m ≤ 100000) (hc : ¬ Cl b) :
  Calls Try.prog 28 #[.slice a n c, .slice a2 m d] w (Ret fun v w' => v = .tuple #[.slice none 0 0, .slice none 0 0, .bool false] ∧ Upd No w w') := by
 have HU : Upd (fun b => False) w w := Upd.refl _ _
 have hl_hs := ilen hs
 have hc_hs := hs.cap.1
 have hl_hsb := ilen hsb
 have hc_hsb := hsb.cap.1
 refine calls_of_W Try.func28 rfl Try.ntmps28 (by simp) ?_
 refine W_seq ?_
 refine W_region ?_
 refine Wl_v (r_as (v := .slice none 0 0) rfl) ?_
 refine Wl_v (r_as (v := .slice none 0 0) rfl) ?_
 refine Wl_v (r_as (v := .bool false) rfl) ?_
 refine Wl_nil ?_
 refine W_seq ?_
 refine W_region ?_
 refine Wl_v (r_mv (v := .slice a2 m d) rfl) ?_
 refine Wl_call (r_call1 rfl Try.call54 rfl) (rbwd_no _ hsb.any hb (by omega) hc) ?_
 rintro v w1 ⟨rfl, hU1⟩
 have hzw1 := hU1.size
 replace HU := HU.trans0 hU1
 refine Wl_v (r_mv (v := .tuple #[.pointer none, .int .i64 14]) rfl) ?_
 refine Wl_v (r_ext (v := .pointer none) rfl rfl) ?_
 refine Wl_v (r_ext (v := .int .i64 14) rfl rfl) ?_
 refine Wl_v (r_as (v := .pointer none) rfl) ?_
 refine Wl_v (r_as (v := .int .i64 14) rfl) ?_
 refine Wl_nil ?_
 refine W_seq ?_
 refine W_seq ?_
 refine W_region ?_
 refine Wl_v (r_mv (v := .int .i64 14) rfl) ?_
 refine Wl_v (v := .bool true) (r_ne (a := 14) (b := 0) rfl rfl) ?_
 refine Wl_nil ?_
 refine W_cond_t rfl ?_
 refine W_seq ?_
 refine W_region ?_
 refine Wl_v (r_as (v := .slice none 0 0) rfl) ?_
 refine Wl_v (r_as (v := .slice none 0 0) rfl) ?_
 refine Wl_v (r_as (v := .bool false) rfl) ?_
 refine Wl_nil ?_
 refine W_ret ?_
 refine ret_end (v := .tuple #[.slice none 0 0, .slice none 0 0, .bool false]) rfl (res3 Try.results28 rfl rfl rfl) ?_
 exact ⟨_, rfl, rfl, HU⟩

end Go.Proofs.Ytilegaokfamfnaa
