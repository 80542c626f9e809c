/-
 Walks, printed by a small program of this project (gen.py).
-/
import Derived.Test.YtilegaokfamfnaaZg
import Derived.Test.YtilegaokfamfnaaOc
set_option linter.unusedVariables false
set_option linter.unusedSimpArgs false
namespace Go.Proofs.Ytilegaokfamfnaa
open Go.Fw

set_option maxRecDepth 100000 in
theorem rhas_spec {a a2 : Option Addr} {n c m d : Nat} {l b : List Int} (w : World) (hs : Sl w (fun g => g < w.heap.size) 1 (.slice a n c) n (ints .i64 l)) (hn : n ≤ 1000) (hsb : Sl w (fun g => g < w.heap.size) 1 (.slice a2 m d) m (ints .u8 b)) (hb : Byt b) (hm : m ≤ 100000) :
  Calls Try.prog 27 #[.slice a n c, .slice a2 m d] w (Ret fun v w' => v = .tuple #[.int .i64 ((hsF l b).1), .bool (decide ((hsF l b).2 = true))] ∧ Upd No w w') := by
 have HU : Upd (fun b => False) w w := Upd.refl _ _
 have hl_hs := ilen hs
 have hc_hs := hs.cap.1
 have hl_hsb := ilen hsb
 have hc_hsb := hsb.cap.1
 refine calls_of_W Try.func27 rfl Try.ntmps27 (by simp) ?_
 refine W_seq ?_
 refine W_region ?_
 refine Wl_v (r_as (v := .int .i64 0) rfl) ?_
 refine Wl_v (r_as (v := .bool false) rfl) ?_
 refine Wl_nil ?_
 refine W_seq ?_
 refine W_seq ?_
 refine W_region ?_
 refine Wl_v (r_as (v := .int .i64 0) rfl) ?_
 refine Wl_nil ?_
 refine W_block ?_
 refine W_loop (fun mu ρ ds w' => ∃ (k : Nat), m - k = mu ∧ ds = [] ∧ Liv ρ [(0, .slice a n c), (1, .slice a2 m d), (6, .int .i64 ((k : Nat) : Int))] ∧ k ≤ m ∧ (∀ i, i < k → nq l (b.getD i 0) = false) ∧ Upd No w w') _ ⟨0, rfl, rfl, ⟨rfl, rfl, (by first | rfl | exact vint (by omega) | exact vint (by simp)), trivial⟩, (by omega), (fun i hi => absurd hi (by omega)), Upd.refl _ _⟩ ?_
 rintro m1 ρ1 ds1 w1 ⟨k, rfl, rfl, hl1, hk, hall, hU1⟩
 obtain ⟨ρ1x, rfl⟩ : ∃ ρx, ρ1 = upds ρx [(0, .slice a n c), (1, .slice a2 m d), (6, .int .i64 ((k : Nat) : Int))] := ⟨_, upds_self hl1⟩
 clear hl1
 have hzw1 := hU1.size
 replace hs := hs.upd0 hU1
 replace hsb := hsb.upd0 hU1
 replace HU := HU.trans0 hU1
 have HL1 := hU1
 refine W_seq ?_
 refine W_seq ?_
 refine W_region ?_
 refine Wl_v (r_mv (v := .int .i64 ((k : Nat) : Int)) rfl) ?_
 refine Wl_v (r_mv (v := .slice a2 m d) rfl) ?_
 refine Wl_v (r_len Try.underlying23 rfl) ?_
 refine Wl_v (r_lt rfl rfl) ?_
 refine Wl_nil ?_
 by_cases q1 : ((k : Nat) : Int) < ((m : Nat) : Int)
 ·have hbk := byt_get hb k
  rw [decide_eq_true q1]
  refine W_cond_t rfl ?_
  refine W_skip ?_
  refine W_seq ?_
  refine W_block ?_
  refine W_seq ?_
  refine W_region ?_
  refine Wl_v (r_mv (v := .slice a2 m d) rfl) ?_
  refine Wl_v (r_mv (v := .int .i64 ((k : Nat) : Int)) rfl) ?_
  refine Wl_idxi Try.underlying23 Try.sizeOf5 rfl rfl hsb (by omega) (by omega) ?_
  intro ib2 io2 hc2
  rw [Int.toNat_natCast] at hc2
  refine Wl_loadc Try.isAgg5 rfl hc2 ?_
  refine Wl_v (r_cvt Try.underlying5 Try.underlying3 rfl (wi64 (by omega) (by omega))) ?_
  refine Wl_v (r_mv (v := .slice a n c) rfl) ?_
  refine Wl_v (r_len Try.underlying22 rfl) ?_
  refine Wl_v (r_ge rfl rfl) ?_
  refine Wl_v (r_mv (v := .bool (decide (((n : Nat) : Int) ≤ (b.getD k 0)))) rfl) ?_
  by_cases q2 : ((n : Nat) : Int) ≤ (b.getD k 0)
  ·have hqk : nq l (b.getD k 0) = true := by unfold nq; rw [decide_eq_true_iff]; omega
   rw [decide_eq_true q2]
   refine Wl_guard_f rfl ?_
   refine Wl_guard_f rfl ?_
   refine Wl_guard_f rfl ?_
   refine Wl_guard_f rfl ?_
   refine Wl_guard_f rfl ?_
   refine Wl_guard_f rfl ?_
   refine Wl_guard_f rfl ?_
   refine Wl_guard_f rfl ?_
   refine Wl_guard_f rfl ?_
   refine Wl_v (r_pick_t (v := .bool true) rfl rfl) ?_
   refine Wl_nil ?_
   refine W_cond_t rfl ?_
   refine W_seq ?_
   refine W_region ?_
   refine Wl_v (r_mv (v := .int .i64 ((k : Nat) : Int)) rfl) ?_
   refine Wl_v (r_as (v := .int .i64 ((k : Nat) : Int)) rfl) ?_
   refine Wl_v (r_as (v := .bool false) rfl) ?_
   refine Wl_nil ?_
   refine W_ret ?_
   refine ret_end (v := .tuple #[.int .i64 ((k : Nat) : Int), .bool false]) rfl (res2 Try.results27 rfl rfl) ?_
   have hF : hsF l b = (((k : Nat) : Int), false) := by unfold hsF; rw [fidx_at 0 (k := k) (by omega) hall hqk, if_neg (by omega)]
   exact ⟨_, rfl, (by rw [hF]; simp; try omega), HU⟩
  ·rw [decide_eq_false q2]
   refine Wl_guard_t rfl ?_
   refine Wl_v (r_mv (v := .slice a n c) rfl) ?_
   refine Wl_guard_t rfl ?_
   refine Wl_v (r_mv (v := .slice a2 m d) rfl) ?_
   refine Wl_guard_t rfl ?_
   refine Wl_v (r_mv (v := .int .i64 ((k : Nat) : Int)) rfl) ?_
   refine Wl_guard_t rfl ?_
   refine Wl_idxi Try.underlying23 Try.sizeOf5 rfl rfl hsb (by omega) (by omega) ?_
   intro ib3 io3 hc3
   rw [Int.toNat_natCast] at hc3
   refine Wl_guard_t rfl ?_
   refine Wl_loadc Try.isAgg5 rfl hc3 ?_
   refine Wl_guard_t rfl ?_
   refine Wl_v (r_cvt Try.underlying5 Try.underlying3 rfl (wi64 (by omega) (by omega))) ?_
   refine Wl_guard_t rfl ?_
   refine Wl_idxi Try.underlying22 Try.sizeOf3 rfl rfl hs (by omega) (by omega) ?_
   intro ib4 io4 hc4
   refine Wl_guard_t rfl ?_
   refine Wl_loadc Try.isAgg3 rfl hc4 ?_
   refine Wl_guard_t rfl ?_
   refine Wl_v (r_eq rfl rfl) ?_
   refine Wl_v (r_pick_f (v := .bool (decide ((l.getD (b.getD k 0).toNat 0) = 0))) rfl rfl) ?_
   refine Wl_nil ?_
   by_cases q3 : (l.getD (b.getD k 0).toNat 0) = 0
   ·have hqk : nq l (b.getD k 0) = true := by unfold nq; rw [decide_eq_true_iff]; omega
    rw [decide_eq_true q3]
    refine W_cond_t rfl ?_
    refine W_seq ?_
    refine W_region ?_
    refine Wl_v (r_mv (v := .int .i64 ((k : Nat) : Int)) rfl) ?_
    refine Wl_v (r_as (v := .int .i64 ((k : Nat) : Int)) rfl) ?_
    refine Wl_v (r_as (v := .bool false) rfl) ?_
    refine Wl_nil ?_
    refine W_ret ?_
    refine ret_end (v := .tuple #[.int .i64 ((k : Nat) : Int), .bool false]) rfl (res2 Try.results27 rfl rfl) ?_
    have hF : hsF l b = (((k : Nat) : Int), false) := by unfold hsF; rw [fidx_at 0 (k := k) (by omega) hall hqk, if_neg (by omega)]
    exact ⟨_, rfl, (by rw [hF]; simp; try omega), HU⟩
   ·have hqk : nq l (b.getD k 0) = false := by unfold nq; rw [decide_eq_false_iff_not]; omega
    rw [decide_eq_false q3]
    refine W_cond_f rfl ?_
    refine W_skip ?_
    refine W_region ?_
    refine Wl_v (r_mv (v := .int .i64 ((k : Nat) : Int)) rfl) ?_
    refine Wl_v (r_add rfl rfl (wi64 (by omega) (by omega))) ?_
    refine Wl_v (r_as (v := .int .i64 (((k : Nat) : Int) + 1)) rfl) ?_
    refine Wl_nil ?_
    refine ⟨_, ?_, (k + 1), rfl, rfl, ⟨rfl, rfl, (Eq.trans (b := .int .i64 (((k : Nat) : Int) + 1)) rfl (vint (by omega))), trivial⟩, (by omega), (fun i hi => by rcases Nat.lt_or_ge i k with h | h; exact hall i h; rw [show i = k from by omega]; exact hqk), HL1⟩
    omega
 ·rw [decide_eq_false q1]
  refine W_cond_f rfl ?_
  refine W_exit ?_
  refine W_seq ?_
  refine W_region ?_
  refine Wl_v (r_mv (v := .slice a2 m d) rfl) ?_
  refine Wl_v (r_len Try.underlying23 rfl) ?_
  refine Wl_v (r_as (v := .int .i64 ((m : Nat) : Int)) rfl) ?_
  refine Wl_v (r_as (v := .bool true) rfl) ?_
  refine Wl_nil ?_
  refine W_ret ?_
  refine ret_end (v := .tuple #[.int .i64 ((m : Nat) : Int), .bool true]) rfl (res2 Try.results27 rfl rfl) ?_
  have hF : hsF l b = (((b.length : Nat) : Int), true) := by unfold hsF; rw [if_pos (by rw [fidx_none 0 (fun i hi => hall i (by omega))]; omega)]
  exact ⟨_, rfl, (by rw [hF]; simp; try omega), HU⟩

def myF (l b : List Int) : Int := if ¬ Rt l then 12 else if ¬ Hs l b then 2 else 0
theorem hs_iff2 (l b : List Int) : Hs l b ↔ (hsF l b).2 = true := by
 rw [hs_iff]; unfold hsF
 split <;> simp_all
theorem ec_my (l b : List Int) : (ecF l b).2 = myF l b ∧ (blF l b).2 = myF l b := by
 unfold ecF blF myF
 split
 ·exact ⟨rfl, rfl⟩
 ·split <;> exact ⟨rfl, rfl⟩
theorem my_ok {l b : List Int} (h : ¬ myF l b ≠ 0) : Rt l ∧ Hs l b := by
 unfold myF at h
 split at h
 ·omega
 ·next h1 =>
  split at h
  ·omega
  ·next h2 => exact ⟨Classical.not_not.1 h1, Classical.not_not.1 h2⟩

set_option maxRecDepth 100000 in
theorem rmay_spec {a a2 : Option Addr} {n c m d : Nat} {l b : List Int} {R : Nat → Prop} (w : World) (hs : Sl w R 1 (.slice a n c) n (ints .i64 l)) (hn : n ≤ 1000) (hsb : Sl w (fun g => g < w.heap.size) 1 (.slice a2 m d) m (ints .u8 b)) (hb : Byt b) (hm : m ≤ 100000) :
  Calls Try.prog 39 #[.slice a n c, .slice a2 m d] w (Ret fun v w' => v = .int .i64 (myF l b) ∧ Upd No w w') := by
 have HU : Upd (fun b => False) w w := Upd.refl _ _
 have hl_hs := ilen hs
 have hc_hs := hs.cap.1
 replace hs := hs.tight
 have hl_hsb := ilen hsb
 have hc_hsb := hsb.cap.1
 refine calls_of_W Try.func39 rfl Try.ntmps39 (by simp) ?_
 refine W_seq ?_
 refine W_region ?_
 refine Wl_v (r_as (v := .int .i64 0) rfl) ?_
 refine Wl_nil ?_
 refine W_seq ?_
 refine W_seq ?_
 refine W_region ?_
 refine Wl_v (r_mv (v := .slice a n c) rfl) ?_
 refine Wl_call (r_call1 rfl Try.call26 rfl) (rright_spec _ hs (by omega)) ?_
 rintro v w1 ⟨rfl, hU1⟩
 have hzw1 := hU1.size
 replace hs := hs.upd0 hU1
 replace hsb := hsb.upd0 hU1
 replace HU := HU.trans0 hU1
 refine Wl_v (r_not rfl) ?_
 refine Wl_nil ?_
 by_cases q1 : Rt l
 ·rw [decide_eq_true q1]
  simp only [Bool.not_true, Bool.not_false]
  refine W_cond_f rfl ?_
  refine W_skip ?_
  refine W_seq ?_
  refine W_seq ?_
  refine W_region ?_
  refine Wl_v (r_mv (v := .slice a n c) rfl) ?_
  refine Wl_v (r_mv (v := .slice a2 m d) rfl) ?_
  refine Wl_call (r_call2 rfl Try.call27 rfl rfl) (rhas_spec _ hs.any (by omega) hsb.any hb (by omega)) ?_
  rintro v w2 ⟨rfl, hU2⟩
  have hzw2 := hU2.size
  replace HU := HU.trans0 hU2
  refine Wl_v (r_mv (v := .tuple #[.int .i64 ((hsF l b).1), .bool (decide ((hsF l b).2 = true))]) rfl) ?_
  refine Wl_v (r_ext (v := .int .i64 ((hsF l b).1)) rfl rfl) ?_
  refine Wl_v (r_ext (v := .bool (decide ((hsF l b).2 = true))) rfl rfl) ?_
  refine Wl_v (r_as (v := .int .i64 ((hsF l b).1)) rfl) ?_
  refine Wl_v (r_as (v := .bool (decide ((hsF l b).2 = true))) rfl) ?_
  refine Wl_nil ?_
  refine W_seq ?_
  refine W_region ?_
  refine Wl_v (r_mv (v := .slice a2 m d) rfl) ?_
  refine Wl_v (r_len Try.underlying23 rfl) ?_
  refine Wl_v (r_gt rfl rfl) ?_
  refine Wl_v (r_mv (v := .bool (decide (131072 < ((m : Nat) : Int)))) rfl) ?_
  have q2 : ¬ (131072 < ((m : Nat) : Int)) := (by omega)
  rw [decide_eq_false q2]
  refine Wl_guard_t rfl ?_
  refine Wl_v (r_mv (v := .bool (decide ((hsF l b).2 = true))) rfl) ?_
  refine Wl_guard_t rfl ?_
  refine Wl_v (r_not rfl) ?_
  refine Wl_v (r_pick_f (v := .bool (!decide ((hsF l b).2 = true))) rfl rfl) ?_
  refine Wl_nil ?_
  by_cases q3 : (hsF l b).2 = true
  ·rw [decide_eq_true q3]
   simp only [Bool.not_true, Bool.not_false]
   refine W_cond_f rfl ?_
   refine W_skip ?_
   refine W_seq ?_
   refine W_region ?_
   refine Wl_v (r_as (v := .int .i64 0) rfl) ?_
   refine Wl_nil ?_
   refine W_ret ?_
   refine ret_end (v := .int .i64 0) rfl (res1 Try.results39 rfl) ?_
   have hF : myF l b = 0 := by rw [myF, if_neg (fun h => h q1), if_neg (fun h => h ((hs_iff2 l b).2 q3))]
   exact ⟨_, rfl, (vint hF.symm), HU⟩
  ·rw [decide_eq_false q3]
   simp only [Bool.not_true, Bool.not_false]
   refine W_cond_t rfl ?_
   refine W_seq ?_
   refine W_region ?_
   refine Wl_v (r_as (v := .int .i64 2) rfl) ?_
   refine Wl_nil ?_
   refine W_ret ?_
   refine ret_end (v := .int .i64 2) rfl (res1 Try.results39 rfl) ?_
   have hF : myF l b = 2 := by rw [myF, if_neg (fun h => h q1), if_pos (fun h => q3 ((hs_iff2 l b).1 h))]
   exact ⟨_, rfl, (vint hF.symm), HU⟩
 ·rw [decide_eq_false q1]
  simp only [Bool.not_true, Bool.not_false]
  refine W_cond_t rfl ?_
  refine W_seq ?_
  refine W_region ?_
  refine Wl_v (r_as (v := .int .i64 12) rfl) ?_
  refine Wl_nil ?_
  refine W_ret ?_
  refine ret_end (v := .int .i64 12) rfl (res1 Try.results39 rfl) ?_
  have hF : myF l b = 12 := by rw [myF, if_pos q1]
  exact ⟨_, rfl, (vint hF.symm), HU⟩

theorem blF_err {l b : List Int} (h : myF l b ≠ 0) : (blF l b).1 = 0 := by
 unfold myF at h
 unfold blF
 split
 ·rfl
 ·next h1 =>
  split
  ·rfl
  ·next h2 => rw [if_neg h1, if_neg h2] at h; exact absurd rfl h
theorem ecF_err {l b : List Int} (h : myF l b ≠ 0) : ecF l b = ([], myF l b) := by
 unfold myF at h ⊢
 unfold ecF
 split
 ·rfl
 ·next h1 =>
  split
  ·rfl
  ·next h2 => rw [if_neg h1, if_neg h2] at h; exact absurd rfl h

set_option maxRecDepth 100000 in
theorem rbln_spec {a a2 : Option Addr} {n c m d : Nat} {l b : List Int} {R : Nat → Prop} (w : World) (hs : Sl w R 1 (.slice a n c) n (ints .i64 l)) (hn : n ≤ 1000) (hsb : Sl w (fun g => g < w.heap.size) 1 (.slice a2 m d) m (ints .u8 b)) (hb : Byt b) (hm : m ≤ 100000) :
  Calls Try.prog 17 #[.slice a n c, .slice a2 m d] w (Ret fun v w' => v = .tuple #[.int .i64 ((blF l b).1), .int .i64 ((blF l b).2)] ∧ Upd No w w') := by
 have HU : Upd (fun b => False) w w := Upd.refl _ _
 have hl_hs := ilen hs
 have hc_hs := hs.cap.1
 replace hs := hs.tight
 have hl_hsb := ilen hsb
 have hc_hsb := hsb.cap.1
 refine calls_of_W Try.func17 rfl Try.ntmps17 (by simp) ?_
 refine W_seq ?_
 refine W_region ?_
 refine Wl_v (r_as (v := .int .i64 0) rfl) ?_
 refine Wl_v (r_as (v := .int .i64 0) rfl) ?_
 refine Wl_nil ?_
 refine W_seq ?_
 refine W_seq ?_
 refine W_region ?_
 refine Wl_v (r_mv (v := .slice a n c) rfl) ?_
 refine Wl_v (r_mv (v := .slice a2 m d) rfl) ?_
 refine Wl_call (r_call2 rfl Try.call39 rfl rfl) (rmay_spec _ hs (by omega) hsb.any hb (by omega)) ?_
 rintro v w1 ⟨rfl, hU1⟩
 have hzw1 := hU1.size
 replace hs := hs.upd0 hU1
 replace hsb := hsb.upd0 hU1
 replace HU := HU.trans0 hU1
 refine Wl_v (r_as (v := .int .i64 (myF l b)) rfl) ?_
 refine Wl_nil ?_
 refine W_seq ?_
 refine W_region ?_
 refine Wl_v (r_mv (v := .int .i64 (myF l b)) rfl) ?_
 refine Wl_v (r_ne rfl rfl) ?_
 refine Wl_nil ?_
 by_cases q1 : (myF l b) ≠ 0
 ·rw [decide_eq_true q1]
  refine W_cond_t rfl ?_
  refine W_seq ?_
  refine W_region ?_
  refine Wl_v (r_mv (v := .int .i64 (myF l b)) rfl) ?_
  refine Wl_v (r_as (v := .int .i64 0) rfl) ?_
  refine Wl_v (r_as (v := .int .i64 (myF l b)) rfl) ?_
  refine Wl_nil ?_
  refine W_ret ?_
  refine ret_end (v := .tuple #[.int .i64 0, .int .i64 (myF l b)]) rfl (res2 Try.results17 rfl rfl) ?_
  have hF2 := (ec_my l b).2
  have hF1 : (blF l b).1 = 0 := blF_err q1
  exact ⟨_, rfl, (vtup2 (vint (by rw [hF1])) (vint (by rw [hF2]))), HU⟩
 ·have hr := (my_ok q1).1
  have hHs := (my_ok q1).2
  rw [decide_eq_false q1]
  refine W_cond_f rfl ?_
  refine W_skip ?_
  refine W_seq ?_
  refine W_region ?_
  refine Wl_v (r_as (v := .int .i64 0) rfl) ?_
  refine Wl_nil ?_
  refine W_seq ?_
  refine W_seq ?_
  refine W_region ?_
  refine Wl_v (r_as (v := .int .i64 0) rfl) ?_
  refine Wl_nil ?_
  refine W_block ?_
  refine W_loop (fun mu ρ ds w' => ∃ (k : Nat), m - k = mu ∧ ds = [] ∧ Liv ρ [(0, .slice a n c), (1, .slice a2 m d), (7, .int .i64 ((eL l (b.take k) : Nat) : Int)), (8, .int .i64 ((k : Nat) : Int))] ∧ k ≤ m ∧ Upd No w1 w') _ ⟨0, rfl, rfl, ⟨rfl, rfl, (Eq.trans (b := .int .i64 0) rfl (vint (by simp [eL]))), (by first | rfl | exact vint (by omega) | exact vint (by simp)), trivial⟩, (by omega), Upd.refl _ _⟩ ?_
  rintro m2 ρ2 ds2 w2 ⟨k, rfl, rfl, hl2, hk, hU2⟩
  obtain ⟨ρ2x, rfl⟩ : ∃ ρx, ρ2 = upds ρx [(0, .slice a n c), (1, .slice a2 m d), (7, .int .i64 ((eL l (b.take k) : Nat) : Int)), (8, .int .i64 ((k : Nat) : Int))] := ⟨_, upds_self hl2⟩
  clear hl2
  have hzw2 := hU2.size
  replace hs := hs.upd0 hU2
  replace hsb := hsb.upd0 hU2
  replace HU := HU.trans0 hU2
  have HL2 := hU2
  refine W_seq ?_
  refine W_seq ?_
  refine W_region ?_
  refine Wl_v (r_mv (v := .int .i64 ((k : Nat) : Int)) rfl) ?_
  refine Wl_v (r_mv (v := .slice a2 m d) rfl) ?_
  refine Wl_v (r_len Try.underlying23 rfl) ?_
  refine Wl_v (r_lt rfl rfl) ?_
  refine Wl_nil ?_
  by_cases q2 : ((k : Nat) : Int) < ((m : Nat) : Int)
  ·have hbk := byt_get hb k
   have hgt := hHs.get (k := k) (by omega)
   have hgd := hr.1.gd (b.getD k 0).toNat
   have hel := eL_le hr (b.take k)
   rw [List.length_take] at hel
   rw [decide_eq_true q2]
   refine W_cond_t rfl ?_
   refine W_skip ?_
   refine W_seq ?_
   refine W_block ?_
   refine W_region ?_
   refine Wl_v (r_mv (v := .int .i64 ((eL l (b.take k) : Nat) : Int)) rfl) ?_
   refine Wl_v (r_mv (v := .slice a n c) rfl) ?_
   refine Wl_v (r_mv (v := .slice a2 m d) rfl) ?_
   refine Wl_v (r_mv (v := .int .i64 ((k : Nat) : Int)) rfl) ?_
   refine Wl_idxi Try.underlying23 Try.sizeOf5 rfl rfl hsb (by omega) (by omega) ?_
   intro ib3 io3 hc3
   rw [Int.toNat_natCast] at hc3
   refine Wl_loadc Try.isAgg5 rfl hc3 ?_
   refine Wl_v (r_cvt Try.underlying5 Try.underlying3 rfl (wi64 (by omega) (by omega))) ?_
   refine Wl_idxi Try.underlying22 Try.sizeOf3 rfl rfl hs (by omega) (by omega) ?_
   intro ib4 io4 hc4
   refine Wl_loadc Try.isAgg3 rfl hc4 ?_
   refine Wl_v (r_add rfl rfl (wi64 (by omega) (by omega))) ?_
   refine Wl_v (r_as (v := .int .i64 (((eL l (b.take k) : Nat) : Int) + (l.getD (b.getD k 0).toNat 0))) rfl) ?_
   refine Wl_nil ?_
   refine W_region ?_
   refine Wl_v (r_mv (v := .int .i64 ((k : Nat) : Int)) rfl) ?_
   refine Wl_v (r_add rfl rfl (wi64 (by omega) (by omega))) ?_
   refine Wl_v (r_as (v := .int .i64 (((k : Nat) : Int) + 1)) rfl) ?_
   refine Wl_nil ?_
   refine ⟨_, ?_, (k + 1), rfl, rfl, ⟨rfl, rfl, (Eq.trans (b := .int .i64 (((eL l (b.take k) : Nat) : Int) + (l.getD (b.getD k 0).toNat 0))) rfl (vint (by rw [eL_take (by omega)]; omega))), (Eq.trans (b := .int .i64 (((k : Nat) : Int) + 1)) rfl (vint (by omega))), trivial⟩, (by omega), HL2⟩
   omega
  ·have htk : b.take k = b := List.take_of_length_le (by omega)
   rw [decide_eq_false q2]
   refine W_cond_f rfl ?_
   refine W_exit ?_
   refine W_seq ?_
   refine W_region ?_
   refine Wl_v (r_mv (v := .int .i64 ((eL l (b.take k) : Nat) : Int)) rfl) ?_
   refine Wl_v (r_as (v := .int .i64 ((eL l (b.take k) : Nat) : Int)) rfl) ?_
   refine Wl_v (r_as (v := .int .i64 0) rfl) ?_
   refine Wl_nil ?_
   refine W_ret ?_
   refine ret_end (v := .tuple #[.int .i64 ((eL l (b.take k) : Nat) : Int), .int .i64 0]) rfl (res2 Try.results17 rfl rfl) ?_
   have hF2 := (ec_my l b).2
   have hF1 : (blF l b).1 = ((eL l b : Nat) : Int) := by rw [blF, if_neg (fun h => h hr), if_neg (fun h => h hHs)]
   exact ⟨_, rfl, (vtup2 (vint (by rw [hF1, htk])) (vint (by rw [hF2]; omega))), HU⟩

end Go.Proofs.Ytilegaokfamfnaa
