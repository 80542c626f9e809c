/-
  Several texts of this project, put together.
-/
import Derived.Test.YtdppageondgjkaaGreatZC
import Derived.Test.YtdppageondgjkaaGreatCB
set_option linter.unusedVariables false
set_option linter.unusedSimpArgs false
namespace Go.Proofs.YtdppageondgjkaaGreat
open Go.Fw
end Go.Proofs.YtdppageondgjkaaGreat
namespace Go.Proofs.YtdppageondgjkaaGreat
open Go.Fw
set_option maxRecDepth 100000 in
theorem rhas_spec {a a2 : Option Addr} {n c m d : Nat} {l b : List Int} (w : World) (hs : Sl w (fun g => g < w.heap.size) 1 (.slice a n c) n (ints .i64 l)) (hn : n ≤ 1000) (hsb : Sl w (fun g => g < w.heap.size) 1 (.slice a2 m d) m (ints .u8 b)) (hb : Byt b) (hm : m ≤ 100000) :
  Calls Tryz.prog 97 #[.slice a n c, .slice a2 m d] w (Ret fun v w' => v = .tuple #[.int .i64 ((hsF l b).1), .bool (decide ((hsF l b).2 = true))] ∧ Upd No w w') := by
 have HU : Upd (fun b => False) w w := Upd.refl _ _
 have hl_hs := ilen hs
 have hc_hs := hs.cap.1
 have hl_hsb := ilen hsb
 have hc_hsb := hsb.cap.1
 refine calls_of_W Tryz.func97 rfl Tryz.ntmps97 (by simp) ?_
 refine W_seq (W_region ?_)
 refine Was (.int .i64 0) ?_
 refine Was (.bool false) ?_
 refine Wl_nil (W_seq (W_seq (W_region ?_)))
 refine Was (.int .i64 0) ?_
 refine Wl_nil (W_block ?_)
 refine W_loop (fun mu ρ ds w' => ∃ (k : Nat), m - k = mu ∧ ds = [] ∧ Liv ρ [(0, .slice a n c), (1, .slice a2 m d), (6, .int .i64 ((k : Nat) : Int))] ∧ k ≤ m ∧ (∀ i, i < k → nq l (b.getD i 0) = false) ∧ Upd No w w') _ ⟨0, rfl, rfl, ⟨rfl, rfl, (by first | rfl | exact vint (by omega) | exact vint (by simp)), trivial⟩, (by omega), (fun i hi => absurd hi (by omega)), Upd.refl _ _⟩ ?_
 rintro m1 ρ1 ds1 w1 ⟨k, rfl, rfl, hl1, hk, hall, hU1⟩
 obtain ⟨ρ1x, rfl⟩ : ∃ ρx, ρ1 = upds ρx [(0, .slice a n c), (1, .slice a2 m d), (6, .int .i64 ((k : Nat) : Int))] := ⟨_, upds_self hl1⟩
 clear hl1
 have hzw1 := hU1.size
 replace hs := hs.upd0 hU1
 replace hsb := hsb.upd0 hU1
 replace HU := HU.trans0 hU1
 have HL1 := hU1
 refine W_seq (W_seq (W_region ?_))
 refine Wmv (.int .i64 ((k : Nat) : Int)) ?_
 refine Wmv (.slice a2 m d) ?_
 refine Wl_v (r_len Tryz.underlying32 rfl) ?_
 refine Wl_v (r_lt rfl rfl) ?_
 refine Wl_nil ?_
 by_cases q1 : ((k : Nat) : Int) < ((m : Nat) : Int)
 ·have hbk := byt_get hb k
  rw [decide_eq_true q1]
  refine W_cond_t rfl ?_
  refine W_skip (W_seq (W_block (W_seq (W_region ?_))))
  refine Wmv (.slice a2 m d) ?_
  refine Wmv (.int .i64 ((k : Nat) : Int)) ?_
  refine Wl_idxi Tryz.underlying32 Tryz.sizeOf5 rfl rfl hsb (by omega) (by omega) ?_
  intro ib2 io2 hc2
  rw [Int.toNat_natCast] at hc2
  refine Wl_loadc Tryz.isAgg5 rfl hc2 ?_
  refine Wl_v (r_cvt Tryz.underlying5 Tryz.underlying3 rfl (wi64 (by omega) (by omega))) ?_
  refine Wmv (.slice a n c) ?_
  refine Wl_v (r_len Tryz.underlying22 rfl) ?_
  refine Wl_v (r_ge rfl rfl) ?_
  refine Wmv (.bool (decide (((n : Nat) : Int) ≤ (b.getD k 0)))) ?_
  by_cases q2 : ((n : Nat) : Int) ≤ (b.getD k 0)
  ·have hqk : nq l (b.getD k 0) = true := by unfold nq; rw [decide_eq_true_iff]; omega
   rw [decide_eq_true q2]
   refine Wl_guard_f rfl (Wl_guard_f rfl (Wl_guard_f rfl (Wl_guard_f rfl (Wl_guard_f rfl (Wl_guard_f rfl (Wl_guard_f rfl (Wl_guard_f rfl (Wl_guard_f rfl ?_))))))))
   refine Wl_v (r_pick_t (v := .bool true) rfl rfl) ?_
   refine Wl_nil ?_
   refine W_cond_t rfl ?_
   refine W_seq (W_region ?_)
   refine Wmv (.int .i64 ((k : Nat) : Int)) ?_
   refine Was (.int .i64 ((k : Nat) : Int)) ?_
   refine Was (.bool false) ?_
   refine Wl_nil ?_
   refine W_ret ?_
   refine ret_end (v := .tuple #[.int .i64 ((k : Nat) : Int), .bool false]) rfl (res2 Tryz.results97 rfl rfl) ?_
   have hF : hsF l b = (((k : Nat) : Int), false) := by unfold hsF; rw [fidx_at 0 (k := k) (by omega) hall hqk, if_neg (by omega)]
   exact ⟨_, rfl, (by rw [hF]; simp; try omega), HU⟩
  ·rw [decide_eq_false q2]
   refine Wl_guard_t rfl ?_
   refine Wmv (.slice a n c) ?_
   refine Wl_guard_t rfl ?_
   refine Wmv (.slice a2 m d) ?_
   refine Wl_guard_t rfl ?_
   refine Wmv (.int .i64 ((k : Nat) : Int)) ?_
   refine Wl_guard_t rfl ?_
   refine Wl_idxi Tryz.underlying32 Tryz.sizeOf5 rfl rfl hsb (by omega) (by omega) ?_
   intro ib3 io3 hc3
   rw [Int.toNat_natCast] at hc3
   refine Wl_guard_t rfl ?_
   refine Wl_loadc Tryz.isAgg5 rfl hc3 ?_
   refine Wl_guard_t rfl ?_
   refine Wl_v (r_cvt Tryz.underlying5 Tryz.underlying3 rfl (wi64 (by omega) (by omega))) ?_
   refine Wl_guard_t rfl ?_
   refine Wl_idxi Tryz.underlying22 Tryz.sizeOf3 rfl rfl hs (by omega) (by omega) ?_
   intro ib4 io4 hc4
   refine Wl_guard_t rfl ?_
   refine Wl_loadc Tryz.isAgg3 rfl hc4 ?_
   refine Wl_guard_t rfl ?_
   refine Wl_v (r_eq rfl rfl) ?_
   refine Wl_v (r_pick_f (v := .bool (decide ((l.getD (b.getD k 0).toNat 0) = 0))) rfl rfl) ?_
   refine Wl_nil ?_
   by_cases q3 : (l.getD (b.getD k 0).toNat 0) = 0
   ·have hqk : nq l (b.getD k 0) = true := by unfold nq; rw [decide_eq_true_iff]; omega
    rw [decide_eq_true q3]
    refine W_cond_t rfl ?_
    refine W_seq (W_region ?_)
    refine Wmv (.int .i64 ((k : Nat) : Int)) ?_
    refine Was (.int .i64 ((k : Nat) : Int)) ?_
    refine Was (.bool false) ?_
    refine Wl_nil ?_
    refine W_ret ?_
    refine ret_end (v := .tuple #[.int .i64 ((k : Nat) : Int), .bool false]) rfl (res2 Tryz.results97 rfl rfl) ?_
    have hF : hsF l b = (((k : Nat) : Int), false) := by unfold hsF; rw [fidx_at 0 (k := k) (by omega) hall hqk, if_neg (by omega)]
    exact ⟨_, rfl, (by rw [hF]; simp; try omega), HU⟩
   ·have hqk : nq l (b.getD k 0) = false := by unfold nq; rw [decide_eq_false_iff_not]; omega
    rw [decide_eq_false q3]
    refine W_cond_f rfl ?_
    refine W_skip (W_region ?_)
    refine Wmv (.int .i64 ((k : Nat) : Int)) ?_
    refine Wl_v (r_add rfl rfl (wi64 (by omega) (by omega))) ?_
    refine Was (.int .i64 (((k : Nat) : Int) + 1)) ?_
    refine Wl_nil ?_
    refine ⟨_, ?_, (k + 1), rfl, rfl, ⟨rfl, rfl, (Eq.trans (b := .int .i64 (((k : Nat) : Int) + 1)) rfl (vint (by omega))), trivial⟩, (by omega), (fun i hi => by rcases Nat.lt_or_ge i k with h | h; exact hall i h; rw [show i = k from by omega]; exact hqk), HL1⟩
    omega
 ·rw [decide_eq_false q1]
  refine W_cond_f rfl ?_
  refine W_exit ?_
  refine W_seq (W_region ?_)
  refine Wmv (.slice a2 m d) ?_
  refine Wl_v (r_len Tryz.underlying32 rfl) ?_
  refine Was (.int .i64 ((m : Nat) : Int)) ?_
  refine Was (.bool true) ?_
  refine Wl_nil ?_
  refine W_ret ?_
  refine ret_end (v := .tuple #[.int .i64 ((m : Nat) : Int), .bool true]) rfl (res2 Tryz.results97 rfl rfl) ?_
  have hF : hsF l b = (((b.length : Nat) : Int), true) := by unfold hsF; rw [if_pos (by rw [fidx_none 0 (fun i hi => hall i (by omega))]; omega)]
  exact ⟨_, rfl, (by rw [hF]; simp; try omega), HU⟩
def myF (l b : List Int) : Int := if ¬ Rt l then 12 else if ¬ Hs l b then 2 else 0
theorem hs_iff2 (l b : List Int) : Hs l b ↔ (hsF l b).2 = true := by
 rw [hs_iff]; unfold hsF
 split <;> simp_all
theorem ec_my (l b : List Int) : (ecF l b).2 = myF l b ∧ (blF l b).2 = myF l b := by
 unfold ecF blF myF
 split
 ·exact ⟨rfl, rfl⟩
 ·split <;> exact ⟨rfl, rfl⟩
theorem my_ok {l b : List Int} (h : ¬ myF l b ≠ 0) : Rt l ∧ Hs l b := by
 unfold myF at h
 split at h
 ·omega
 ·next h1 =>
  split at h
  ·omega
  ·next h2 => exact ⟨Classical.not_not.1 h1, Classical.not_not.1 h2⟩
set_option maxRecDepth 100000 in
theorem rmay_spec {a a2 : Option Addr} {n c m d : Nat} {l b : List Int} {R : Nat → Prop} (w : World) (hs : Sl w R 1 (.slice a n c) n (ints .i64 l)) (hn : n ≤ 1000) (hsb : Sl w (fun g => g < w.heap.size) 1 (.slice a2 m d) m (ints .u8 b)) (hb : Byt b) (hm : m ≤ 100000) :
  Calls Tryz.prog 74 #[.slice a n c, .slice a2 m d] w (Ret fun v w' => v = .int .i64 (myF l b) ∧ Upd No w w') := by
 have HU : Upd (fun b => False) w w := Upd.refl _ _
 have hl_hs := ilen hs
 have hc_hs := hs.cap.1
 replace hs := hs.tight
 have hl_hsb := ilen hsb
 have hc_hsb := hsb.cap.1
 refine calls_of_W Tryz.func74 rfl Tryz.ntmps74 (by simp) ?_
 refine W_seq (W_region ?_)
 refine Was (.int .i64 0) ?_
 refine Wl_nil (W_seq (W_seq (W_region ?_)))
 refine Wmv (.slice a n c) ?_
 refine Wl_call (r_call1 rfl Tryz.call28 rfl) (rright_spec _ hs (by omega)) ?_
 rintro v w1 ⟨rfl, hU1⟩
 have hzw1 := hU1.size
 replace hs := hs.upd0 hU1
 replace hsb := hsb.upd0 hU1
 replace HU := HU.trans0 hU1
 refine Wl_v (r_not rfl) ?_
 refine Wl_nil ?_
 by_cases q1 : Rt l
 ·rw [decide_eq_true q1]
  simp only [Bool.not_true, Bool.not_false]
  refine W_cond_f rfl ?_
  refine W_skip (W_seq (W_seq (W_region ?_)))
  refine Wmv (.slice a n c) ?_
  refine Wmv (.slice a2 m d) ?_
  refine Wl_call (r_call2 rfl Tryz.call97 rfl rfl) (rhas_spec _ hs.any (by omega) hsb.any hb (by omega)) ?_
  rintro v w2 ⟨rfl, hU2⟩
  have hzw2 := hU2.size
  replace HU := HU.trans0 hU2
  refine Wmv (.tuple #[.int .i64 ((hsF l b).1), .bool (decide ((hsF l b).2 = true))]) ?_
  refine Wl_v (r_ext (v := .int .i64 ((hsF l b).1)) rfl rfl) ?_
  refine Wl_v (r_ext (v := .bool (decide ((hsF l b).2 = true))) rfl rfl) ?_
  refine Was (.int .i64 ((hsF l b).1)) ?_
  refine Was (.bool (decide ((hsF l b).2 = true))) ?_
  refine Wl_nil (W_seq (W_region ?_))
  refine Wmv (.slice a2 m d) ?_
  refine Wl_v (r_len Tryz.underlying32 rfl) ?_
  refine Wl_v (r_gt rfl rfl) ?_
  refine Wmv (.bool (decide (131072 < ((m : Nat) : Int)))) ?_
  have q2 : ¬ (131072 < ((m : Nat) : Int)) := (by omega)
  rw [decide_eq_false q2]
  refine Wl_guard_t rfl ?_
  refine Wmv (.bool (decide ((hsF l b).2 = true))) ?_
  refine Wl_guard_t rfl ?_
  refine Wl_v (r_not rfl) ?_
  refine Wl_v (r_pick_f (v := .bool (!decide ((hsF l b).2 = true))) rfl rfl) ?_
  refine Wl_nil ?_
  by_cases q3 : (hsF l b).2 = true
  ·rw [decide_eq_true q3]
   simp only [Bool.not_true, Bool.not_false]
   refine W_cond_f rfl ?_
   refine W_skip (W_seq (W_region ?_))
   refine Was (.int .i64 0) ?_
   refine Wl_nil ?_
   refine W_ret ?_
   refine ret_end (v := .int .i64 0) rfl (res1 Tryz.results74 rfl) ?_
   have hF : myF l b = 0 := by rw [myF, if_neg (fun h => h q1), if_neg (fun h => h ((hs_iff2 l b).2 q3))]
   exact ⟨_, rfl, (vint hF.symm), HU⟩
  ·rw [decide_eq_false q3]
   simp only [Bool.not_true, Bool.not_false]
   refine W_cond_t rfl ?_
   refine W_seq (W_region ?_)
   refine Was (.int .i64 2) ?_
   refine Wl_nil ?_
   refine W_ret ?_
   refine ret_end (v := .int .i64 2) rfl (res1 Tryz.results74 rfl) ?_
   have hF : myF l b = 2 := by rw [myF, if_neg (fun h => h q1), if_pos (fun h => q3 ((hs_iff2 l b).1 h))]
   exact ⟨_, rfl, (vint hF.symm), HU⟩
 ·rw [decide_eq_false q1]
  simp only [Bool.not_true, Bool.not_false]
  refine W_cond_t rfl ?_
  refine W_seq (W_region ?_)
  refine Was (.int .i64 12) ?_
  refine Wl_nil ?_
  refine W_ret ?_
  refine ret_end (v := .int .i64 12) rfl (res1 Tryz.results74 rfl) ?_
  have hF : myF l b = 12 := by rw [myF, if_pos q1]
  exact ⟨_, rfl, (vint hF.symm), HU⟩
theorem blF_err {l b : List Int} (h : myF l b ≠ 0) : (blF l b).1 = 0 := by
 unfold myF at h
 unfold blF
 split
 ·rfl
 ·next h1 =>
  split
  ·rfl
  ·next h2 => rw [if_neg h1, if_neg h2] at h; exact absurd rfl h
theorem ecF_err {l b : List Int} (h : myF l b ≠ 0) : ecF l b = ([], myF l b) := by
 unfold myF at h ⊢
 unfold ecF
 split
 ·rfl
 ·next h1 =>
  split
  ·rfl
  ·next h2 => rw [if_neg h1, if_neg h2] at h; exact absurd rfl h
set_option maxRecDepth 100000 in
theorem rbln_spec {a a2 : Option Addr} {n c m d : Nat} {l b : List Int} {R : Nat → Prop} (w : World) (hs : Sl w R 1 (.slice a n c) n (ints .i64 l)) (hn : n ≤ 1000) (hsb : Sl w (fun g => g < w.heap.size) 1 (.slice a2 m d) m (ints .u8 b)) (hb : Byt b) (hm : m ≤ 100000) :
  Calls Tryz.prog 42 #[.slice a n c, .slice a2 m d] w (Ret fun v w' => v = .tuple #[.int .i64 ((blF l b).1), .int .i64 ((blF l b).2)] ∧ Upd No w w') := by
 have HU : Upd (fun b => False) w w := Upd.refl _ _
 have hl_hs := ilen hs
 have hc_hs := hs.cap.1
 replace hs := hs.tight
 have hl_hsb := ilen hsb
 have hc_hsb := hsb.cap.1
 refine calls_of_W Tryz.func42 rfl Tryz.ntmps42 (by simp) ?_
 refine W_seq (W_region ?_)
 refine Was (.int .i64 0) ?_
 refine Was (.int .i64 0) ?_
 refine Wl_nil (W_seq (W_seq (W_region ?_)))
 refine Wmv (.slice a n c) ?_
 refine Wmv (.slice a2 m d) ?_
 refine Wl_call (r_call2 rfl Tryz.call74 rfl rfl) (rmay_spec _ hs (by omega) hsb.any hb (by omega)) ?_
 rintro v w1 ⟨rfl, hU1⟩
 have hzw1 := hU1.size
 replace hs := hs.upd0 hU1
 replace hsb := hsb.upd0 hU1
 replace HU := HU.trans0 hU1
 refine Was (.int .i64 (myF l b)) ?_
 refine Wl_nil (W_seq (W_region ?_))
 refine Wmv (.int .i64 (myF l b)) ?_
 refine Wl_v (r_ne rfl rfl) ?_
 refine Wl_nil ?_
 by_cases q1 : (myF l b) ≠ 0
 ·rw [decide_eq_true q1]
  refine W_cond_t rfl ?_
  refine W_seq (W_region ?_)
  refine Wmv (.int .i64 (myF l b)) ?_
  refine Was (.int .i64 0) ?_
  refine Was (.int .i64 (myF l b)) ?_
  refine Wl_nil ?_
  refine W_ret ?_
  refine ret_end (v := .tuple #[.int .i64 0, .int .i64 (myF l b)]) rfl (res2 Tryz.results42 rfl rfl) ?_
  have hF2 := (ec_my l b).2
  have hF1 : (blF l b).1 = 0 := blF_err q1
  exact ⟨_, rfl, (vtup2 (vint (by rw [hF1])) (vint (by rw [hF2]))), HU⟩
 ·have hr := (my_ok q1).1
  have hHs := (my_ok q1).2
  rw [decide_eq_false q1]
  refine W_cond_f rfl ?_
  refine W_skip (W_seq (W_region ?_))
  refine Was (.int .i64 0) ?_
  refine Wl_nil (W_seq (W_seq (W_region ?_)))
  refine Was (.int .i64 0) ?_
  refine Wl_nil (W_block ?_)
  refine W_loop (fun mu ρ ds w' => ∃ (k : Nat), m - k = mu ∧ ds = [] ∧ Liv ρ [(0, .slice a n c), (1, .slice a2 m d), (7, .int .i64 ((eL l (b.take k) : Nat) : Int)), (8, .int .i64 ((k : Nat) : Int))] ∧ k ≤ m ∧ Upd No w1 w') _ ⟨0, rfl, rfl, ⟨rfl, rfl, (Eq.trans (b := .int .i64 0) rfl (vint (by simp [eL]))), (by first | rfl | exact vint (by omega) | exact vint (by simp)), trivial⟩, (by omega), Upd.refl _ _⟩ ?_
  rintro m2 ρ2 ds2 w2 ⟨k, rfl, rfl, hl2, hk, hU2⟩
  obtain ⟨ρ2x, rfl⟩ : ∃ ρx, ρ2 = upds ρx [(0, .slice a n c), (1, .slice a2 m d), (7, .int .i64 ((eL l (b.take k) : Nat) : Int)), (8, .int .i64 ((k : Nat) : Int))] := ⟨_, upds_self hl2⟩
  clear hl2
  have hzw2 := hU2.size
  replace hs := hs.upd0 hU2
  replace hsb := hsb.upd0 hU2
  replace HU := HU.trans0 hU2
  have HL2 := hU2
  refine W_seq (W_seq (W_region ?_))
  refine Wmv (.int .i64 ((k : Nat) : Int)) ?_
  refine Wmv (.slice a2 m d) ?_
  refine Wl_v (r_len Tryz.underlying32 rfl) ?_
  refine Wl_v (r_lt rfl rfl) ?_
  refine Wl_nil ?_
  by_cases q2 : ((k : Nat) : Int) < ((m : Nat) : Int)
  ·have hbk := byt_get hb k
   have hgt := hHs.get (k := k) (by omega)
   have hgd := hr.1.gd (b.getD k 0).toNat
   have hel := eL_le hr (b.take k)
   rw [List.length_take] at hel
   rw [decide_eq_true q2]
   refine W_cond_t rfl ?_
   refine W_skip (W_seq (W_block (W_region ?_)))
   refine Wmv (.int .i64 ((eL l (b.take k) : Nat) : Int)) ?_
   refine Wmv (.slice a n c) ?_
   refine Wmv (.slice a2 m d) ?_
   refine Wmv (.int .i64 ((k : Nat) : Int)) ?_
   refine Wl_idxi Tryz.underlying32 Tryz.sizeOf5 rfl rfl hsb (by omega) (by omega) ?_
   intro ib3 io3 hc3
   rw [Int.toNat_natCast] at hc3
   refine Wl_loadc Tryz.isAgg5 rfl hc3 ?_
   refine Wl_v (r_cvt Tryz.underlying5 Tryz.underlying3 rfl (wi64 (by omega) (by omega))) ?_
   refine Wl_idxi Tryz.underlying22 Tryz.sizeOf3 rfl rfl hs (by omega) (by omega) ?_
   intro ib4 io4 hc4
   refine Wl_loadc Tryz.isAgg3 rfl hc4 ?_
   refine Wl_v (r_add rfl rfl (wi64 (by omega) (by omega))) ?_
   refine Was (.int .i64 (((eL l (b.take k) : Nat) : Int) + (l.getD (b.getD k 0).toNat 0))) ?_
   refine Wl_nil (W_region ?_)
   refine Wmv (.int .i64 ((k : Nat) : Int)) ?_
   refine Wl_v (r_add rfl rfl (wi64 (by omega) (by omega))) ?_
   refine Was (.int .i64 (((k : Nat) : Int) + 1)) ?_
   refine Wl_nil ?_
   refine ⟨_, ?_, (k + 1), rfl, rfl, ⟨rfl, rfl, (Eq.trans (b := .int .i64 (((eL l (b.take k) : Nat) : Int) + (l.getD (b.getD k 0).toNat 0))) rfl (vint (by rw [eL_take (by omega)]; omega))), (Eq.trans (b := .int .i64 (((k : Nat) : Int) + 1)) rfl (vint (by omega))), trivial⟩, (by omega), HL2⟩
   omega
  ·have htk : b.take k = b := List.take_of_length_le (by omega)
   rw [decide_eq_false q2]
   refine W_cond_f rfl ?_
   refine W_exit ?_
   refine W_seq (W_region ?_)
   refine Wmv (.int .i64 ((eL l (b.take k) : Nat) : Int)) ?_
   refine Was (.int .i64 ((eL l (b.take k) : Nat) : Int)) ?_
   refine Was (.int .i64 0) ?_
   refine Wl_nil ?_
   refine W_ret ?_
   refine ret_end (v := .tuple #[.int .i64 ((eL l (b.take k) : Nat) : Int), .int .i64 0]) rfl (res2 Tryz.results42 rfl rfl) ?_
   have hF2 := (ec_my l b).2
   have hF1 : (blF l b).1 = ((eL l b : Nat) : Int) := by rw [blF, if_neg (fun h => h hr), if_neg (fun h => h hHs)]
   exact ⟨_, rfl, (vtup2 (vint (by rw [hF1, htk])) (vint (by rw [hF2]; omega))), HU⟩
end Go.Proofs.YtdppageondgjkaaGreat
namespace Go.Proofs.YtdppageondgjkaaGreat
open Go.Fw
set_option maxRecDepth 100000 in
theorem rbits_spec {x k : Nat} (w : World) (hbd : x < 18446744073709551616 ∧ k ≤ 64) :
  Calls Tryz.prog 76 #[.int .u64 ((x : Nat) : Int), .int .i64 ((k : Nat) : Int)] w (Ret fun v w' => ∃ (a' : Option Addr) (c' : Nat), v = .slice a' k c' ∧ Own w' (fun g => w.heap.size ≤ g) 4 1 (.slice a' k c') k (rows encB (bl x k)) ∧ Upd No w w') := by
 have HU : Upd (fun b => False) w w := Upd.refl _ _
 refine calls_of_W Tryz.func76 rfl Tryz.ntmps76 (by simp) ?_
 refine W_seq (W_region ?_)
 refine Was (.slice none 0 0) ?_
 refine Wl_nil (W_seq (W_region ?_))
 refine Was (.slice none 0 0) ?_
 refine Wl_nil (W_seq (W_seq (W_region ?_)))
 refine Was (.int .i64 0) ?_
 refine Wl_nil (W_block ?_)
 refine W_loop (fun mu ρ ds w' => ∃ (i : Nat) (a9 : Option Addr) (c9 : Nat), k - i = mu ∧ ds = [] ∧ Liv ρ [(0, .int .u64 ((x / 2 ^ i : Nat) : Int)), (1, .int .i64 ((k : Nat) : Int)), (5, .slice a9 i c9), (6, .int .i64 ((i : Nat) : Int))] ∧ i ≤ k ∧ Own w' (fun g => w.heap.size ≤ g) 4 1 (.slice a9 i c9) i (rows encB (bl x i)) ∧ Upd (fun g => w.heap.size ≤ g) w w') _ ⟨0, none, 0, rfl, rfl, ⟨(Eq.trans (b := .int .u64 ((x : Nat) : Int)) rfl (vint (by simp))), rfl, (by first | rfl | exact vint (by omega) | exact vint (by simp)), (by first | rfl | exact vint (by omega) | exact vint (by simp)), trivial⟩, (by omega), (by simpa [bl, tabn, rows] using Own.nil _ _ _ _), Upd.refl _ _⟩ ?_
 rintro m1 ρ1 ds1 w1 ⟨i, a9, c9, rfl, rfl, hl1, hi, hO, hU1⟩
 obtain ⟨ρ1x, rfl⟩ : ∃ ρx, ρ1 = upds ρx [(0, .int .u64 ((x / 2 ^ i : Nat) : Int)), (1, .int .i64 ((k : Nat) : Int)), (5, .slice a9 i c9), (6, .int .i64 ((i : Nat) : Int))] := ⟨_, upds_self hl1⟩
 clear hl1
 have hzw1 := hU1.size
 replace HU := HU.trans hU1 (by intro x hx; have hx2 : w.heap.size ≤ x := hx; show (False) ∨ w.heap.size ≤ x; omega)
 have HL1 := hU1
 refine W_seq (W_seq (W_region ?_))
 refine Wmv (.int .i64 ((i : Nat) : Int)) ?_
 refine Wmv (.int .i64 ((k : Nat) : Int)) ?_
 refine Wl_v (r_lt rfl rfl) ?_
 refine Wl_nil ?_
 by_cases q1 : ((i : Nat) : Int) < ((k : Nat) : Int)
 ·have hxi := Nat.div_le_self x (2 ^ i)
  obtain ⟨y, hy⟩ : ∃ y : Nat, x / 2 ^ i = y := ⟨_, rfl⟩
  rw [hy]
  rw [hy] at hxi
  replace hO := hO.tight
  rw [decide_eq_true q1]
  refine W_cond_t rfl ?_
  refine W_skip (W_seq (W_block (W_seq (W_region ?_))))
  refine Wmv (.slice a9 i c9) ?_
  refine Wmv (.int .u64 ((y : Nat) : Int)) ?_
  refine Wl_v (r_rem rfl rfl (by omega) (tr (by omega))) ?_
  refine Wl_v (r_eq rfl rfl) ?_
  by_cases q2 : (((y : Nat) : Int) % 2) = 1
  ·rw [decide_eq_true q2]
   refine Wl_lit (pv := [(0, .bool true)]) (cs := [.bool true]) Tryz.underlying117 Tryz.sizeOf4 Tryz.zeroValue4 (by decide) (by decide) (by simp only [List.map_toArray, List.map_cons, List.map_nil] <;> rfl) (by kernel_rfl) rfl (by decide) ?_
   intro B2 w2 hB2 hU2 hzz2 hs2
   have hzw2 := hU2.size
   replace hO := hO.upd0 hU2
   replace HL1 := HL1.trans0 hU2
   replace hs2 : Own w2 (Is B2) 4 1 (.slice (some ⟨B2, 0, none⟩) 1 1) 1 (rows encB [true]) := hs2
   refine Wl_appendc (cs3 := rows encB ((bl x i) ++ [true])) (tot := i + 1) (by first | rfl | exact (rows_app _ _).symm | simp) Tryz.underlying117 (ti := Tryz.t4) (z := .bool false) (sz := 1) (by' := 1) rfl rfl rfl rfl rfl (by decide) rfl hO rfl hs2.sl (rows_one encB_one _) (by omega) (by simp only [maxLen]; omega) (by omega) ?_
   intro a3 c3 w3 hU3 hzz3 hO3
   clear hO
   have hzw3 := hU3.size
   replace HL1 := HL1.trans hU3 (by intro x hx; have hx2 : ((w.heap.size ≤ x) ∧ x < w1.heap.size) := hx; show (w.heap.size ≤ x) ∨ w.heap.size ≤ x; omega)
   replace hO3 := hO3.tight
   have hl_hO3 := rlen encB_len (by decide) hO3.sl
   have hc_hO3 := hO3.sl.cap.1
   refine Was (.slice a3 (i + 1) c3) ?_
   refine Wl_nil (W_region ?_)
   refine Wmv (.int .u64 ((y : Nat) : Int)) ?_
   refine Wl_v (r_quo rfl rfl (by omega) (tq (by omega) (wu64 (by omega) (by omega)))) ?_
   refine Was (.int .u64 (((y : Nat) : Int) / 2)) ?_
   refine Wl_nil (W_region ?_)
   refine Wmv (.int .i64 ((i : Nat) : Int)) ?_
   refine Wl_v (r_add rfl rfl (wi64 (by omega) (by omega))) ?_
   refine Was (.int .i64 (((i : Nat) : Int) + 1)) ?_
   refine Wl_nil ?_
   refine ⟨_, ?_, (i + 1), a3, c3, rfl, rfl, ⟨(Eq.trans (b := .int .u64 (((y : Nat) : Int) / 2)) rfl (vint (by rw [Nat.pow_succ, ← Nat.div_div_eq_div_mul, hy]; omega))), rfl, (by first | rfl | exact vint (by omega) | exact vint (by simp)), (Eq.trans (b := .int .i64 (((i : Nat) : Int) + 1)) rfl (vint (by omega))), trivial⟩, (by omega), ((hO3.weak (by intro g hg; have h3 : ((((((w.heap.size ≤ g) ∧ g < w1.heap.size)) ∨ g = w2.heap.size)) ∧ g < w3.heap.size) := hg; show w.heap.size ≤ g; omega)).rcong (by rw [bl_succ, hy, decide_eq_true (by omega)])), HL1⟩
   omega
  ·rw [decide_eq_false q2]
   refine Wl_lit (pv := [(0, .bool false)]) (cs := [.bool false]) Tryz.underlying117 Tryz.sizeOf4 Tryz.zeroValue4 (by decide) (by decide) (by simp only [List.map_toArray, List.map_cons, List.map_nil] <;> rfl) (by kernel_rfl) rfl (by decide) ?_
   intro B4 w4 hB4 hU4 hzz4 hs4
   have hzw4 := hU4.size
   replace hO := hO.upd0 hU4
   replace HL1 := HL1.trans0 hU4
   replace hs4 : Own w4 (Is B4) 4 1 (.slice (some ⟨B4, 0, none⟩) 1 1) 1 (rows encB [false]) := hs4
   refine Wl_appendc (cs3 := rows encB ((bl x i) ++ [false])) (tot := i + 1) (by first | rfl | exact (rows_app _ _).symm | simp) Tryz.underlying117 (ti := Tryz.t4) (z := .bool false) (sz := 1) (by' := 1) rfl rfl rfl rfl rfl (by decide) rfl hO rfl hs4.sl (rows_one encB_one _) (by omega) (by simp only [maxLen]; omega) (by omega) ?_
   intro a5 c5 w5 hU5 hzz5 hO5
   clear hO
   have hzw5 := hU5.size
   replace HL1 := HL1.trans hU5 (by intro x hx; have hx2 : ((w.heap.size ≤ x) ∧ x < w1.heap.size) := hx; show (w.heap.size ≤ x) ∨ w.heap.size ≤ x; omega)
   replace hO5 := hO5.tight
   have hl_hO5 := rlen encB_len (by decide) hO5.sl
   have hc_hO5 := hO5.sl.cap.1
   refine Was (.slice a5 (i + 1) c5) ?_
   refine Wl_nil (W_region ?_)
   refine Wmv (.int .u64 ((y : Nat) : Int)) ?_
   refine Wl_v (r_quo rfl rfl (by omega) (tq (by omega) (wu64 (by omega) (by omega)))) ?_
   refine Was (.int .u64 (((y : Nat) : Int) / 2)) ?_
   refine Wl_nil (W_region ?_)
   refine Wmv (.int .i64 ((i : Nat) : Int)) ?_
   refine Wl_v (r_add rfl rfl (wi64 (by omega) (by omega))) ?_
   refine Was (.int .i64 (((i : Nat) : Int) + 1)) ?_
   refine Wl_nil ?_
   refine ⟨_, ?_, (i + 1), a5, c5, rfl, rfl, ⟨(Eq.trans (b := .int .u64 (((y : Nat) : Int) / 2)) rfl (vint (by rw [Nat.pow_succ, ← Nat.div_div_eq_div_mul, hy]; omega))), rfl, (by first | rfl | exact vint (by omega) | exact vint (by simp)), (Eq.trans (b := .int .i64 (((i : Nat) : Int) + 1)) rfl (vint (by omega))), trivial⟩, (by omega), ((hO5.weak (by intro g hg; have h3 : ((((((w.heap.size ≤ g) ∧ g < w1.heap.size)) ∨ g = w4.heap.size)) ∧ g < w5.heap.size) := hg; show w.heap.size ≤ g; omega)).rcong (by rw [bl_succ, hy, decide_eq_false (by omega)])), HL1⟩
   omega
 ·rw [decide_eq_false q1]
  obtain rfl : k = i := by omega
  refine W_cond_f rfl ?_
  refine W_exit ?_
  refine W_seq (W_region ?_)
  refine Wmv (.slice a9 k c9) ?_
  refine Was (.slice a9 k c9) ?_
  refine Wl_nil ?_
  refine W_ret ?_
  refine ret_end (v := .slice a9 k c9) rfl (res1 Tryz.results76 rfl) ?_
  exact ⟨_, rfl, a9, c9, rfl, (hO), HU⟩
set_option maxRecDepth 100000 in
theorem rbytes_spec {a : Option Addr} {n c V : Nat} (w : World) (hs : Sl w (fun g => g < w.heap.size) 1 (.slice a n c) n (rows encB (bl V n))) (hn : n ≤ 2000000) :
  Calls Tryz.prog 99 #[.slice a n c] w (Ret fun v w' => ∃ (a' : Option Addr) (c' : Nat), v = .slice a' ((n + 7) / 8) c' ∧ Own w' (fun g => w.heap.size ≤ g) 5 1 (.slice a' ((n + 7) / 8) c') ((n + 7) / 8) (ints .u8 (ub (V % 2 ^ n) ((n + 7) / 8))) ∧ Upd No w w') := by
 have HU : Upd (fun b => False) w w := Upd.refl _ _
 have hl_hs := rlen encB_len (by decide) hs
 have hc_hs := hs.cap.1
 refine calls_of_W Tryz.func99 rfl Tryz.ntmps99 (by simp) ?_
 refine W_seq (W_region ?_)
 refine Was (.slice none 0 0) ?_
 refine Wl_nil (W_seq (W_region ?_))
 refine Was (.slice none 0 0) ?_
 refine Wl_nil (W_seq (W_seq (W_region ?_)))
 refine Was (.int .i64 0) ?_
 refine Wl_nil (W_block ?_)
 refine W_loop (fun mu ρ ds w' => ∃ (i : Nat) (a9 : Option Addr) (c9 : Nat), n - i = mu ∧ ds = [] ∧ Liv ρ [(0, .slice a n c), (3, .slice a9 ((i + 7) / 8) c9), (4, .int .i64 ((i : Nat) : Int))] ∧ i ≤ n ∧ Own w' (fun g => w.heap.size ≤ g) 5 1 (.slice a9 ((i + 7) / 8) c9) ((i + 7) / 8) (ints .u8 (ub (V % 2 ^ i) ((i + 7) / 8))) ∧ Upd (fun g => w.heap.size ≤ g) w w') _ ⟨0, none, 0, rfl, rfl, ⟨rfl, (by first | rfl | exact vint (by omega) | exact vint (by simp)), (by first | rfl | exact vint (by omega) | exact vint (by simp)), trivial⟩, (by omega), (by simpa [ub, tabn] using Own.nil _ _ _ _), Upd.refl _ _⟩ ?_
 rintro m1 ρ1 ds1 w1 ⟨i, a9, c9, rfl, rfl, hl1, hi, hO, hU1⟩
 obtain ⟨ρ1x, rfl⟩ : ∃ ρx, ρ1 = upds ρx [(0, .slice a n c), (3, .slice a9 ((i + 7) / 8) c9), (4, .int .i64 ((i : Nat) : Int))] := ⟨_, upds_self hl1⟩
 clear hl1
 have hzw1 := hU1.size
 replace hs := hs.upd hU1 (by intro x h1 h2; have h3 : x < w.heap.size := h1; have h4 : w.heap.size ≤ x := h2; omega)
 replace HU := HU.trans hU1 (by intro x hx; have hx2 : w.heap.size ≤ x := hx; show (False) ∨ w.heap.size ≤ x; omega)
 have HL1 := hU1
 refine W_seq (W_seq (W_region ?_))
 refine Wmv (.int .i64 ((i : Nat) : Int)) ?_
 refine Wmv (.slice a n c) ?_
 refine Wl_v (r_len Tryz.underlying117 rfl) ?_
 refine Wl_v (r_lt rfl rfl) ?_
 refine Wl_nil ?_
 by_cases q1 : ((i : Nat) : Int) < ((n : Nat) : Int)
 ·replace hO := hO.tight
  rw [decide_eq_true q1]
  refine W_cond_t rfl ?_
  refine W_skip (W_seq (W_block (W_seq (W_seq (W_region ?_)))))
  refine Wmv (.int .i64 ((i : Nat) : Int)) ?_
  refine Wl_v (r_rem rfl rfl (by omega) (tr (by omega))) ?_
  refine Wl_v (r_eq rfl rfl) ?_
  refine Wl_nil ?_
  by_cases q2 : (((i : Nat) : Int) % 8) = 0
  ·have hi8 : (i + 7) / 8 = i / 8 := by omega
   rw [hi8] at hO
   rw [hi8]
   have hl_h8 := ilen hO.sl
   have hc_h8 := hO.sl.cap.1
   rw [decide_eq_true q2]
   refine W_cond_t rfl ?_
   refine W_region ?_
   refine Wmv (.slice a9 (i / 8) c9) ?_
   refine Wl_lit (pv := [(0, .int .u8 0)]) (cs := [.int .u8 0]) Tryz.underlying32 Tryz.sizeOf5 Tryz.zeroValue5 (by decide) (by decide) (by simp only [List.map_toArray, List.map_cons, List.map_nil] <;> rfl) (by kernel_rfl) rfl (by decide) ?_
   intro B2 w2 hB2 hU2 hzz2 hs2
   have hzw2 := hU2.size
   replace hs := hs.upd0 hU2
   replace hO := hO.upd0 hU2
   replace HL1 := HL1.trans0 hU2
   replace hs2 : Own w2 (Is B2) 5 1 (.slice (some ⟨B2, 0, none⟩) 1 1) 1 (ints .u8 [0]) := hs2
   refine Wl_appendi (xs := ub (V % 2 ^ i) (i / 8)) (ys := [0]) (zs := (ub (V % 2 ^ i) (i / 8)) ++ [0]) (k' := .u8) (tot := (i / 8) + 1) (by first | rfl | exact (rows_app _ _).symm | simp) Tryz.underlying32 (ti := Tryz.t5) (z := .int .u8 0) (sz := 1) (by' := 1) rfl rfl rfl rfl rfl (by decide) rfl hO rfl hs2.sl  (by omega) (by simp only [maxLen]; omega) (by omega) ?_
   intro a3 c3 w3 hU3 hzz3 hO3
   clear hO
   have hzw3 := hU3.size
   replace hs := hs.upd hU3 (by intro x h1 h2; have h3 : x < w.heap.size := h1; have h4 : ((w.heap.size ≤ x) ∧ x < w1.heap.size) := h2; omega)
   replace HL1 := HL1.trans hU3 (by intro x hx; have hx2 : ((w.heap.size ≤ x) ∧ x < w1.heap.size) := hx; show (w.heap.size ≤ x) ∨ w.heap.size ≤ x; omega)
   replace hO3 := hO3.tight
   have hl_hO3 := ilen hO3.sl
   have hc_hO3 := hO3.sl.cap.1
   refine Was (.slice a3 ((i / 8) + 1) c3) ?_
   refine Wl_nil (W_seq (W_region ?_))
   refine Wmv (.slice a n c) ?_
   refine Wmv (.int .i64 ((i : Nat) : Int)) ?_
   refine Wl_idxr false encB_len (by decide) Tryz.underlying117 Tryz.sizeOf4 rfl rfl hs (by omega) (by omega) ?_
   intro ib4 io4 hc4
   try rw [Int.toNat_natCast] at hc4
   refine Wl_loadc (v := .bool (decide (((bl V n).getD i false) = true))) Tryz.isAgg4 rfl (hc4 0 (by decide)) ?_
   refine Wl_nil ?_
   by_cases q3 : ((bl V n).getD i false) = true
   ·replace hO3 := hO3.icong (ub_pad (by omega))
    have hbit : V / 2 ^ i % 2 = 1 := by rw [bl_get (by omega)] at q3; simpa using q3
    have hset := ub_bit (V := V) (i := i) (m := i / 8 + 1) rfl hbit
    have hpw := pw_bd8 (k := i % 8) (by omega)
    have hug := ub_get (W := V % 2 ^ i) (n := i / 8 + 1) (i := i / 8) (by omega)
    have hum : V % 2 ^ i / 256 ^ (i / 8) < 2 ^ (i % 8) := by
     have := hold_lt (V := V % 2 ^ i) (L := i) (Nat.mod_lt _ (Nat.pow_pos (by decide)))
     exact this
    have hu7 := pw_bd8 (k := i % 8) (by omega)
    have hu8 : 2 ^ (i % 8) ≤ 2 ^ 7 := Nat.pow_le_pow_right (by decide) (by omega)
    rw [decide_eq_true q3]
    refine W_cond_t rfl ?_
    refine W_drawt rfl (l0 := tf 0 16) (by kernel_rfl) ?_
    refine Tk 0 (tf 1 16) rfl (YI_v (v := .slice a3 ((i / 8) + 1) c3) rfl (fun w' hw' => r_mv (v := .slice a3 ((i / 8) + 1) c3) rfl)) ?_
    refine Tk 1 (tf 2 16) rfl (YI_v (v := .int .i64 ((i : Nat) : Int)) rfl (fun w' hw' => r_mv (v := .int .i64 ((i : Nat) : Int)) rfl)) ?_
    refine Tk 2 (tf 3 16) rfl (YI_v (v := .int .i64 (((i : Nat) : Int) / 8)) rfl (fun w' hw' => r_quo rfl rfl (by omega) (tq (by omega) (wi64 (by omega) (by omega))))) ?_
    rw [show (((i : Nat) : Int) / 8 : Int) = ((i / 8 : Nat) : Int) from by omega]
    refine Tk 3 (tf 4 16) rfl (YI_v (v := .slice a3 ((i / 8) + 1) c3) rfl (fun w' hw' => r_mv (v := .slice a3 ((i / 8) + 1) c3) rfl)) ?_
    refine Tk 4 (tf 5 16) rfl (YI_v (v := .int .i64 ((i : Nat) : Int)) rfl (fun w' hw' => r_mv (v := .int .i64 ((i : Nat) : Int)) rfl)) ?_
    refine Tk 5 (tf 6 16) rfl (YI_v (v := .int .i64 (((i : Nat) : Int) / 8)) rfl (fun w' hw' => r_quo rfl rfl (by omega) (tq (by omega) (wi64 (by omega) (by omega))))) ?_
    rw [show (((i : Nat) : Int) / 8 : Int) = ((i / 8 : Nat) : Int) from by omega]
    obtain ⟨ib5, io5, ha5, hib5, hc5⟩ := (hO3.sl).iat (i := (i / 8)) (by omega)
    replace hib5 : ((((((w.heap.size ≤ ib5) ∧ ib5 < w1.heap.size)) ∨ ib5 = w2.heap.size)) ∧ ib5 < w3.heap.size) := hib5
    refine Tk 6 (tf 7 16) rfl (YI_v (v := .pointer (some ⟨ib5, io5 + (i / 8), none⟩)) rfl (fun w' hw' => r_idx (b := ib5) (off := io5) (m := (i / 8) + 1) (c := c3) (o' := io5 + (i / 8)) Tryz.underlying32 Tryz.sizeOf5 (by rw [← ha5]; rfl) rfl (by omega) (by omega) (by omega))) ?_
    refine Tk 7 (tf 8 16) rfl (YI_v (v := .int .u8 ((ub (V % 2 ^ i) (i / 8 + 1)).getD (i / 8) 0)) rfl (fun w' hw' => r_load Tryz.isAgg5 rfl (hw'.cellk hc5))) ?_
    obtain ⟨u9, hu9⟩ : ∃ u9 : Nat, V % 2 ^ i / 256 ^ (i / 8) % 256 = u9 := ⟨_, rfl⟩
    rw [hu9] at hset hug
    have hu9b : u9 < 2 ^ (i % 8) := by have := Nat.mod_le (V % 2 ^ i / 256 ^ (i / 8)) 256; omega
    rw [show ((ub (V % 2 ^ i) (i / 8 + 1)).getD (i / 8) 0 : Int) = ((u9 : Nat) : Int) from hug]
    refine Tk 9 (#[true, true, true, true, true, true, true, true, false, true, false, false, false, false, false, false]) rfl (YI_v (v := .int .i64 ((i : Nat) : Int)) rfl (fun w' hw' => r_mv (v := .int .i64 ((i : Nat) : Int)) rfl)) ?_
    refine Tk 10 (#[true, true, true, true, true, true, true, true, false, true, true, false, false, false, false, false]) rfl (YI_v (v := .int .i64 (((i : Nat) : Int) % 8)) rfl (fun w' hw' => r_rem rfl rfl (by omega) (tr (by omega)))) ?_
    rw [show (((i : Nat) : Int) % 8 : Int) = ((i % 8 : Nat) : Int) from by omega]
    intro w6 hU6
    have hzw6 := hU6.size
    replace HL1 := HL1.trans0 hU6
    replace hO3 := hO3.upd0 hU6
    replace hc5 := cell_upd0 hU6 hc5
    refine Wa_one (i := 8) (listed' := tf 11 16) (by kernel_rfl) rfl (by kernel_rfl) ?_
    refine Ws_of_Wl ?_
    have hW : Upd No w3 w6 := hU6
    refine Wl_lit (pv := [(0, .int .u8 1), (1, .int .u8 2), (2, .int .u8 4), (3, .int .u8 8), (4, .int .u8 16), (5, .int .u8 32), (6, .int .u8 64), (7, .int .u8 128)]) (cs := [.int .u8 1, .int .u8 2, .int .u8 4, .int .u8 8, .int .u8 16, .int .u8 32, .int .u8 64, .int .u8 128]) Tryz.underlying32 Tryz.sizeOf5 Tryz.zeroValue5 (by decide) (by decide) (by simp only [List.map_toArray, List.map_cons, List.map_nil] <;> rfl) (by kernel_rfl) rfl (by decide) ?_
    intro B7 w7 hB7 hU7 hzz7 hs7
    have hzw7 := hU7.size
    replace HL1 := HL1.trans0 hU7
    replace hO3 := hO3.upd0 hU7
    replace hc5 := cell_upd0 hU7 hc5
    try replace hW := hW.trans0 hU7
    replace hs7 : Own w7 (Is B7) 5 1 (.slice (some ⟨B7, 0, none⟩) 8 8) 8 (ints .u8 [1, 2, 4, 8, 16, 32, 64, 128]) := hs7
    replace hs7 : Own w7 (Is B7) 5 1 (.slice (some ⟨B7, 0, none⟩) 8 8) 8 (ints .u8 [1, 2, 4, 8, 16, 32, 64, 128]) := hs7
    refine Wl_nil ?_
    intro w8 hS8
    have hX : Upd No w3 w8 := hW.trans0 hS8.upd
    refine ⟨fun _ => ⟨hX, ?_⟩, fun h => absurd h (by rw [show barOp _ 8 = false from by kernel_rfl]; simp)⟩
    have hU8 := hS8.upd
    have hzw8 := hU8.size
    replace HL1 := HL1.trans0 hU8
    replace hO3 := hO3.upd0 hU8
    replace hc5 := cell_upd0 hU8 hc5
    replace hs7 := hs7.upd0 hU8
    try replace hW := hW.trans0 hU8
    refine Wt_base hX ?_
    obtain ⟨ib9, io9, ha9, hib9, hc9⟩ := (hs7.sl).iat (i := (i % 8)) (by omega)
    replace hib9 : ib9 = B7 := hib9
    refine Tk 11 (tf 12 16) rfl (YI_v (v := .pointer (some ⟨ib9, io9 + (i % 8), none⟩)) rfl (fun w' hw' => r_idx (b := ib9) (off := io9) (m := 8) (c := 8) (o' := io9 + (i % 8)) Tryz.underlying32 Tryz.sizeOf5 (by rw [← ha9]; rfl) rfl (by omega) (by omega) (by omega))) ?_
    refine Tk 12 (tf 13 16) rfl (YI_v (v := .int .u8 ([1, 2, 4, 8, 16, 32, 64, 128].getD (i % 8) 0)) rfl (fun w' hw' => r_load Tryz.isAgg5 rfl (hw'.cellk hc9))) ?_
    rw [show ([1, 2, 4, 8, 16, 32, 64, 128].getD (i % 8) 0 : Int) = ((2 ^ (i % 8) : Nat) : Int) from bt_pow _ (by omega)]
    refine Tk 13 (tf 14 16) rfl (YI_v (v := .int .u8 (((u9 : Nat) : Int) + ((2 ^ (i % 8) : Nat) : Int))) rfl (fun w' hw' => r_add rfl rfl (wu8 (by omega) (by omega)))) ?_
    obtain ⟨g10, rfl, hg10⟩ := hO3.addr (by omega)
    replace hg10 : ((((((w.heap.size ≤ g10) ∧ g10 < w1.heap.size)) ∨ g10 = w2.heap.size)) ∧ g10 < w3.heap.size) := hg10
    have hc11 := hO3.cellAt (i := (i / 8)) (by omega)
    refine Tk 14 (tf 15 16) rfl (YI_v (v := .pointer (some ⟨g10, (i / 8), none⟩)) rfl (fun w' hw' => r_idx (b := g10) (off := 0) (m := (i / 8) + 1) (c := c3) (o' := (i / 8)) Tryz.underlying32 Tryz.sizeOf5 rfl rfl (by omega) (by omega) (by omega))) ?_
    intro w12 hU12
    have hzw12 := hU12.size
    replace HL1 := HL1.trans0 hU12
    replace hO3 := hO3.upd0 hU12
    replace hc11 := cell_upd0 hU12 hc11
    try replace hW := hW.trans0 hU12
    refine Wa_one (i := 15) (listed' := tf 16 16) (by kernel_rfl) rfl (by kernel_rfl) ?_
    refine Ws_of_Wl ?_
    have hW : Upd No w8 w12 := hU12
    refine Wl_storeo (i := (i / 8)) Tryz.sizeOf5 rfl rfl hO3 (by omega) ?_
    intro w13 hU13 hzz13 hO13
    clear hO3
    have hzw13 := hU13.size
    replace HL1 := HL1.trans1 hU13 (by show (w.heap.size ≤ g10) ∨ w.heap.size ≤ g10; omega)
    have hl_hO13 := ilen hO13.sl
    have hc_hO13 := hO13.sl.cap.1
    refine Wl_nil ?_
    intro w14 hS14
    refine ⟨fun h => absurd h (by rw [show barOp _ 15 = true from by kernel_rfl]; simp), fun _ => ⟨Upd No w14, ?_⟩⟩
    have hU14 := hS14.upd
    have hzw14 := hU14.size
    replace HL1 := HL1.trans0 hU14
    replace hO13 := hO13.upd0 hU14
    try replace hW := hW.trans0 hU14
    refine Wa_done (by kernel_rfl) ?_
    refine W_region ?_
    refine Wmv (.int .i64 ((i : Nat) : Int)) ?_
    refine Wl_v (r_add rfl rfl (wi64 (by omega) (by omega))) ?_
    refine Was (.int .i64 (((i : Nat) : Int) + 1)) ?_
    refine Wl_nil ?_
    refine ⟨_, ?_, (i + 1), (some ⟨g10, 0, none⟩), c3, rfl, rfl, ⟨rfl, (Eq.trans (b := .slice (some ⟨g10, 0, none⟩) ((i / 8) + 1) c3) rfl (by rw [show (i + 1 + 7) / 8 = i / 8 + 1 from by omega])), (Eq.trans (b := .int .i64 (((i : Nat) : Int) + 1)) rfl (vint (by omega))), trivial⟩, (by omega), (by rw [show (i + 1 + 7) / 8 = i / 8 + 1 from by omega]; exact (hO13.weak (by intro g hg; have h3 : ((((((w.heap.size ≤ g) ∧ g < w1.heap.size)) ∨ g = w2.heap.size)) ∧ g < w3.heap.size) := hg; show w.heap.size ≤ g; omega)).icong (by exact hset)), HL1⟩
    omega
   ·replace hO3 := hO3.icong (ub_pad (by omega))
    have hbit : ¬ V / 2 ^ i % 2 = 1 := by rw [bl_get (by omega)] at q3; simpa using q3
    rw [decide_eq_false q3]
    refine W_cond_f rfl ?_
    refine W_skip (W_region ?_)
    refine Wmv (.int .i64 ((i : Nat) : Int)) ?_
    refine Wl_v (r_add rfl rfl (wi64 (by omega) (by omega))) ?_
    refine Was (.int .i64 (((i : Nat) : Int) + 1)) ?_
    refine Wl_nil ?_
    refine ⟨_, ?_, (i + 1), a3, c3, rfl, rfl, ⟨rfl, (Eq.trans (b := .slice a3 ((i / 8) + 1) c3) rfl (by rw [show (i + 1 + 7) / 8 = i / 8 + 1 from by omega])), (Eq.trans (b := .int .i64 (((i : Nat) : Int) + 1)) rfl (vint (by omega))), trivial⟩, (by omega), (by rw [show (i + 1 + 7) / 8 = i / 8 + 1 from by omega]; exact (hO3.weak (by intro g hg; have h3 : ((((((w.heap.size ≤ g) ∧ g < w1.heap.size)) ∨ g = w2.heap.size)) ∧ g < w3.heap.size) := hg; show w.heap.size ≤ g; omega)).icong (by rw [ub_nobit hbit])), HL1⟩
    omega
  ·have hi8 : (i + 7) / 8 = i / 8 + 1 := by omega
   rw [hi8] at hO
   rw [hi8]
   have hl_h8 := ilen hO.sl
   have hc_h8 := hO.sl.cap.1
   rw [decide_eq_false q2]
   refine W_cond_f rfl ?_
   refine W_skip (W_seq (W_region ?_))
   refine Wmv (.slice a n c) ?_
   refine Wmv (.int .i64 ((i : Nat) : Int)) ?_
   refine Wl_idxr false encB_len (by decide) Tryz.underlying117 Tryz.sizeOf4 rfl rfl hs (by omega) (by omega) ?_
   intro ib15 io15 hc15
   try rw [Int.toNat_natCast] at hc15
   refine Wl_loadc (v := .bool (decide (((bl V n).getD i false) = true))) Tryz.isAgg4 rfl (hc15 0 (by decide)) ?_
   refine Wl_nil ?_
   by_cases q4 : ((bl V n).getD i false) = true
   ·have hbit : V / 2 ^ i % 2 = 1 := by rw [bl_get (by omega)] at q4; simpa using q4
    have hset := ub_bit (V := V) (i := i) (m := i / 8 + 1) rfl hbit
    have hpw := pw_bd8 (k := i % 8) (by omega)
    have hug := ub_get (W := V % 2 ^ i) (n := i / 8 + 1) (i := i / 8) (by omega)
    have hum : V % 2 ^ i / 256 ^ (i / 8) < 2 ^ (i % 8) := by
     have := hold_lt (V := V % 2 ^ i) (L := i) (Nat.mod_lt _ (Nat.pow_pos (by decide)))
     exact this
    have hu7 := pw_bd8 (k := i % 8) (by omega)
    have hu8 : 2 ^ (i % 8) ≤ 2 ^ 7 := Nat.pow_le_pow_right (by decide) (by omega)
    rw [decide_eq_true q4]
    refine W_cond_t rfl ?_
    refine W_drawt rfl (l0 := tf 0 16) (by kernel_rfl) ?_
    refine Tk 0 (tf 1 16) rfl (YI_v (v := .slice a9 (i / 8 + 1) c9) rfl (fun w' hw' => r_mv (v := .slice a9 (i / 8 + 1) c9) rfl)) ?_
    refine Tk 1 (tf 2 16) rfl (YI_v (v := .int .i64 ((i : Nat) : Int)) rfl (fun w' hw' => r_mv (v := .int .i64 ((i : Nat) : Int)) rfl)) ?_
    refine Tk 2 (tf 3 16) rfl (YI_v (v := .int .i64 (((i : Nat) : Int) / 8)) rfl (fun w' hw' => r_quo rfl rfl (by omega) (tq (by omega) (wi64 (by omega) (by omega))))) ?_
    rw [show (((i : Nat) : Int) / 8 : Int) = ((i / 8 : Nat) : Int) from by omega]
    refine Tk 3 (tf 4 16) rfl (YI_v (v := .slice a9 (i / 8 + 1) c9) rfl (fun w' hw' => r_mv (v := .slice a9 (i / 8 + 1) c9) rfl)) ?_
    refine Tk 4 (tf 5 16) rfl (YI_v (v := .int .i64 ((i : Nat) : Int)) rfl (fun w' hw' => r_mv (v := .int .i64 ((i : Nat) : Int)) rfl)) ?_
    refine Tk 5 (tf 6 16) rfl (YI_v (v := .int .i64 (((i : Nat) : Int) / 8)) rfl (fun w' hw' => r_quo rfl rfl (by omega) (tq (by omega) (wi64 (by omega) (by omega))))) ?_
    rw [show (((i : Nat) : Int) / 8 : Int) = ((i / 8 : Nat) : Int) from by omega]
    obtain ⟨ib16, io16, ha16, hib16, hc16⟩ := (hO.sl).iat (i := (i / 8)) (by omega)
    replace hib16 : ((w.heap.size ≤ ib16) ∧ ib16 < w1.heap.size) := hib16
    refine Tk 6 (tf 7 16) rfl (YI_v (v := .pointer (some ⟨ib16, io16 + (i / 8), none⟩)) rfl (fun w' hw' => r_idx (b := ib16) (off := io16) (m := i / 8 + 1) (c := c9) (o' := io16 + (i / 8)) Tryz.underlying32 Tryz.sizeOf5 (by rw [← ha16]; rfl) rfl (by omega) (by omega) (by omega))) ?_
    refine Tk 7 (tf 8 16) rfl (YI_v (v := .int .u8 ((ub (V % 2 ^ i) (i / 8 + 1)).getD (i / 8) 0)) rfl (fun w' hw' => r_load Tryz.isAgg5 rfl (hw'.cellk hc16))) ?_
    obtain ⟨u9, hu9⟩ : ∃ u9 : Nat, V % 2 ^ i / 256 ^ (i / 8) % 256 = u9 := ⟨_, rfl⟩
    rw [hu9] at hset hug
    have hu9b : u9 < 2 ^ (i % 8) := by have := Nat.mod_le (V % 2 ^ i / 256 ^ (i / 8)) 256; omega
    rw [show ((ub (V % 2 ^ i) (i / 8 + 1)).getD (i / 8) 0 : Int) = ((u9 : Nat) : Int) from hug]
    refine Tk 9 (#[true, true, true, true, true, true, true, true, false, true, false, false, false, false, false, false]) rfl (YI_v (v := .int .i64 ((i : Nat) : Int)) rfl (fun w' hw' => r_mv (v := .int .i64 ((i : Nat) : Int)) rfl)) ?_
    refine Tk 10 (#[true, true, true, true, true, true, true, true, false, true, true, false, false, false, false, false]) rfl (YI_v (v := .int .i64 (((i : Nat) : Int) % 8)) rfl (fun w' hw' => r_rem rfl rfl (by omega) (tr (by omega)))) ?_
    rw [show (((i : Nat) : Int) % 8 : Int) = ((i % 8 : Nat) : Int) from by omega]
    intro w17 hU17
    have hzw17 := hU17.size
    replace hO := hO.upd0 hU17
    replace HL1 := HL1.trans0 hU17
    replace hc16 := cell_upd0 hU17 hc16
    refine Wa_one (i := 8) (listed' := tf 11 16) (by kernel_rfl) rfl (by kernel_rfl) ?_
    refine Ws_of_Wl ?_
    have hW : Upd No w1 w17 := hU17
    refine Wl_lit (pv := [(0, .int .u8 1), (1, .int .u8 2), (2, .int .u8 4), (3, .int .u8 8), (4, .int .u8 16), (5, .int .u8 32), (6, .int .u8 64), (7, .int .u8 128)]) (cs := [.int .u8 1, .int .u8 2, .int .u8 4, .int .u8 8, .int .u8 16, .int .u8 32, .int .u8 64, .int .u8 128]) Tryz.underlying32 Tryz.sizeOf5 Tryz.zeroValue5 (by decide) (by decide) (by simp only [List.map_toArray, List.map_cons, List.map_nil] <;> rfl) (by kernel_rfl) rfl (by decide) ?_
    intro B18 w18 hB18 hU18 hzz18 hs18
    have hzw18 := hU18.size
    replace hO := hO.upd0 hU18
    replace HL1 := HL1.trans0 hU18
    replace hc16 := cell_upd0 hU18 hc16
    try replace hW := hW.trans0 hU18
    replace hs18 : Own w18 (Is B18) 5 1 (.slice (some ⟨B18, 0, none⟩) 8 8) 8 (ints .u8 [1, 2, 4, 8, 16, 32, 64, 128]) := hs18
    replace hs18 : Own w18 (Is B18) 5 1 (.slice (some ⟨B18, 0, none⟩) 8 8) 8 (ints .u8 [1, 2, 4, 8, 16, 32, 64, 128]) := hs18
    refine Wl_nil ?_
    intro w19 hS19
    have hX : Upd No w1 w19 := hW.trans0 hS19.upd
    refine ⟨fun _ => ⟨hX, ?_⟩, fun h => absurd h (by rw [show barOp _ 8 = false from by kernel_rfl]; simp)⟩
    have hU19 := hS19.upd
    have hzw19 := hU19.size
    replace hO := hO.upd0 hU19
    replace HL1 := HL1.trans0 hU19
    replace hc16 := cell_upd0 hU19 hc16
    replace hs18 := hs18.upd0 hU19
    try replace hW := hW.trans0 hU19
    refine Wt_base hX ?_
    obtain ⟨ib20, io20, ha20, hib20, hc20⟩ := (hs18.sl).iat (i := (i % 8)) (by omega)
    replace hib20 : ib20 = B18 := hib20
    refine Tk 11 (tf 12 16) rfl (YI_v (v := .pointer (some ⟨ib20, io20 + (i % 8), none⟩)) rfl (fun w' hw' => r_idx (b := ib20) (off := io20) (m := 8) (c := 8) (o' := io20 + (i % 8)) Tryz.underlying32 Tryz.sizeOf5 (by rw [← ha20]; rfl) rfl (by omega) (by omega) (by omega))) ?_
    refine Tk 12 (tf 13 16) rfl (YI_v (v := .int .u8 ([1, 2, 4, 8, 16, 32, 64, 128].getD (i % 8) 0)) rfl (fun w' hw' => r_load Tryz.isAgg5 rfl (hw'.cellk hc20))) ?_
    rw [show ([1, 2, 4, 8, 16, 32, 64, 128].getD (i % 8) 0 : Int) = ((2 ^ (i % 8) : Nat) : Int) from bt_pow _ (by omega)]
    refine Tk 13 (tf 14 16) rfl (YI_v (v := .int .u8 (((u9 : Nat) : Int) + ((2 ^ (i % 8) : Nat) : Int))) rfl (fun w' hw' => r_add rfl rfl (wu8 (by omega) (by omega)))) ?_
    obtain ⟨g21, rfl, hg21⟩ := hO.addr (by omega)
    replace hg21 : ((w.heap.size ≤ g21) ∧ g21 < w1.heap.size) := hg21
    have hc22 := hO.cellAt (i := (i / 8)) (by omega)
    refine Tk 14 (tf 15 16) rfl (YI_v (v := .pointer (some ⟨g21, (i / 8), none⟩)) rfl (fun w' hw' => r_idx (b := g21) (off := 0) (m := i / 8 + 1) (c := c9) (o' := (i / 8)) Tryz.underlying32 Tryz.sizeOf5 rfl rfl (by omega) (by omega) (by omega))) ?_
    intro w23 hU23
    have hzw23 := hU23.size
    replace hO := hO.upd0 hU23
    replace HL1 := HL1.trans0 hU23
    replace hc22 := cell_upd0 hU23 hc22
    try replace hW := hW.trans0 hU23
    refine Wa_one (i := 15) (listed' := tf 16 16) (by kernel_rfl) rfl (by kernel_rfl) ?_
    refine Ws_of_Wl ?_
    have hW : Upd No w19 w23 := hU23
    refine Wl_storeo (i := (i / 8)) Tryz.sizeOf5 rfl rfl hO (by omega) ?_
    intro w24 hU24 hzz24 hO24
    clear hO
    have hzw24 := hU24.size
    replace HL1 := HL1.trans1 hU24 (by show (w.heap.size ≤ g21) ∨ w.heap.size ≤ g21; omega)
    have hl_hO24 := ilen hO24.sl
    have hc_hO24 := hO24.sl.cap.1
    refine Wl_nil ?_
    intro w25 hS25
    refine ⟨fun h => absurd h (by rw [show barOp _ 15 = true from by kernel_rfl]; simp), fun _ => ⟨Upd No w25, ?_⟩⟩
    have hU25 := hS25.upd
    have hzw25 := hU25.size
    replace HL1 := HL1.trans0 hU25
    replace hO24 := hO24.upd0 hU25
    try replace hW := hW.trans0 hU25
    refine Wa_done (by kernel_rfl) ?_
    refine W_region ?_
    refine Wmv (.int .i64 ((i : Nat) : Int)) ?_
    refine Wl_v (r_add rfl rfl (wi64 (by omega) (by omega))) ?_
    refine Was (.int .i64 (((i : Nat) : Int) + 1)) ?_
    refine Wl_nil ?_
    refine ⟨_, ?_, (i + 1), (some ⟨g21, 0, none⟩), c9, rfl, rfl, ⟨rfl, (Eq.trans (b := .slice (some ⟨g21, 0, none⟩) (i / 8 + 1) c9) rfl (by rw [show (i + 1 + 7) / 8 = i / 8 + 1 from by omega])), (Eq.trans (b := .int .i64 (((i : Nat) : Int) + 1)) rfl (vint (by omega))), trivial⟩, (by omega), (by rw [show (i + 1 + 7) / 8 = i / 8 + 1 from by omega]; exact (hO24.weak (by intro g hg; have h3 : ((w.heap.size ≤ g) ∧ g < w1.heap.size) := hg; show w.heap.size ≤ g; omega)).icong (by exact hset)), HL1⟩
    omega
   ·have hbit : ¬ V / 2 ^ i % 2 = 1 := by rw [bl_get (by omega)] at q4; simpa using q4
    rw [decide_eq_false q4]
    refine W_cond_f rfl ?_
    refine W_skip (W_region ?_)
    refine Wmv (.int .i64 ((i : Nat) : Int)) ?_
    refine Wl_v (r_add rfl rfl (wi64 (by omega) (by omega))) ?_
    refine Was (.int .i64 (((i : Nat) : Int) + 1)) ?_
    refine Wl_nil ?_
    refine ⟨_, ?_, (i + 1), a9, c9, rfl, rfl, ⟨rfl, (Eq.trans (b := .slice a9 (i / 8 + 1) c9) rfl (by rw [show (i + 1 + 7) / 8 = i / 8 + 1 from by omega])), (Eq.trans (b := .int .i64 (((i : Nat) : Int) + 1)) rfl (vint (by omega))), trivial⟩, (by omega), (by rw [show (i + 1 + 7) / 8 = i / 8 + 1 from by omega]; exact (hO.weak (by intro g hg; have h3 : ((w.heap.size ≤ g) ∧ g < w1.heap.size) := hg; show w.heap.size ≤ g; omega)).icong (by rw [ub_nobit hbit])), HL1⟩
    omega
 ·rw [decide_eq_false q1]
  obtain rfl : n = i := by omega
  refine W_cond_f rfl ?_
  refine W_exit ?_
  refine W_seq (W_region ?_)
  refine Wmv (.slice a9 ((n + 7) / 8) c9) ?_
  refine Was (.slice a9 ((n + 7) / 8) c9) ?_
  refine Wl_nil ?_
  refine W_ret ?_
  refine ret_end (v := .slice a9 ((n + 7) / 8) c9) rfl (res1 Tryz.results99 rfl) ?_
  exact ⟨_, rfl, a9, c9, rfl, (hO), HU⟩
end Go.Proofs.YtdppageondgjkaaGreat
namespace Go.Proofs.YtdppageondgjkaaGreat
open Go.Fw
set_option maxRecDepth 100000 in
theorem rclose_spec {a : Option Addr} {L c V : Nat} (w : World) (hs : Sl w (fun g => g < w.heap.size) 1 (.slice a L c) L (rows encB (bl V L))) (hn : L ≤ 1900000) (hV : V < 2 ^ L) :
  Calls Tryz.prog 77 #[.slice a L c] w (Ret fun v w' => ∃ (a' : Option Addr) (c' : Nat), v = .slice a' (L / 8 + 1) c' ∧ Own w' (fun g => w.heap.size ≤ g) 5 1 (.slice a' (L / 8 + 1) c') (L / 8 + 1) (ints .u8 (ub (V + 2 ^ L) (L / 8 + 1))) ∧ Upd No w w') := by
 have HU : Upd (fun b => False) w w := Upd.refl _ _
 have hl_hs := rlen encB_len (by decide) hs
 have hc_hs := hs.cap.1
 refine calls_of_W Tryz.func77 rfl Tryz.ntmps77 (by simp) ?_
 refine W_seq (W_region ?_)
 refine Was (.slice none 0 0) ?_
 refine Wl_nil (W_seq (W_region ?_))
 refine Wmv (.slice a L c) ?_
 refine Wl_appendc (cs3 := rows encB (bl V L)) (tot := L) (by first | rfl | exact (rows_app _ _).symm | simp) Tryz.underlying117 (ti := Tryz.t4) (z := .bool false) (sz := 1) (by' := 1) rfl rfl rfl rfl rfl (by decide) rfl (Own.nil _ No _ _) rfl hs (rows_one encB_one _) (by omega) (by simp only [maxLen]; omega) (by omega) ?_
 intro a1 c1 w1 hU1 hzz1 hO1
 have hzw1 := hU1.size
 replace HU := HU.trans0 hU1
 replace hO1 := hO1.weak (R' := fun g => g = w.heap.size) (fun g h => h.elim (fun x => x.elim) id)
 replace hO1 := hO1.tight
 have hl_hO1 := rlen encB_len (by decide) hO1.sl
 have hc_hO1 := hO1.sl.cap.1
 refine Wl_lit (pv := [(0, .bool true)]) (cs := [.bool true]) Tryz.underlying117 Tryz.sizeOf4 Tryz.zeroValue4 (by decide) (by decide) (by simp only [List.map_toArray, List.map_cons, List.map_nil] <;> rfl) (by kernel_rfl) rfl (by decide) ?_
 intro B2 w2 hB2 hU2 hzz2 hs2
 have hzw2 := hU2.size
 replace HU := HU.trans0 hU2
 replace hO1 := hO1.upd0 hU2
 replace hs2 : Own w2 (Is B2) 4 1 (.slice (some ⟨B2, 0, none⟩) 1 1) 1 (rows encB [true]) := hs2
 refine Wl_appendc (cs3 := rows encB ((bl V L) ++ [true])) (tot := L + 1) (by first | rfl | exact (rows_app _ _).symm | simp) Tryz.underlying117 (ti := Tryz.t4) (z := .bool false) (sz := 1) (by' := 1) rfl rfl rfl rfl rfl (by decide) rfl hO1 rfl hs2.sl (rows_one encB_one _) (by omega) (by simp only [maxLen]; omega) (by omega) ?_
 intro a3 c3 w3 hU3 hzz3 hO3
 clear hO1
 have hzw3 := hU3.size
 replace HU := HU.trans hU3 (by intro x hx; have hx2 : ((x = w.heap.size) ∧ x < w1.heap.size) := hx; show (False) ∨ w.heap.size ≤ x; omega)
 replace hO3 := hO3.tight
 have hl_hO3 := rlen encB_len (by decide) hO3.sl
 have hc_hO3 := hO3.sl.cap.1
 replace hO3 := hO3.rcong (bl_close hV)
 refine Wl_call (r_call1 rfl Tryz.call99 rfl) (rbytes_spec _ hO3.sl.any (by omega)) ?_
 rintro v w4 ⟨a4, c4, rfl, hO4, hU4⟩
 have hzw4 := hU4.size
 replace HU := HU.trans0 hU4
 replace hO4 := hO4.tight
 have hl_hO4 := ilen hO4.sl
 have hc_hO4 := hO4.sl.cap.1
 refine Was (.slice a4 (((L + 1) + 7) / 8) c4) ?_
 refine Wl_nil ?_
 refine W_ret ?_
 refine ret_end (v := .slice a4 (((L + 1) + 7) / 8) c4) rfl (res1 Tryz.results77 rfl) ?_
 have hee : (L + 1 + 7) / 8 = L / 8 + 1 := by omega
 have hmm : (V + 2 ^ L) % 2 ^ (L + 1) = V + 2 ^ L := Nat.mod_eq_of_lt (by rw [Nat.pow_succ]; omega)
 exact ⟨_, rfl, a4, c4, (by rw [← hee]), (by rw [← hee]; exact (hO4.weak (by intro g hg; have h3 : ((w3.heap.size ≤ g) ∧ g < w4.heap.size) := hg; show w.heap.size ≤ g; omega)).icong (by rw [hmm])), HU⟩
end Go.Proofs.YtdppageondgjkaaGreat
namespace Go.Proofs.YtdppageondgjkaaGreat
open Go.Fw
end Go.Proofs.YtdppageondgjkaaGreat
namespace Go.Proofs.YtdppageondgjkaaGreat
open Go.Fw
set_option maxHeartbeats 2000000 in
set_option maxRecDepth 100000 in
theorem renc_spec {a a2 : Option Addr} {n c m d : Nat} {l b : List Int} {R : Nat → Prop} (w : World) (hs : Sl w R 1 (.slice a n c) n (ints .i64 l)) (hn : n ≤ 1000) (hsb : Sl w (fun g => g < w.heap.size) 1 (.slice a2 m d) m (ints .u8 b)) (hb : Byt b) (hm : m ≤ 100000) :
  Calls Tryz.prog 43 #[.slice a n c, .slice a2 m d] w (Ret fun v w' => ∃ (a' : Option Addr) (m' : Nat) (c' : Nat), v = .tuple #[.slice a' m' c', .int .i64 ((ecF l b).2)] ∧ Own w' (fun g => w.heap.size ≤ g) 5 1 (.slice a' m' c') m' (ints .u8 ((ecF l b).1)) ∧ Upd No w w') := by
 have HU : Upd (fun b => False) w w := Upd.refl _ _
 have hl_hs := ilen hs
 have hc_hs := hs.cap.1
 replace hs := hs.tight
 have hl_hsb := ilen hsb
 have hc_hsb := hsb.cap.1
 refine calls_of_W Tryz.func43 rfl Tryz.ntmps43 (by simp) ?_
 refine W_seq (W_region ?_)
 refine Was (.slice none 0 0) ?_
 refine Was (.int .i64 0) ?_
 refine Wl_nil (W_seq (W_seq (W_region ?_)))
 refine Wmv (.slice a n c) ?_
 refine Wmv (.slice a2 m d) ?_
 refine Wl_call (r_call2 rfl Tryz.call74 rfl rfl) (rmay_spec _ hs (by omega) hsb.any hb (by omega)) ?_
 rintro v w1 ⟨rfl, hU1⟩
 have hzw1 := hU1.size
 replace hs := hs.upd0 hU1
 replace hsb := hsb.upd0 hU1
 replace HU := HU.trans0 hU1
 refine Was (.int .i64 (myF l b)) ?_
 refine Wl_nil (W_seq (W_region ?_))
 refine Wmv (.int .i64 (myF l b)) ?_
 refine Wl_v (r_ne rfl rfl) ?_
 refine Wl_nil ?_
 by_cases q1 : (myF l b) ≠ 0
 ·rw [decide_eq_true q1]
  refine W_cond_t rfl ?_
  refine W_seq (W_region ?_)
  refine Wmv (.int .i64 (myF l b)) ?_
  refine Was (.slice none 0 0) ?_
  refine Was (.int .i64 (myF l b)) ?_
  refine Wl_nil ?_
  refine W_ret ?_
  refine ret_end (v := .tuple #[.slice none 0 0, .int .i64 (myF l b)]) rfl (res2 Tryz.results43 rfl rfl) ?_
  have hF : ecF l b = ([], myF l b) := ecF_err q1
  exact ⟨_, rfl, none, 0, 0, (vtup2 rfl (vint (by rw [hF]))), (by rw [hF]; exact (Own.nil _ _ 5 1)), HU⟩
 ·have hr := (my_ok q1).1
  have hHs := (my_ok q1).2
  rw [decide_eq_false q1]
  refine W_cond_f rfl ?_
  refine W_skip (W_seq (W_region ?_))
  refine Wmv (.slice a n c) ?_
  refine Wl_call (r_call1 rfl Tryz.call75 rfl) (rcodes_ok _ hs (by omega) hr) ?_
  rintro v w2 ⟨a2x, c2, rfl, hO2, hU2⟩
  have hzw2 := hU2.size
  replace hsb := hsb.upd0 hU2
  replace HU := HU.trans0 hU2
  replace hO2 := hO2.tight
  have hl_hO2 := rlen encC_len (by decide) hO2.sl
  have hc_hO2 := hO2.sl.cap.1
  refine Wmv (.tuple #[.slice a2x n c2, .int .i64 0]) ?_
  refine Wl_v (r_ext (v := .slice a2x n c2) rfl rfl) ?_
  refine Wl_v (r_ext (v := .int .i64 0) rfl rfl) ?_
  refine Was (.slice a2x n c2) ?_
  refine Was (.int .i64 0) ?_
  refine Wl_nil (W_seq (W_region ?_))
  refine Was (.slice none 0 0) ?_
  refine Wl_nil (W_seq (W_seq (W_region ?_)))
  refine Wmv (.slice a2 m d) ?_
  refine Wl_v (r_len Tryz.underlying32 rfl) ?_
  refine Wl_v (r_sub rfl rfl (wi64 (by omega) (by omega))) ?_
  refine Was (.int .i64 (((m : Nat) : Int) - 1)) ?_
  refine Wl_nil (W_block ?_)
  refine W_loop (fun mu ρ ds w' => ∃ (j : Nat) (a9 : Option Addr) (c9 : Nat), m - j = mu ∧ ds = [] ∧ Liv ρ [(1, .slice a2 m d), (7, .slice a2x n c2), (9, .slice a9 (eL l (b.drop (m - j))) c9), (10, .int .i64 (((m : Nat) : Int) - 1 - ((j : Nat) : Int)))] ∧ j ≤ m ∧ Own w' (fun g => w2.heap.size ≤ g) 4 1 (.slice a9 (eL l (b.drop (m - j))) c9) (eL l (b.drop (m - j))) (rows encB (bl (eV l (b.drop (m - j))) (eL l (b.drop (m - j))))) ∧ Upd (fun g => w2.heap.size ≤ g) w2 w') _ ⟨0, none, 0, rfl, rfl, ⟨rfl, rfl, (Eq.trans (b := .slice none 0 0) rfl (by rw [List.drop_of_length_le (by omega)]; rfl)), (Eq.trans (b := .int .i64 (((m : Nat) : Int) - 1)) rfl (vint (by omega))), trivial⟩, (by omega), (by rw [List.drop_of_length_le (by omega)]; simpa [bl, tabn, rows, eV, eL] using Own.nil _ _ _ _), Upd.refl _ _⟩ ?_
  rintro m3 ρ3 ds3 w3 ⟨j, a9, c9, rfl, rfl, hl3, hj, hO, hU3⟩
  obtain ⟨ρ3x, rfl⟩ : ∃ ρx, ρ3 = upds ρx [(1, .slice a2 m d), (7, .slice a2x n c2), (9, .slice a9 (eL l (b.drop (m - j))) c9), (10, .int .i64 (((m : Nat) : Int) - 1 - ((j : Nat) : Int)))] := ⟨_, upds_self hl3⟩
  clear hl3
  have hzw3 := hU3.size
  replace hsb := hsb.upd hU3 (by intro x h1 h2; have h3 : x < w.heap.size := h1; have h4 : w2.heap.size ≤ x := h2; omega)
  replace HU := HU.trans hU3 (by intro x hx; have hx2 : w2.heap.size ≤ x := hx; show (False) ∨ w.heap.size ≤ x; omega)
  replace hO2 := hO2.upd hU3 (by intro x h1 h2; have h3 : ((w1.heap.size ≤ x) ∧ x < w2.heap.size) := h1; have h4 : w2.heap.size ≤ x := h2; omega)
  have HL3 := hU3
  refine W_seq (W_seq (W_region ?_))
  refine Wmv (.int .i64 (((m : Nat) : Int) - 1 - ((j : Nat) : Int))) ?_
  refine Wl_v (r_ge rfl rfl) ?_
  refine Wl_nil ?_
  by_cases q2 : 0 ≤ (((m : Nat) : Int) - 1 - ((j : Nat) : Int))
  ·have hgt := hHs.get (k := m - 1 - j) (by omega)
   have hbk := byt_get hb (m - 1 - j)
   have hgd := hr.1.gd (b.getD (m - 1 - j) 0).toNat
   have hEi : (((m : Nat) : Int) - 1 - ((j : Nat) : Int)).toNat = m - 1 - j := by omega
   have hEb : b.getD (((m : Nat) : Int) - 1 - ((j : Nat) : Int)).toNat 0 = b.getD (m - 1 - j) 0 := by rw [hEi]
   have hcg : (cds l).getD (b.getD (m - 1 - j) 0).toNat (0, 0) = cd l (b.getD (m - 1 - j) 0).toNat := cds_get hgt.1
   have hcb := cd_bd hr hgt.1 (by omega)
   have hbl2 := bits_lt hr hgt.1 (by omega)
   obtain ⟨k9, hk9, hk8⟩ : ∃ k9 : Nat, ((cds l).getD (b.getD (((m : Nat) : Int) - 1 - ((j : Nat) : Int)).toNat 0).toNat (0, 0)).1 = ((k9 : Nat) : Int) ∧ (l.getD (b.getD (m - 1 - j) 0).toNat 0).toNat = k9 := ⟨_, by rw [hEi, hcg, hcb.2.2.1]; omega, rfl⟩
   obtain ⟨x9, hx9, hx8⟩ : ∃ x9 : Nat, ((cds l).getD (b.getD (((m : Nat) : Int) - 1 - ((j : Nat) : Int)).toNat 0).toNat (0, 0)).2 = ((x9 : Nat) : Int) ∧ (cd l (b.getD (m - 1 - j) 0).toNat).2.toNat = x9 := ⟨_, by rw [hEi, hcg]; omega, rfl⟩
   have hes := enc_step (i := j) (by omega) (by omega) hk8 hx8
   have hVd := eV_lt hr (hHs.drop (m - j))
   have hLd := eL_le hr (b.drop (m - j))
   rw [List.length_drop] at hLd
   rw [hk8, hx8] at hbl2
   have hbE := byt_get hb (((m : Nat) : Int) - 1 - ((j : Nat) : Int)).toNat
   replace hO := hO.tight
   rw [decide_eq_true q2]
   refine W_cond_t rfl ?_
   refine W_skip (W_seq (W_block (W_seq (W_region ?_))))
   refine Wmv (.slice a2x n c2) ?_
   refine Wmv (.slice a2 m d) ?_
   refine Wmv (.int .i64 (((m : Nat) : Int) - 1 - ((j : Nat) : Int))) ?_
   refine Wl_idxi Tryz.underlying32 Tryz.sizeOf5 rfl rfl hsb (by omega) (by omega) ?_
   intro ib4 io4 hc4
   refine Wl_loadc Tryz.isAgg5 rfl hc4 ?_
   refine Wl_v (r_cvt Tryz.underlying5 Tryz.underlying3 rfl (wi64 (by omega) (by omega))) ?_
   refine Wl_idxr (0, 0) encC_len (by decide) Tryz.underlying92 Tryz.sizeOf106 rfl rfl hO2.sl (by omega) (by omega) ?_
   intro ib5 io5 hc5
   refine Wl_v (r_loada (cs := [.int .i64 (((cds l).getD (b.getD (((m : Nat) : Int) - 1 - ((j : Nat) : Int)).toNat 0).toNat (0, 0)).1), .int .u32 (((cds l).getD (b.getD (((m : Nat) : Int) - 1 - ((j : Nat) : Int)).toNat 0).toNat (0, 0)).2)]) Tryz.isAgg106 Tryz.sizeOf106 rfl rfl hc5) ?_
   refine Wl_alloc (cs := [.int .i64 0, .int .u32 0]) Tryz.zeroValue106 rfl ?_
   intro B6 w6 hB6 hU6 hzz6 hb6
   have hzw6 := hU6.size
   replace hO := hO.upd0 hU6
   replace HL3 := HL3.trans0 hU6
   refine Wl_storea (off := 0) (vs := [.int .i64 (((cds l).getD (b.getD (((m : Nat) : Int) - 1 - ((j : Nat) : Int)).toNat 0).toNat (0, 0)).1), .int .u32 (((cds l).getD (b.getD (((m : Nat) : Int) - 1 - ((j : Nat) : Int)).toNat 0).toNat (0, 0)).2)]) (cs' := [.int .i64 (((cds l).getD (b.getD (((m : Nat) : Int) - 1 - ((j : Nat) : Int)).toNat 0).toNat (0, 0)).1), .int .u32 (((cds l).getD (b.getD (((m : Nat) : Int) - 1 - ((j : Nat) : Int)).toNat 0).toNat (0, 0)).2)]) Tryz.sizeOf106 rfl rfl rfl (by simp only [List.mem_cons, List.not_mem_nil, or_false, forall_eq_or_imp, forall_eq]; exact ⟨rfl, rfl⟩) hb6 (by simp) rfl ?_
   intro w7 hU7 hzz7 hb6n
   replace hb6 := hb6n; clear hb6n
   have hzw7 := hU7.size
   replace hO := hO.upd1 hU7 (by intro h1; have h3 : ((w2.heap.size ≤ B6) ∧ B6 < w3.heap.size) := h1; omega)
   replace HL3 := HL3.trans1 hU7 (by show (w2.heap.size ≤ B6) ∨ w2.heap.size ≤ B6; omega)
   refine Wl_nil (W_region ?_)
   refine Wmv (.slice a9 (eL l (b.drop (m - j))) c9) ?_
   refine Wl_v (r_fld Tryz.underlying106 rfl Tryz.sizeOf104 rfl rfl) ?_
   refine Wl_load (v := .int .u32 (((cds l).getD (b.getD (((m : Nat) : Int) - 1 - ((j : Nat) : Int)).toNat 0).toNat (0, 0)).2)) Tryz.isAgg104 rfl hb6 rfl ?_
   refine Wl_v (r_cvt Tryz.underlying104 Tryz.underlying76 rfl (wu64 (by omega) (by omega))) ?_
   rw [show (((cds l).getD (b.getD (((m : Nat) : Int) - 1 - ((j : Nat) : Int)).toNat 0).toNat (0, 0)).2 : Int) = ((x9 : Nat) : Int) from hx9]
   refine Wl_v (r_fld Tryz.underlying106 rfl Tryz.sizeOf3 rfl rfl) ?_
   refine Wl_load (v := .int .i64 (((cds l).getD (b.getD (((m : Nat) : Int) - 1 - ((j : Nat) : Int)).toNat 0).toNat (0, 0)).1)) Tryz.isAgg3 rfl hb6 rfl ?_
   rw [show (((cds l).getD (b.getD (((m : Nat) : Int) - 1 - ((j : Nat) : Int)).toNat 0).toNat (0, 0)).1 : Int) = ((k9 : Nat) : Int) from hk9]
   refine Wl_call (r_call2 rfl Tryz.call76 rfl rfl) (rbits_spec _ ⟨lt64 (by omega) hbl2.1, by omega⟩) ?_
   rintro v w8 ⟨a8, c8, rfl, hO8, hU8⟩
   have hzw8 := hU8.size
   replace hO := hO.upd0 hU8
   replace HL3 := HL3.trans0 hU8
   replace hO8 := hO8.tight
   have hl_hO8 := rlen encB_len (by decide) hO8.sl
   have hc_hO8 := hO8.sl.cap.1
   refine Wl_appendc (cs3 := rows encB ((bl (eV l (b.drop (m - j))) (eL l (b.drop (m - j)))) ++ (bl x9 k9))) (tot := (eL l (b.drop (m - j))) + k9) (by first | rfl | exact (rows_app _ _).symm | simp) Tryz.underlying117 (ti := Tryz.t4) (z := .bool false) (sz := 1) (by' := 1) rfl rfl rfl rfl rfl (by decide) rfl hO rfl hO8.sl (rows_one encB_one _) (by omega) (by simp only [maxLen]; omega) (by omega) ?_
   intro a9 c9 w9 hU9 hzz9 hO9
   clear hO
   have hzw9 := hU9.size
   replace HL3 := HL3.trans hU9 (by intro x hx; have hx2 : ((w2.heap.size ≤ x) ∧ x < w3.heap.size) := hx; show (w2.heap.size ≤ x) ∨ w2.heap.size ≤ x; omega)
   replace hO9 := hO9.tight
   have hl_hO9 := rlen encB_len (by decide) hO9.sl
   have hc_hO9 := hO9.sl.cap.1
   refine Was (.slice a9 ((eL l (b.drop (m - j))) + k9) c9) ?_
   refine Wl_nil (W_region ?_)
   refine Wmv (.int .i64 (((m : Nat) : Int) - 1 - ((j : Nat) : Int))) ?_
   refine Wl_v (r_sub rfl rfl (wi64 (by omega) (by omega))) ?_
   refine Was (.int .i64 ((((m : Nat) : Int) - 1 - ((j : Nat) : Int)) - 1)) ?_
   refine Wl_nil ?_
   refine ⟨_, ?_, (j + 1), a9, c9, rfl, rfl, ⟨rfl, rfl, (Eq.trans (b := .slice a9 ((eL l (b.drop (m - j))) + k9) c9) rfl (by rw [← hes.2])), (Eq.trans (b := .int .i64 ((((m : Nat) : Int) - 1 - ((j : Nat) : Int)) - 1)) rfl (vint (by omega))), trivial⟩, (by omega), (by rw [← hes.1, ← hes.2]; exact (hO9.weak (by intro g hg; have h3 : ((((((w2.heap.size ≤ g) ∧ g < w3.heap.size)) ∨ g = w8.heap.size)) ∧ g < w9.heap.size) := hg; show w2.heap.size ≤ g; omega)).rcong (bl_enc hVd)), HL3⟩
   omega
  ·rw [decide_eq_false q2]
   obtain rfl : m = j := by omega
   rw [Nat.sub_self, List.drop_zero] at hO
   simp only [Nat.sub_self, List.drop_zero]
   have hVd := eV_lt hr hHs
   have hLd := eL_le hr b
   refine W_cond_f rfl ?_
   refine W_exit ?_
   refine W_seq (W_region ?_)
   refine Wmv (.slice a9 (eL l b) c9) ?_
   refine Wl_call (r_call1 rfl Tryz.call77 rfl) (rclose_spec (V := eV l b) (L := eL l b) _ hO.sl.any (by omega) hVd) ?_
   rintro v w10 ⟨a10, c10, rfl, hO10, hU10⟩
   have hzw10 := hU10.size
   replace HU := HU.trans0 hU10
   replace hO10 := hO10.tight
   have hl_hO10 := ilen hO10.sl
   have hc_hO10 := hO10.sl.cap.1
   refine Was (.slice a10 ((eL l b) / 8 + 1) c10) ?_
   refine Was (.int .i64 0) ?_
   refine Wl_nil ?_
   refine W_ret ?_
   refine ret_end (v := .tuple #[.slice a10 ((eL l b) / 8 + 1) c10, .int .i64 0]) rfl (res2 Tryz.results43 rfl rfl) ?_
   have hF : ecF l b = (out l b, 0) := by rw [ecF, if_neg (fun h => h hr), if_neg (fun h => h hHs)]
   exact ⟨_, rfl, a10, (eL l b) / 8 + 1, c10, (vtup2 rfl (vint (by rw [hF]))), (by rw [hF]; exact (hO10.weak (by intro g hg; have h3 : ((w3.heap.size ≤ g) ∧ g < w10.heap.size) := hg; show w.heap.size ≤ g; omega))), HU⟩
end Go.Proofs.YtdppageondgjkaaGreat
