/-
  Walks, printed by a small program of this project (gen.py).
-/
import Derived.Test.YtilegaokfamfnaaZm
set_option linter.unusedVariables false
set_option linter.unusedSimpArgs false
namespace Go.Proofs.Ytilegaokfamfnaa
open Go.Fw

set_option maxHeartbeats 2000000 in
set_option maxRecDepth 100000 in
theorem onehas {a a2 : Option Addr} {n c m d : Nat} {l b : List Int} (w : World) (hs : Sl w (fun g => g < w.heap.size) 1 (.slice a n c) n (ints .i64 l)) (hn : n ≤ 17592186044415) (hsb : Sl w (fun g => g < w.heap.size) 1 (.slice a2 m d) m (ints .u8 b)) (hb : Byt b) (hm : m ≤ 140737488351232) :
    Calls Try.prog 8 #[.slice a n c, .slice a2 m d] w (Ret fun v w' => v = .bool true ∧ Upd No w w') := by
  have HU : Upd (fun b => False) w w := Upd.refl _ _
  have hl_hs := ilen hs
  have hc_hs := hs.cap.1
  have hl_hsb := ilen hsb
  have hc_hsb := hsb.cap.1
  refine calls_of_W Try.func8 rfl Try.ntmps8 (by simp) ?_
  refine W_seq ?_
  refine W_region ?_
  refine Wl_v (r_as (v := .bool false) rfl) ?_
  refine Wl_nil ?_
  refine W_seq ?_
  refine W_seq ?_
  refine W_region ?_
  refine Wl_v (r_mv (v := .slice a n c) rfl) ?_
  refine Wl_v (r_len Try.underlying22 rfl) ?_
  refine Wl_v (r_gt rfl rfl) ?_
  refine Wl_v (r_mv (v := .bool (decide (300 < ((n : Nat) : Int)))) rfl) ?_
  by_cases q1 : 300 < ((n : Nat) : Int)
  · rw [decide_eq_true q1]
    refine Wl_guard_f rfl ?_
    refine Wl_guard_f rfl ?_
    refine Wl_guard_f rfl ?_
    refine Wl_v (r_pick_t (v := .bool true) rfl rfl) ?_
    refine Wl_nil ?_
    refine W_cond_t rfl ?_
    refine W_seq ?_
    refine W_region ?_
    refine Wl_call (r_call0 rfl Try.call11 ) (works17 _ ) ?_
    rintro v w1 ⟨rfl, hU1⟩
    have hzw1 := hU1.size
    replace hs := hs.upd0 hU1
    replace hsb := hsb.upd0 hU1
    replace HU := HU.trans0 hU1
    refine Wl_v (r_as (v := .bool true) rfl) ?_
    refine Wl_nil ?_
    refine W_ret ?_
    refine ret_end (v := .bool true) rfl (res1 Try.results8 rfl) ?_
    exact ⟨_, rfl, rfl, HU⟩
  · rw [decide_eq_false q1]
    refine Wl_guard_t rfl ?_
    refine Wl_v (r_mv (v := .slice a2 m d) rfl) ?_
    refine Wl_guard_t rfl ?_
    refine Wl_v (r_len Try.underlying23 rfl) ?_
    refine Wl_guard_t rfl ?_
    refine Wl_v (r_gt rfl rfl) ?_
    refine Wl_v (r_pick_f (v := .bool (decide (300 < ((m : Nat) : Int)))) rfl rfl) ?_
    refine Wl_nil ?_
    by_cases q2 : 300 < ((m : Nat) : Int)
    · rw [decide_eq_true q2]
      refine W_cond_t rfl ?_
      refine W_seq ?_
      refine W_region ?_
      refine Wl_call (r_call0 rfl Try.call11 ) (works17 _ ) ?_
      rintro v w2 ⟨rfl, hU2⟩
      have hzw2 := hU2.size
      replace hs := hs.upd0 hU2
      replace hsb := hsb.upd0 hU2
      replace HU := HU.trans0 hU2
      refine Wl_v (r_as (v := .bool true) rfl) ?_
      refine Wl_nil ?_
      refine W_ret ?_
      refine ret_end (v := .bool true) rfl (res1 Try.results8 rfl) ?_
      exact ⟨_, rfl, rfl, HU⟩
    · rw [decide_eq_false q2]
      refine W_cond_f rfl ?_
      refine W_skip ?_
      refine W_seq ?_
      refine W_region ?_
      refine Wl_v (r_mv (v := .slice a n c) rfl) ?_
      refine Wl_v (r_mv (v := .slice a2 m d) rfl) ?_
      refine Wl_call (r_call2 rfl Try.call25 rfl rfl) (oen_spec _ hs (by omega) hsb.any hb (by omega)) ?_
      rintro v w3 ⟨rfl, hU3⟩
      have hzw3 := hU3.size
      replace hs := hs.upd0 hU3
      replace hsb := hsb.upd0 hU3
      replace HU := HU.trans0 hU3
      refine Wl_v (r_mv (v := .tuple #[.int .i64 ((enF l b).1), .bool (decide ((enF l b).2 = true))]) rfl) ?_
      refine Wl_v (r_ext (v := .int .i64 ((enF l b).1)) rfl rfl) ?_
      refine Wl_v (r_ext (v := .bool (decide ((enF l b).2 = true))) rfl rfl) ?_
      refine Wl_v (r_as (v := .int .i64 ((enF l b).1)) rfl) ?_
      refine Wl_v (r_as (v := .bool (decide ((enF l b).2 = true))) rfl) ?_
      refine Wl_nil ?_
      refine W_seq ?_
      refine W_seq ?_
      refine W_region ?_
      refine Wl_v (r_mv (v := .slice a n c) rfl) ?_
      refine Wl_call (r_call1 rfl Try.call26 rfl) (rright_spec _ hs (by omega)) ?_
      rintro v w4 ⟨rfl, hU4⟩
      have hzw4 := hU4.size
      replace hs := hs.upd0 hU4
      replace hsb := hsb.upd0 hU4
      replace HU := HU.trans0 hU4
      refine Wl_v (r_not rfl) ?_
      refine Wl_nil ?_
      by_cases q3 : Rt l
      · rw [decide_eq_true q3]
        simp only [Bool.not_true, Bool.not_false]
        refine W_cond_f rfl ?_
        refine W_skip ?_
        refine W_seq ?_
        refine W_region ?_
        refine Wl_v (r_mv (v := .slice a n c) rfl) ?_
        refine Wl_v (r_mv (v := .slice a2 m d) rfl) ?_
        refine Wl_call (r_call2 rfl Try.call27 rfl rfl) (rhas_spec _ hs.any (by omega) hsb.any hb (by omega)) ?_
        rintro v w5 ⟨rfl, hU5⟩
        have hzw5 := hU5.size
        replace hs := hs.upd0 hU5
        replace hsb := hsb.upd0 hU5
        replace HU := HU.trans0 hU5
        refine Wl_v (r_mv (v := .tuple #[.int .i64 ((hsF l b).1), .bool (decide ((hsF l b).2 = true))]) rfl) ?_
        refine Wl_v (r_ext (v := .int .i64 ((hsF l b).1)) rfl rfl) ?_
        refine Wl_v (r_ext (v := .bool (decide ((hsF l b).2 = true))) rfl rfl) ?_
        refine Wl_v (r_as (v := .int .i64 ((hsF l b).1)) rfl) ?_
        refine Wl_v (r_as (v := .bool (decide ((hsF l b).2 = true))) rfl) ?_
        refine Wl_nil ?_
        refine W_seq ?_
        refine W_region ?_
        refine Wl_v (r_mv (v := .int .i64 ((enF l b).1)) rfl) ?_
        refine Wl_v (r_mv (v := .int .i64 ((hsF l b).1)) rfl) ?_
        refine Wl_v (r_eq rfl rfl) ?_
        refine Wl_v (r_mv (v := .bool (decide (((enF l b).1) = ((hsF l b).1)))) rfl) ?_
        have q4 : ((enF l b).1) = ((hsF l b).1) := (by rw [show enF l b = hsF l b from (if_pos q3)])
        rw [decide_eq_true q4]
        refine Wl_guard_t rfl ?_
        refine Wl_v (r_mv (v := .bool (decide ((enF l b).2 = true))) rfl) ?_
        refine Wl_guard_t rfl ?_
        refine Wl_v (r_mv (v := .bool (decide ((hsF l b).2 = true))) rfl) ?_
        refine Wl_guard_t rfl ?_
        by_cases q5 : (enF l b).2 = true
        · rw [decide_eq_true q5]
          have q6 : (hsF l b).2 = true := (by rw [← show enF l b = hsF l b from if_pos q3]; exact q5)
          rw [decide_eq_true q6]
          refine Wl_v (v := .bool true) (r_eqb (a := true) (b := true) Try.underlying4 rfl rfl) ?_
          refine Wl_v (r_pick_t (v := .bool true) rfl rfl) ?_
          refine Wl_v (r_mv (v := .bool true) rfl) ?_
          refine Wl_guard_t rfl ?_
          refine Wl_call (r_call0 rfl Try.call11 ) (works17 _ ) ?_
          rintro v w6 ⟨rfl, hU6⟩
          have hzw6 := hU6.size
          replace hs := hs.upd0 hU6
          replace hsb := hsb.upd0 hU6
          replace HU := HU.trans0 hU6
          refine Wl_v (r_pick_t (v := .bool true) rfl rfl) ?_
          refine Wl_v (r_as (v := .bool true) rfl) ?_
          refine Wl_nil ?_
          refine W_ret ?_
          refine ret_end (v := .bool true) rfl (res1 Try.results8 rfl) ?_
          exact ⟨_, rfl, rfl, HU⟩
        · rw [decide_eq_false q5]
          have q7 : ¬ ((hsF l b).2 = true) := (by rw [← show enF l b = hsF l b from if_pos q3]; exact q5)
          rw [decide_eq_false q7]
          refine Wl_v (v := .bool true) (r_eqb (a := false) (b := false) Try.underlying4 rfl rfl) ?_
          refine Wl_v (r_pick_t (v := .bool true) rfl rfl) ?_
          refine Wl_v (r_mv (v := .bool true) rfl) ?_
          refine Wl_guard_t rfl ?_
          refine Wl_call (r_call0 rfl Try.call11 ) (works17 _ ) ?_
          rintro v w7 ⟨rfl, hU7⟩
          have hzw7 := hU7.size
          replace hs := hs.upd0 hU7
          replace hsb := hsb.upd0 hU7
          replace HU := HU.trans0 hU7
          refine Wl_v (r_pick_t (v := .bool true) rfl rfl) ?_
          refine Wl_v (r_as (v := .bool true) rfl) ?_
          refine Wl_nil ?_
          refine W_ret ?_
          refine ret_end (v := .bool true) rfl (res1 Try.results8 rfl) ?_
          exact ⟨_, rfl, rfl, HU⟩
      · rw [decide_eq_false q3]
        simp only [Bool.not_true, Bool.not_false]
        refine W_cond_t rfl ?_
        refine W_seq ?_
        refine W_region ?_
        refine Wl_v (r_mv (v := .int .i64 ((enF l b).1)) rfl) ?_
        refine Wl_v (r_eq rfl rfl) ?_
        refine Wl_v (r_mv (v := .bool (decide (((enF l b).1) = 0))) rfl) ?_
        have q8 : ((enF l b).1) = 0 := (by rw [show enF l b = (0, false) from (if_neg q3)])
        rw [decide_eq_true q8]
        refine Wl_guard_t rfl ?_
        refine Wl_v (r_mv (v := .bool (decide ((enF l b).2 = true))) rfl) ?_
        refine Wl_guard_t rfl ?_
        refine Wl_v (r_not rfl) ?_
        refine Wl_v (r_pick_t (v := .bool (!decide ((enF l b).2 = true))) rfl rfl) ?_
        refine Wl_v (r_mv (v := .bool (!decide ((enF l b).2 = true))) rfl) ?_
        have q9 : ¬ ((enF l b).2 = true) := (by rw [show enF l b = (0, false) from (if_neg q3)]; simp)
        rw [decide_eq_false q9]
        simp only [Bool.not_true, Bool.not_false]
        refine Wl_guard_t rfl ?_
        refine Wl_call (r_call0 rfl Try.call11 ) (works17 _ ) ?_
        rintro v w8 ⟨rfl, hU8⟩
        have hzw8 := hU8.size
        replace hs := hs.upd0 hU8
        replace hsb := hsb.upd0 hU8
        replace HU := HU.trans0 hU8
        refine Wl_v (r_pick_t (v := .bool true) rfl rfl) ?_
        refine Wl_v (r_as (v := .bool true) rfl) ?_
        refine Wl_nil ?_
        refine W_ret ?_
        refine ret_end (v := .bool true) rfl (res1 Try.results8 rfl) ?_
        exact ⟨_, rfl, rfl, HU⟩

end Go.Proofs.Ytilegaokfamfnaa
