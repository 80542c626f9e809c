/-
  Walks, printed by a small program of this project (gen.py).
-/
import Derived.Test.YtflmjdnhjbiobaaWc
set_option linter.unusedVariables false
set_option linter.unusedSimpArgs false
namespace Go.Proofs.Ytflmjdnhjbiobaa
open Go.Fw

set_option maxRecDepth 100000 in
theorem rgetword_spec {a : Option Addr} {n c p : Nat} {bs : List Int} (w : World) (hs : Sl w (fun g => g < w.heap.size) 1 (.slice a n c) n (ints .u8 bs)) (hb : Byt bs) (hpn : p ≤ n) (hn : n ≤ 140737488355328) :
    Calls Try.prog 51 #[.slice a n c, .int .i64 ((p : Nat) : Int)] w (Ret fun v w' => v = .tuple #[.int .u32 (gword bs p).1, .int .i64 ((gword bs p).2.1 : Nat), .int .i64 (gword bs p).2.2] ∧ Upd No w w') := by
  have HU : Upd (fun b => False) w w := Upd.refl _ _
  have hl := ilen hs
  have hcap := hs.cap.1
  refine calls_of_W Try.func51 rfl Try.ntmps51 (by simp) ?_
  refine W_seq ?_
  refine W_region ?_
  refine Wl_v (r_as (v := .int .u32 0) rfl) ?_
  refine Wl_v (r_as (v := .int .i64 0) rfl) ?_
  refine Wl_v (r_as (v := .int .i64 0) rfl) ?_
  refine Wl_nil ?_
  refine W_seq ?_
  refine W_seq ?_
  refine W_region ?_
  refine Wl_v (r_mv (v := .slice a n c) rfl) ?_
  refine Wl_v (r_len Try.underlying35 rfl) ?_
  refine Wl_v (r_mv (v := .int .i64 ((p : Nat) : Int)) rfl) ?_
  refine Wl_v (r_sub rfl rfl (wi64 (by omega) (by omega))) ?_
  refine Wl_v (r_lt rfl rfl) ?_
  refine Wl_nil ?_
  by_cases q1 : (((n : Nat) : Int) - ((p : Nat) : Int)) < 4
  · rw [decide_eq_true q1]
    refine W_cond_t rfl ?_
    refine W_seq ?_
    refine W_region ?_
    refine Wl_v (r_mv (v := .int .i64 ((p : Nat) : Int)) rfl) ?_
    refine Wl_v (r_as (v := .int .u32 0) rfl) ?_
    refine Wl_v (r_as (v := .int .i64 ((p : Nat) : Int)) rfl) ?_
    refine Wl_v (r_as (v := .int .i64 3) rfl) ?_
    refine Wl_nil ?_
    refine W_ret ?_
    refine ret_end (v := .tuple #[.int .u32 0, .int .i64 ((p : Nat) : Int), .int .i64 3]) rfl (res3 Try.results51 rfl rfl rfl) ?_
    exact ⟨_, rfl, by simp [gword, show bs.length < p + 4 from by omega], HU⟩
  · rw [decide_eq_false q1]
    refine W_cond_f rfl ?_
    refine W_skip ?_
    refine W_seq ?_
    refine W_region ?_
    refine Wl_v (r_as (v := .int .u32 0) rfl) ?_
    refine Wl_nil ?_
    refine W_seq ?_
    refine W_seq ?_
    refine W_region ?_
    refine Wl_v (r_as (v := .int .i64 3) rfl) ?_
    refine Wl_nil ?_
    refine W_block ?_
    refine W_loop (fun mu ρ ds w' => ∃ (j : Nat), j = mu ∧ ds = [] ∧ Liv ρ [(0, .slice a n c), (1, .int .i64 ((p : Nat) : Int)), (4, .int .u32 0), (5, .int .i64 0), (6, .int .i64 0), (7, .int .u32 (wval (((bs.drop p).take 4).drop j))), (8, .int .i64 (((j : Nat) : Int) - 1))] ∧ j ≤ 4 ∧ Upd No w w') _ ⟨4, rfl, rfl, ⟨rfl, rfl, rfl, rfl, rfl, (Eq.trans (b := .int .u32 0) rfl (vint wval_end.symm)), (Eq.trans (b := .int .i64 3) rfl (vint (by omega))), trivial⟩, (by omega), Upd.refl _ _⟩ ?_
    rintro m1 ρ1 ds1 w1 ⟨j, rfl, rfl, hl1, hj4, hU1⟩
    obtain ⟨ρ1x, rfl⟩ : ∃ ρx, ρ1 = upds ρx [(0, .slice a n c), (1, .int .i64 ((p : Nat) : Int)), (4, .int .u32 0), (5, .int .i64 0), (6, .int .i64 0), (7, .int .u32 (wval (((bs.drop p).take 4).drop j))), (8, .int .i64 (((j : Nat) : Int) - 1))] := ⟨_, upds_self hl1⟩
    clear hl1
    have hzw1 := hU1.size
    replace hs := hs.upd0 hU1
    replace HU := HU.trans0 hU1
    have HL1 := hU1
    refine W_seq ?_
    refine W_seq ?_
    refine W_region ?_
    refine Wl_v (r_mv (v := .int .i64 (((j : Nat) : Int) - 1)) rfl) ?_
    refine Wl_v (r_ge rfl rfl) ?_
    refine Wl_nil ?_
    by_cases q2 : 0 ≤ (((j : Nat) : Int) - 1)
    · have hv := wval_next hb (p := p) (j := j) (by omega) (by omega) hj4
      have hx := byt_gd hb (p + (j - 1))
      rw [decide_eq_true q2]
      refine W_cond_t rfl ?_
      refine W_skip ?_
      refine W_seq ?_
      refine W_block ?_
      refine W_region ?_
      refine Wl_v (r_mv (v := .int .u32 (wval (((bs.drop p).take 4).drop j))) rfl) ?_
      refine Wl_v (r_mul rfl rfl (wu32 (by omega) (by omega))) ?_
      refine Wl_v (r_mv (v := .slice a n c) rfl) ?_
      refine Wl_v (r_mv (v := .int .i64 ((p : Nat) : Int)) rfl) ?_
      refine Wl_v (r_mv (v := .int .i64 (((j : Nat) : Int) - 1)) rfl) ?_
      refine Wl_v (r_add rfl rfl (wi64 (by omega) (by omega))) ?_
      refine Wl_idxi Try.underlying35 Try.sizeOf5 rfl rfl hs (by omega) (by omega) ?_
      intro ib2 io2 hc2
      rw [show (((p : Nat) : Int) + (((j : Nat) : Int) - 1)).toNat = p + (j - 1) from by omega] at hc2
      refine Wl_loadc Try.isAgg5 rfl hc2 ?_
      refine Wl_v (r_cvt Try.underlying5 Try.underlying32 rfl (wu32 (by omega) (by omega))) ?_
      refine Wl_v (r_add rfl rfl (wu32 (by omega) (by omega))) ?_
      refine Wl_v (r_as (v := .int .u32 ((256 * (wval (((bs.drop p).take 4).drop j))) + (bs.getD (p + (j - 1)) 0))) rfl) ?_
      refine Wl_nil ?_
      refine W_region ?_
      refine Wl_v (r_mv (v := .int .i64 (((j : Nat) : Int) - 1)) rfl) ?_
      refine Wl_v (r_sub rfl rfl (wi64 (by omega) (by omega))) ?_
      refine Wl_v (r_as (v := .int .i64 ((((j : Nat) : Int) - 1) - 1)) rfl) ?_
      refine Wl_nil ?_
      refine ⟨_, ?_, (j - 1), rfl, rfl, ⟨rfl, rfl, rfl, rfl, rfl, (Eq.trans (b := .int .u32 ((256 * (wval (((bs.drop p).take 4).drop j))) + (bs.getD (p + (j - 1)) 0))) rfl (vint (by omega))), (Eq.trans (b := .int .i64 ((((j : Nat) : Int) - 1) - 1)) rfl (vint (by omega))), trivial⟩, (by omega), HL1⟩
      omega
    · rw [decide_eq_false q2]
      refine W_cond_f rfl ?_
      refine W_exit ?_
      refine W_seq ?_
      refine W_region ?_
      refine Wl_v (r_mv (v := .int .u32 (wval (((bs.drop p).take 4).drop j))) rfl) ?_
      refine Wl_v (r_mv (v := .int .i64 ((p : Nat) : Int)) rfl) ?_
      refine Wl_v (r_add rfl rfl (wi64 (by omega) (by omega))) ?_
      refine Wl_v (r_as (v := .int .u32 (wval (((bs.drop p).take 4).drop j))) rfl) ?_
      refine Wl_v (r_as (v := .int .i64 (((p : Nat) : Int) + 4)) rfl) ?_
      refine Wl_v (r_as (v := .int .i64 0) rfl) ?_
      refine Wl_nil ?_
      refine W_ret ?_
      refine ret_end (v := .tuple #[.int .u32 (wval (((bs.drop p).take 4).drop j)), .int .i64 (((p : Nat) : Int) + 4), .int .i64 0]) rfl (res3 Try.results51 rfl rfl rfl) ?_
      have hj0 : j = 0 := by omega
      subst hj0
      exact ⟨_, rfl, by simp [gword, show ¬ bs.length < p + 4 from by omega], HU⟩

set_option maxRecDepth 100000 in
theorem rget_spec {a : Option Addr} {n c p : Nat} {bs : List Int} (w : World) (hs : Sl w (fun g => g < w.heap.size) 1 (.slice a n c) n (ints .u8 bs)) (hb : Byt bs) (hpn : p ≤ n) (hn : n ≤ 140737488355328) :
    Calls Try.prog 52 #[.slice a n c, .int .i64 ((p : Nat) : Int)] w (Ret fun v w' => v = .tuple #[.int .u64 (gvar bs p).1, .int .i64 ((gvar bs p).2.1 : Nat), .int .i64 (gvar bs p).2.2] ∧ Upd No w w') := by
  have HU : Upd (fun b => False) w w := Upd.refl _ _
  have hl := ilen hs
  have hcap := hs.cap.1
  refine calls_of_W Try.func52 rfl Try.ntmps52 (by simp) ?_
  refine W_seq ?_
  refine W_region ?_
  refine Wl_v (r_as (v := .int .u64 0) rfl) ?_
  refine Wl_v (r_as (v := .int .i64 0) rfl) ?_
  refine Wl_v (r_as (v := .int .i64 0) rfl) ?_
  refine Wl_nil ?_
  refine W_seq ?_
  refine W_region ?_
  refine Wl_v (r_as (v := .int .i64 0) rfl) ?_
  refine Wl_nil ?_
  refine W_seq ?_
  refine W_block ?_
  refine W_loop (fun mu ρ ds w' => ∃ (k : Nat), 9 - k = mu ∧ ds = [] ∧ Liv ρ [(0, .slice a n c), (1, .int .i64 ((p : Nat) : Int)), (4, .int .u64 0), (5, .int .i64 0), (6, .int .i64 0), (7, .int .i64 ((k : Nat) : Int))] ∧ k ≤ 9 ∧ p + k ≤ n ∧ (∀ i, i < k → 128 ≤ bs.getD (p + i) 0) ∧ Upd No w w') _ ⟨0, rfl, rfl, ⟨rfl, rfl, rfl, rfl, rfl, (by first | rfl | exact vint (by omega) | exact vint (by simp)), trivial⟩, (by omega), (by omega), (fun i hi => absurd hi (by omega)), Upd.refl _ _⟩ ?_
  rintro m1 ρ1 ds1 w1 ⟨k, rfl, rfl, hl1, hk9, hpk, hall, hU1⟩
  obtain ⟨ρ1x, rfl⟩ : ∃ ρx, ρ1 = upds ρx [(0, .slice a n c), (1, .int .i64 ((p : Nat) : Int)), (4, .int .u64 0), (5, .int .i64 0), (6, .int .i64 0), (7, .int .i64 ((k : Nat) : Int))] := ⟨_, upds_self hl1⟩
  clear hl1
  have hzw1 := hU1.size
  replace hs := hs.upd0 hU1
  replace HU := HU.trans0 hU1
  have HL1 := hU1
  refine W_seq ?_
  refine W_seq ?_
  refine W_region ?_
  refine Wl_v (r_mv (v := .int .i64 ((k : Nat) : Int)) rfl) ?_
  refine Wl_v (r_lt rfl rfl) ?_
  refine Wl_v (r_mv (v := .bool (decide (((k : Nat) : Int) < 9))) rfl) ?_
  by_cases q1 : ((k : Nat) : Int) < 9
  · rw [decide_eq_true q1]
    refine Wl_guard_t rfl ?_
    refine Wl_v (r_mv (v := .int .i64 ((p : Nat) : Int)) rfl) ?_
    refine Wl_guard_t rfl ?_
    refine Wl_v (r_mv (v := .int .i64 ((k : Nat) : Int)) rfl) ?_
    refine Wl_guard_t rfl ?_
    refine Wl_v (r_add rfl rfl (wi64 (by omega) (by omega))) ?_
    refine Wl_guard_t rfl ?_
    refine Wl_v (r_mv (v := .slice a n c) rfl) ?_
    refine Wl_guard_t rfl ?_
    refine Wl_v (r_len Try.underlying35 rfl) ?_
    refine Wl_guard_t rfl ?_
    refine Wl_v (r_lt rfl rfl) ?_
    refine Wl_v (r_pick_t (v := .bool (decide ((((p : Nat) : Int) + ((k : Nat) : Int)) < ((n : Nat) : Int)))) rfl rfl) ?_
    refine Wl_v (r_mv (v := .bool (decide ((((p : Nat) : Int) + ((k : Nat) : Int)) < ((n : Nat) : Int)))) rfl) ?_
    by_cases q2 : (((p : Nat) : Int) + ((k : Nat) : Int)) < ((n : Nat) : Int)
    · rw [decide_eq_true q2]
      refine Wl_guard_t rfl ?_
      refine Wl_v (r_mv (v := .slice a n c) rfl) ?_
      refine Wl_guard_t rfl ?_
      refine Wl_v (r_mv (v := .int .i64 ((p : Nat) : Int)) rfl) ?_
      refine Wl_guard_t rfl ?_
      refine Wl_v (r_mv (v := .int .i64 ((k : Nat) : Int)) rfl) ?_
      refine Wl_guard_t rfl ?_
      refine Wl_v (r_add rfl rfl (wi64 (by omega) (by omega))) ?_
      refine Wl_guard_t rfl ?_
      refine Wl_idxi Try.underlying35 Try.sizeOf5 rfl rfl hs (by omega) (by omega) ?_
      intro ib2 io2 hc2
      rw [show (((p : Nat) : Int) + ((k : Nat) : Int)).toNat = p + k from by omega] at hc2
      have hc2x := byt_gd hb (p + k)
      refine Wl_guard_t rfl ?_
      refine Wl_loadc Try.isAgg5 rfl hc2 ?_
      refine Wl_guard_t rfl ?_
      refine Wl_v (r_ge rfl rfl) ?_
      refine Wl_v (r_pick_t (v := .bool (decide (128 ≤ (bs.getD (p + k) 0)))) rfl rfl) ?_
      refine Wl_nil ?_
      by_cases q3 : 128 ≤ (bs.getD (p + k) 0)
      · rw [decide_eq_true q3]
        refine W_cond_t rfl ?_
        refine W_skip ?_
        refine W_block ?_
        refine W_region ?_
        refine Wl_v (r_mv (v := .int .i64 ((k : Nat) : Int)) rfl) ?_
        refine Wl_v (r_add rfl rfl (wi64 (by omega) (by omega))) ?_
        refine Wl_v (r_as (v := .int .i64 (((k : Nat) : Int) + 1)) rfl) ?_
        refine Wl_nil ?_
        refine ⟨_, ?_, (k + 1), rfl, rfl, ⟨rfl, rfl, rfl, rfl, rfl, (by first | rfl | exact vint (by omega) | exact vint (by simp)), trivial⟩, (by omega), (by omega), (fun i hi => by rcases Nat.lt_or_ge i k with h | h; exact hall i h; rw [show i = k from by omega]; exact q3), HL1⟩
        omega
      · rw [decide_eq_false q3]
        refine W_cond_f rfl ?_
        refine W_exit ?_
        refine W_seq ?_
        refine W_seq ?_
        refine W_region ?_
        refine Wl_v (r_mv (v := .int .i64 ((k : Nat) : Int)) rfl) ?_
        refine Wl_v (r_eq rfl rfl) ?_
        refine Wl_nil ?_
        have q4 : ¬ (((k : Nat) : Int) = 9) := (by omega)
        rw [decide_eq_false q4]
        refine W_cond_f rfl ?_
        refine W_skip ?_
        refine W_seq ?_
        refine W_seq ?_
        refine W_region ?_
        refine Wl_v (r_mv (v := .int .i64 ((p : Nat) : Int)) rfl) ?_
        refine Wl_v (r_mv (v := .int .i64 ((k : Nat) : Int)) rfl) ?_
        refine Wl_v (r_add rfl rfl (wi64 (by omega) (by omega))) ?_
        refine Wl_v (r_mv (v := .slice a n c) rfl) ?_
        refine Wl_v (r_len Try.underlying35 rfl) ?_
        refine Wl_v (r_ge rfl rfl) ?_
        refine Wl_nil ?_
        have q5 : ¬ (((n : Nat) : Int) ≤ (((p : Nat) : Int) + ((k : Nat) : Int))) := (by omega)
        rw [decide_eq_false q5]
        refine W_cond_f rfl ?_
        refine W_skip ?_
        refine W_seq ?_
        refine W_seq ?_
        refine W_region ?_
        refine Wl_v (r_mv (v := .int .i64 ((k : Nat) : Int)) rfl) ?_
        refine Wl_v (r_gt rfl rfl) ?_
        refine Wl_v (r_mv (v := .bool (decide (0 < ((k : Nat) : Int)))) rfl) ?_
        by_cases q6 : 0 < ((k : Nat) : Int)
        · rw [decide_eq_true q6]
          refine Wl_guard_t rfl ?_
          refine Wl_v (r_mv (v := .slice a n c) rfl) ?_
          refine Wl_guard_t rfl ?_
          refine Wl_v (r_mv (v := .int .i64 ((p : Nat) : Int)) rfl) ?_
          refine Wl_guard_t rfl ?_
          refine Wl_v (r_mv (v := .int .i64 ((k : Nat) : Int)) rfl) ?_
          refine Wl_guard_t rfl ?_
          refine Wl_v (r_add rfl rfl (wi64 (by omega) (by omega))) ?_
          refine Wl_guard_t rfl ?_
          refine Wl_idxi Try.underlying35 Try.sizeOf5 rfl rfl hs (by omega) (by omega) ?_
          intro ib3 io3 hc3
          rw [show (((p : Nat) : Int) + ((k : Nat) : Int)).toNat = p + k from by omega] at hc3
          have hc3x := byt_gd hb (p + k)
          refine Wl_guard_t rfl ?_
          refine Wl_loadc Try.isAgg5 rfl hc3 ?_
          refine Wl_guard_t rfl ?_
          refine Wl_v (r_eq rfl rfl) ?_
          refine Wl_v (r_pick_t (v := .bool (decide ((bs.getD (p + k) 0) = 0))) rfl rfl) ?_
          refine Wl_nil ?_
          by_cases q7 : (bs.getD (p + k) 0) = 0
          · have hg := gvar_min (p := p) (k := k) (by omega) (by omega) hall (by omega) q7
            rw [decide_eq_true q7]
            refine W_cond_t rfl ?_
            refine W_seq ?_
            refine W_region ?_
            refine Wl_v (r_mv (v := .int .i64 ((p : Nat) : Int)) rfl) ?_
            refine Wl_v (r_as (v := .int .u64 0) rfl) ?_
            refine Wl_v (r_as (v := .int .i64 ((p : Nat) : Int)) rfl) ?_
            refine Wl_v (r_as (v := .int .i64 5) rfl) ?_
            refine Wl_nil ?_
            refine W_ret ?_
            refine ret_end (v := .tuple #[.int .u64 0, .int .i64 ((p : Nat) : Int), .int .i64 5]) rfl (res3 Try.results52 rfl rfl rfl) ?_
            rw [hg]
            exact ⟨_, rfl, rfl, HU⟩
          · have hg := gvar_else (p := p) (k := k) (by omega) (by omega) hall (by omega) (by omega)
            rw [decide_eq_false q7]
            refine W_cond_f rfl ?_
            refine W_skip ?_
            refine W_seq ?_
            refine W_region ?_
            refine Wl_v (r_as (v := .int .u64 0) rfl) ?_
            refine Wl_nil ?_
            refine W_seq ?_
            refine W_seq ?_
            refine W_region ?_
            refine Wl_v (r_mv (v := .int .i64 ((k : Nat) : Int)) rfl) ?_
            refine Wl_v (r_as (v := .int .i64 ((k : Nat) : Int)) rfl) ?_
            refine Wl_nil ?_
            refine W_block ?_
            refine W_loop (fun mu ρ ds w' => ∃ (j : Nat), j = mu ∧ ds = [] ∧ Liv ρ [(0, .slice a n c), (1, .int .i64 ((p : Nat) : Int)), (4, .int .u64 0), (5, .int .i64 0), (6, .int .i64 0), (7, .int .i64 ((k : Nat) : Int)), (8, .int .u64 (val (((bs.drop p).take (k + 1)).drop j))), (9, .int .i64 (((j : Nat) : Int) - 1))] ∧ j ≤ k + 1 ∧ Upd No w1 w') _ ⟨(k + 1), rfl, rfl, ⟨rfl, rfl, rfl, rfl, rfl, rfl, (Eq.trans (b := .int .u64 0) rfl (vint val_end.symm)), (Eq.trans (b := .int .i64 ((k : Nat) : Int)) rfl (vint (by omega))), trivial⟩, (by omega), Upd.refl _ _⟩ ?_
            rintro m4 ρ4 ds4 w4 ⟨j, rfl, rfl, hl4, hj, hU4⟩
            obtain ⟨ρ4x, rfl⟩ : ∃ ρx, ρ4 = upds ρx [(0, .slice a n c), (1, .int .i64 ((p : Nat) : Int)), (4, .int .u64 0), (5, .int .i64 0), (6, .int .i64 0), (7, .int .i64 ((k : Nat) : Int)), (8, .int .u64 (val (((bs.drop p).take (k + 1)).drop j))), (9, .int .i64 (((j : Nat) : Int) - 1))] := ⟨_, upds_self hl4⟩
            clear hl4
            have hzw4 := hU4.size
            replace hs := hs.upd0 hU4
            replace HU := HU.trans0 hU4
            replace HL1 := HL1.trans0 hU4
            have HL4 := hU4
            refine W_seq ?_
            refine W_seq ?_
            refine W_region ?_
            refine Wl_v (r_mv (v := .int .i64 (((j : Nat) : Int) - 1)) rfl) ?_
            refine Wl_v (r_ge rfl rfl) ?_
            refine Wl_nil ?_
            by_cases q8 : 0 ≤ (((j : Nat) : Int) - 1)
            · have hv := val_next (bs := bs) (p := p) (k := k) (j := j) (by omega) (by omega) hj (by omega)
              rw [decide_eq_true q8]
              refine W_cond_t rfl ?_
              refine W_skip ?_
              refine W_seq ?_
              refine W_block ?_
              refine W_region ?_
              refine Wl_v (r_mv (v := .int .u64 (val (((bs.drop p).take (k + 1)).drop j))) rfl) ?_
              refine Wl_v (r_mul rfl rfl (wu64 (by omega) (by omega))) ?_
              refine Wl_v (r_mv (v := .slice a n c) rfl) ?_
              refine Wl_v (r_mv (v := .int .i64 ((p : Nat) : Int)) rfl) ?_
              refine Wl_v (r_mv (v := .int .i64 (((j : Nat) : Int) - 1)) rfl) ?_
              refine Wl_v (r_add rfl rfl (wi64 (by omega) (by omega))) ?_
              refine Wl_idxi Try.underlying35 Try.sizeOf5 rfl rfl hs (by omega) (by omega) ?_
              intro ib5 io5 hc5
              rw [show (((p : Nat) : Int) + (((j : Nat) : Int) - 1)).toNat = p + (j - 1) from by omega] at hc5
              have hc5x := byt_gd hb (p + (j - 1))
              refine Wl_loadc Try.isAgg5 rfl hc5 ?_
              refine Wl_v (r_rem rfl rfl (by omega) (tr (by omega))) ?_
              refine Wl_v (r_cvt Try.underlying5 Try.underlying68 rfl (wu64 (by omega) (by omega))) ?_
              refine Wl_v (r_add rfl rfl (wu64 (by omega) (by omega))) ?_
              refine Wl_v (r_as (v := .int .u64 ((128 * (val (((bs.drop p).take (k + 1)).drop j))) + ((bs.getD (p + (j - 1)) 0) % 128))) rfl) ?_
              refine Wl_nil ?_
              refine W_region ?_
              refine Wl_v (r_mv (v := .int .i64 (((j : Nat) : Int) - 1)) rfl) ?_
              refine Wl_v (r_sub rfl rfl (wi64 (by omega) (by omega))) ?_
              refine Wl_v (r_as (v := .int .i64 ((((j : Nat) : Int) - 1) - 1)) rfl) ?_
              refine Wl_nil ?_
              refine ⟨_, ?_, (j - 1), rfl, rfl, ⟨rfl, rfl, rfl, rfl, rfl, rfl, (Eq.trans (b := .int .u64 ((128 * (val (((bs.drop p).take (k + 1)).drop j))) + ((bs.getD (p + (j - 1)) 0) % 128))) rfl (vint (by omega))), (Eq.trans (b := .int .i64 ((((j : Nat) : Int) - 1) - 1)) rfl (vint (by omega))), trivial⟩, (by omega), HL4⟩
              omega
            · rw [decide_eq_false q8]
              have hj0 : j = 0 := by omega
              rw [hj0, List.drop_zero]
              refine W_cond_f rfl ?_
              refine W_exit ?_
              refine W_seq ?_
              refine W_seq ?_
              refine W_region ?_
              refine Wl_v (r_mv (v := .int .u64 (val ((bs.drop p).take (k + 1)))) rfl) ?_
              refine Wl_v (r_gt rfl rfl) ?_
              refine Wl_nil ?_
              by_cases q9 : 4611686018427387903 < (val ((bs.drop p).take (k + 1)))
              · rw [decide_eq_true q9]
                refine W_cond_t rfl ?_
                refine W_seq ?_
                refine W_region ?_
                refine Wl_v (r_mv (v := .int .i64 ((p : Nat) : Int)) rfl) ?_
                refine Wl_v (r_as (v := .int .u64 0) rfl) ?_
                refine Wl_v (r_as (v := .int .i64 ((p : Nat) : Int)) rfl) ?_
                refine Wl_v (r_as (v := .int .i64 18) rfl) ?_
                refine Wl_nil ?_
                refine W_ret ?_
                refine ret_end (v := .tuple #[.int .u64 0, .int .i64 ((p : Nat) : Int), .int .i64 18]) rfl (res3 Try.results52 rfl rfl rfl) ?_
                rw [hg]
                rw [if_pos q9]
                exact ⟨_, rfl, rfl, HU⟩
              · rw [decide_eq_false q9]
                refine W_cond_f rfl ?_
                refine W_skip ?_
                refine W_seq ?_
                refine W_region ?_
                refine Wl_v (r_mv (v := .int .u64 (val ((bs.drop p).take (k + 1)))) rfl) ?_
                refine Wl_v (r_mv (v := .int .i64 ((p : Nat) : Int)) rfl) ?_
                refine Wl_v (r_mv (v := .int .i64 ((k : Nat) : Int)) rfl) ?_
                refine Wl_v (r_add rfl rfl (wi64 (by omega) (by omega))) ?_
                refine Wl_v (r_add rfl rfl (wi64 (by omega) (by omega))) ?_
                refine Wl_v (r_as (v := .int .u64 (val ((bs.drop p).take (k + 1)))) rfl) ?_
                refine Wl_v (r_as (v := .int .i64 ((((p : Nat) : Int) + ((k : Nat) : Int)) + 1)) rfl) ?_
                refine Wl_v (r_as (v := .int .i64 0) rfl) ?_
                refine Wl_nil ?_
                refine W_ret ?_
                refine ret_end (v := .tuple #[.int .u64 (val ((bs.drop p).take (k + 1))), .int .i64 ((((p : Nat) : Int) + ((k : Nat) : Int)) + 1), .int .i64 0]) rfl (res3 Try.results52 rfl rfl rfl) ?_
                rw [hg]
                rw [if_neg q9]
                exact ⟨_, rfl, rfl, HU⟩
        · have hg := gvar_else (p := p) (k := k) (by omega) (by omega) hall (by omega) (by omega)
          rw [decide_eq_false q6]
          refine Wl_guard_f rfl ?_
          refine Wl_guard_f rfl ?_
          refine Wl_guard_f rfl ?_
          refine Wl_guard_f rfl ?_
          refine Wl_guard_f rfl ?_
          refine Wl_guard_f rfl ?_
          refine Wl_guard_f rfl ?_
          refine Wl_v (r_pick_f (v := .bool false) rfl rfl) ?_
          refine Wl_nil ?_
          refine W_cond_f rfl ?_
          refine W_skip ?_
          refine W_seq ?_
          refine W_region ?_
          refine Wl_v (r_as (v := .int .u64 0) rfl) ?_
          refine Wl_nil ?_
          refine W_seq ?_
          refine W_seq ?_
          refine W_region ?_
          refine Wl_v (r_mv (v := .int .i64 ((k : Nat) : Int)) rfl) ?_
          refine Wl_v (r_as (v := .int .i64 ((k : Nat) : Int)) rfl) ?_
          refine Wl_nil ?_
          refine W_block ?_
          refine W_loop (fun mu ρ ds w' => ∃ (j : Nat), j = mu ∧ ds = [] ∧ Liv ρ [(0, .slice a n c), (1, .int .i64 ((p : Nat) : Int)), (4, .int .u64 0), (5, .int .i64 0), (6, .int .i64 0), (7, .int .i64 ((k : Nat) : Int)), (8, .int .u64 (val (((bs.drop p).take (k + 1)).drop j))), (9, .int .i64 (((j : Nat) : Int) - 1))] ∧ j ≤ k + 1 ∧ Upd No w1 w') _ ⟨(k + 1), rfl, rfl, ⟨rfl, rfl, rfl, rfl, rfl, rfl, (Eq.trans (b := .int .u64 0) rfl (vint val_end.symm)), (Eq.trans (b := .int .i64 ((k : Nat) : Int)) rfl (vint (by omega))), trivial⟩, (by omega), Upd.refl _ _⟩ ?_
          rintro m6 ρ6 ds6 w6 ⟨j, rfl, rfl, hl6, hj, hU6⟩
          obtain ⟨ρ6x, rfl⟩ : ∃ ρx, ρ6 = upds ρx [(0, .slice a n c), (1, .int .i64 ((p : Nat) : Int)), (4, .int .u64 0), (5, .int .i64 0), (6, .int .i64 0), (7, .int .i64 ((k : Nat) : Int)), (8, .int .u64 (val (((bs.drop p).take (k + 1)).drop j))), (9, .int .i64 (((j : Nat) : Int) - 1))] := ⟨_, upds_self hl6⟩
          clear hl6
          have hzw6 := hU6.size
          replace hs := hs.upd0 hU6
          replace HU := HU.trans0 hU6
          replace HL1 := HL1.trans0 hU6
          have HL6 := hU6
          refine W_seq ?_
          refine W_seq ?_
          refine W_region ?_
          refine Wl_v (r_mv (v := .int .i64 (((j : Nat) : Int) - 1)) rfl) ?_
          refine Wl_v (r_ge rfl rfl) ?_
          refine Wl_nil ?_
          by_cases q10 : 0 ≤ (((j : Nat) : Int) - 1)
          · have hv := val_next (bs := bs) (p := p) (k := k) (j := j) (by omega) (by omega) hj (by omega)
            rw [decide_eq_true q10]
            refine W_cond_t rfl ?_
            refine W_skip ?_
            refine W_seq ?_
            refine W_block ?_
            refine W_region ?_
            refine Wl_v (r_mv (v := .int .u64 (val (((bs.drop p).take (k + 1)).drop j))) rfl) ?_
            refine Wl_v (r_mul rfl rfl (wu64 (by omega) (by omega))) ?_
            refine Wl_v (r_mv (v := .slice a n c) rfl) ?_
            refine Wl_v (r_mv (v := .int .i64 ((p : Nat) : Int)) rfl) ?_
            refine Wl_v (r_mv (v := .int .i64 (((j : Nat) : Int) - 1)) rfl) ?_
            refine Wl_v (r_add rfl rfl (wi64 (by omega) (by omega))) ?_
            refine Wl_idxi Try.underlying35 Try.sizeOf5 rfl rfl hs (by omega) (by omega) ?_
            intro ib7 io7 hc7
            rw [show (((p : Nat) : Int) + (((j : Nat) : Int) - 1)).toNat = p + (j - 1) from by omega] at hc7
            have hc7x := byt_gd hb (p + (j - 1))
            refine Wl_loadc Try.isAgg5 rfl hc7 ?_
            refine Wl_v (r_rem rfl rfl (by omega) (tr (by omega))) ?_
            refine Wl_v (r_cvt Try.underlying5 Try.underlying68 rfl (wu64 (by omega) (by omega))) ?_
            refine Wl_v (r_add rfl rfl (wu64 (by omega) (by omega))) ?_
            refine Wl_v (r_as (v := .int .u64 ((128 * (val (((bs.drop p).take (k + 1)).drop j))) + ((bs.getD (p + (j - 1)) 0) % 128))) rfl) ?_
            refine Wl_nil ?_
            refine W_region ?_
            refine Wl_v (r_mv (v := .int .i64 (((j : Nat) : Int) - 1)) rfl) ?_
            refine Wl_v (r_sub rfl rfl (wi64 (by omega) (by omega))) ?_
            refine Wl_v (r_as (v := .int .i64 ((((j : Nat) : Int) - 1) - 1)) rfl) ?_
            refine Wl_nil ?_
            refine ⟨_, ?_, (j - 1), rfl, rfl, ⟨rfl, rfl, rfl, rfl, rfl, rfl, (Eq.trans (b := .int .u64 ((128 * (val (((bs.drop p).take (k + 1)).drop j))) + ((bs.getD (p + (j - 1)) 0) % 128))) rfl (vint (by omega))), (Eq.trans (b := .int .i64 ((((j : Nat) : Int) - 1) - 1)) rfl (vint (by omega))), trivial⟩, (by omega), HL6⟩
            omega
          · rw [decide_eq_false q10]
            have hj0 : j = 0 := by omega
            rw [hj0, List.drop_zero]
            refine W_cond_f rfl ?_
            refine W_exit ?_
            refine W_seq ?_
            refine W_seq ?_
            refine W_region ?_
            refine Wl_v (r_mv (v := .int .u64 (val ((bs.drop p).take (k + 1)))) rfl) ?_
            refine Wl_v (r_gt rfl rfl) ?_
            refine Wl_nil ?_
            by_cases q11 : 4611686018427387903 < (val ((bs.drop p).take (k + 1)))
            · rw [decide_eq_true q11]
              refine W_cond_t rfl ?_
              refine W_seq ?_
              refine W_region ?_
              refine Wl_v (r_mv (v := .int .i64 ((p : Nat) : Int)) rfl) ?_
              refine Wl_v (r_as (v := .int .u64 0) rfl) ?_
              refine Wl_v (r_as (v := .int .i64 ((p : Nat) : Int)) rfl) ?_
              refine Wl_v (r_as (v := .int .i64 18) rfl) ?_
              refine Wl_nil ?_
              refine W_ret ?_
              refine ret_end (v := .tuple #[.int .u64 0, .int .i64 ((p : Nat) : Int), .int .i64 18]) rfl (res3 Try.results52 rfl rfl rfl) ?_
              rw [hg]
              rw [if_pos q11]
              exact ⟨_, rfl, rfl, HU⟩
            · rw [decide_eq_false q11]
              refine W_cond_f rfl ?_
              refine W_skip ?_
              refine W_seq ?_
              refine W_region ?_
              refine Wl_v (r_mv (v := .int .u64 (val ((bs.drop p).take (k + 1)))) rfl) ?_
              refine Wl_v (r_mv (v := .int .i64 ((p : Nat) : Int)) rfl) ?_
              refine Wl_v (r_mv (v := .int .i64 ((k : Nat) : Int)) rfl) ?_
              refine Wl_v (r_add rfl rfl (wi64 (by omega) (by omega))) ?_
              refine Wl_v (r_add rfl rfl (wi64 (by omega) (by omega))) ?_
              refine Wl_v (r_as (v := .int .u64 (val ((bs.drop p).take (k + 1)))) rfl) ?_
              refine Wl_v (r_as (v := .int .i64 ((((p : Nat) : Int) + ((k : Nat) : Int)) + 1)) rfl) ?_
              refine Wl_v (r_as (v := .int .i64 0) rfl) ?_
              refine Wl_nil ?_
              refine W_ret ?_
              refine ret_end (v := .tuple #[.int .u64 (val ((bs.drop p).take (k + 1))), .int .i64 ((((p : Nat) : Int) + ((k : Nat) : Int)) + 1), .int .i64 0]) rfl (res3 Try.results52 rfl rfl rfl) ?_
              rw [hg]
              rw [if_neg q11]
              exact ⟨_, rfl, rfl, HU⟩
    · have hg := gvar_short (p := p) (k := k) (by omega) (by omega) hall
      rw [decide_eq_false q2]
      refine Wl_guard_f rfl ?_
      refine Wl_guard_f rfl ?_
      refine Wl_guard_f rfl ?_
      refine Wl_guard_f rfl ?_
      refine Wl_guard_f rfl ?_
      refine Wl_guard_f rfl ?_
      refine Wl_guard_f rfl ?_
      refine Wl_v (r_pick_f (v := .bool false) rfl rfl) ?_
      refine Wl_nil ?_
      refine W_cond_f rfl ?_
      refine W_exit ?_
      refine W_seq ?_
      refine W_seq ?_
      refine W_region ?_
      refine Wl_v (r_mv (v := .int .i64 ((k : Nat) : Int)) rfl) ?_
      refine Wl_v (r_eq rfl rfl) ?_
      refine Wl_nil ?_
      have q12 : ¬ (((k : Nat) : Int) = 9) := (by omega)
      rw [decide_eq_false q12]
      refine W_cond_f rfl ?_
      refine W_skip ?_
      refine W_seq ?_
      refine W_seq ?_
      refine W_region ?_
      refine Wl_v (r_mv (v := .int .i64 ((p : Nat) : Int)) rfl) ?_
      refine Wl_v (r_mv (v := .int .i64 ((k : Nat) : Int)) rfl) ?_
      refine Wl_v (r_add rfl rfl (wi64 (by omega) (by omega))) ?_
      refine Wl_v (r_mv (v := .slice a n c) rfl) ?_
      refine Wl_v (r_len Try.underlying35 rfl) ?_
      refine Wl_v (r_ge rfl rfl) ?_
      refine Wl_nil ?_
      have q13 : ((n : Nat) : Int) ≤ (((p : Nat) : Int) + ((k : Nat) : Int)) := (by omega)
      rw [decide_eq_true q13]
      refine W_cond_t rfl ?_
      refine W_seq ?_
      refine W_region ?_
      refine Wl_v (r_mv (v := .int .i64 ((p : Nat) : Int)) rfl) ?_
      refine Wl_v (r_as (v := .int .u64 0) rfl) ?_
      refine Wl_v (r_as (v := .int .i64 ((p : Nat) : Int)) rfl) ?_
      refine Wl_v (r_as (v := .int .i64 3) rfl) ?_
      refine Wl_nil ?_
      refine W_ret ?_
      refine ret_end (v := .tuple #[.int .u64 0, .int .i64 ((p : Nat) : Int), .int .i64 3]) rfl (res3 Try.results52 rfl rfl rfl) ?_
      rw [hg]
      exact ⟨_, rfl, rfl, HU⟩
  · have hg := gvar_long (p := p) (k := k) (by omega) hk9 hall (by omega)
    rw [decide_eq_false q1]
    refine Wl_guard_f rfl ?_
    refine Wl_guard_f rfl ?_
    refine Wl_guard_f rfl ?_
    refine Wl_guard_f rfl ?_
    refine Wl_guard_f rfl ?_
    refine Wl_guard_f rfl ?_
    refine Wl_v (r_pick_f (v := .bool false) rfl rfl) ?_
    refine Wl_v (r_mv (v := .bool false) rfl) ?_
    refine Wl_guard_f rfl ?_
    refine Wl_guard_f rfl ?_
    refine Wl_guard_f rfl ?_
    refine Wl_guard_f rfl ?_
    refine Wl_guard_f rfl ?_
    refine Wl_guard_f rfl ?_
    refine Wl_guard_f rfl ?_
    refine Wl_v (r_pick_f (v := .bool false) rfl rfl) ?_
    refine Wl_nil ?_
    refine W_cond_f rfl ?_
    refine W_exit ?_
    refine W_seq ?_
    refine W_seq ?_
    refine W_region ?_
    refine Wl_v (r_mv (v := .int .i64 ((k : Nat) : Int)) rfl) ?_
    refine Wl_v (r_eq rfl rfl) ?_
    refine Wl_nil ?_
    have q14 : ((k : Nat) : Int) = 9 := (by omega)
    rw [decide_eq_true q14]
    refine W_cond_t rfl ?_
    refine W_seq ?_
    refine W_region ?_
    refine Wl_v (r_mv (v := .int .i64 ((p : Nat) : Int)) rfl) ?_
    refine Wl_v (r_as (v := .int .u64 0) rfl) ?_
    refine Wl_v (r_as (v := .int .i64 ((p : Nat) : Int)) rfl) ?_
    refine Wl_v (r_as (v := .int .i64 18) rfl) ?_
    refine Wl_nil ?_
    refine W_ret ?_
    refine ret_end (v := .tuple #[.int .u64 0, .int .i64 ((p : Nat) : Int), .int .i64 18]) rfl (res3 Try.results52 rfl rfl rfl) ?_
    rw [hg]
    exact ⟨_, rfl, rfl, HU⟩

set_option maxRecDepth 100000 in
theorem rbytes_spec {a : Option Addr} {n c p : Nat} {bs : List Int} {k : Int} {R : Nat → Prop} (w : World) (hs : Sl w R 1 (.slice a n c) n (ints .u8 bs)) (hb : Byt bs) (hpn : p ≤ n) (hn : n ≤ 140737488355328) :
    Calls Try.prog 55 #[.slice a n c, .int .i64 ((p : Nat) : Int), .int .i64 k] w (Ret fun v w' => ∃ a' m' c', v = .tuple #[.slice a' m' c', .int .i64 ((gbytes bs p k).2.1 : Nat), .int .i64 (gbytes bs p k).2.2] ∧ Sl w' R 1 (.slice a' m' c') m' (ints .u8 (gbytes bs p k).1) ∧ (gbytes bs p k).1.length = m' ∧ Upd No w w') := by
  have HU : Upd (fun b => False) w w := Upd.refl _ _
  have hl := ilen hs
  have hcap := hs.cap.1
  refine calls_of_W Try.func55 rfl Try.ntmps55 (by simp) ?_
  refine W_seq ?_
  refine W_region ?_
  refine Wl_v (r_as (v := .slice none 0 0) rfl) ?_
  refine Wl_v (r_as (v := .int .i64 0) rfl) ?_
  refine Wl_v (r_as (v := .int .i64 0) rfl) ?_
  refine Wl_nil ?_
  refine W_seq ?_
  refine W_seq ?_
  refine W_region ?_
  refine Wl_v (r_mv (v := .int .i64 k) rfl) ?_
  refine Wl_v (r_lt rfl rfl) ?_
  refine Wl_nil ?_
  by_cases q1 : k < 0
  · rw [decide_eq_true q1]
    refine W_cond_t rfl ?_
    refine W_seq ?_
    refine W_region ?_
    refine Wl_v (r_mv (v := .int .i64 ((p : Nat) : Int)) rfl) ?_
    refine Wl_v (r_as (v := .slice none 0 0) rfl) ?_
    refine Wl_v (r_as (v := .int .i64 ((p : Nat) : Int)) rfl) ?_
    refine Wl_v (r_as (v := .int .i64 2) rfl) ?_
    refine Wl_nil ?_
    refine W_ret ?_
    refine ret_end (v := .tuple #[.slice none 0 0, .int .i64 ((p : Nat) : Int), .int .i64 2]) rfl (res3 Try.results55 rfl rfl rfl) ?_
    rw [gbytes_neg (by omega)]
    exact ⟨_, rfl, none, 0, 0, rfl, Sl.nil _ _ _, rfl, HU⟩
  · rw [decide_eq_false q1]
    refine W_cond_f rfl ?_
    refine W_skip ?_
    refine W_seq ?_
    refine W_seq ?_
    refine W_region ?_
    refine Wl_v (r_mv (v := .int .i64 k) rfl) ?_
    refine Wl_v (r_mv (v := .slice a n c) rfl) ?_
    refine Wl_v (r_len Try.underlying35 rfl) ?_
    refine Wl_v (r_mv (v := .int .i64 ((p : Nat) : Int)) rfl) ?_
    refine Wl_v (r_sub rfl rfl (wi64 (by omega) (by omega))) ?_
    refine Wl_v (r_gt rfl rfl) ?_
    refine Wl_nil ?_
    by_cases q2 : (((n : Nat) : Int) - ((p : Nat) : Int)) < k
    · rw [decide_eq_true q2]
      refine W_cond_t rfl ?_
      refine W_seq ?_
      refine W_region ?_
      refine Wl_v (r_mv (v := .int .i64 ((p : Nat) : Int)) rfl) ?_
      refine Wl_v (r_as (v := .slice none 0 0) rfl) ?_
      refine Wl_v (r_as (v := .int .i64 ((p : Nat) : Int)) rfl) ?_
      refine Wl_v (r_as (v := .int .i64 3) rfl) ?_
      refine Wl_nil ?_
      refine W_ret ?_
      refine ret_end (v := .tuple #[.slice none 0 0, .int .i64 ((p : Nat) : Int), .int .i64 3]) rfl (res3 Try.results55 rfl rfl rfl) ?_
      rw [gbytes_long (by omega) (by omega)]
      exact ⟨_, rfl, none, 0, 0, rfl, Sl.nil _ _ _, rfl, HU⟩
    · rw [decide_eq_false q2]
      refine W_cond_f rfl ?_
      refine W_skip ?_
      refine W_seq ?_
      refine W_region ?_
      refine Wl_v (r_mv (v := .slice a n c) rfl) ?_
      refine Wl_v (r_mv (v := .int .i64 ((p : Nat) : Int)) rfl) ?_
      refine Wl_v (r_mv (v := .int .i64 ((p : Nat) : Int)) rfl) ?_
      refine Wl_v (r_mv (v := .int .i64 k) rfl) ?_
      refine Wl_v (r_add rfl rfl (wi64 (by omega) (by omega))) ?_
      refine Wl_v (r_slicen (l' := p) (h' := p + k.toNat) (n' := k.toNat) Try.underlying35 Try.sizeOf5 rfl rfl rfl (by omega) (by omega) (by omega) (by omega) (by omega)) ?_
      refine Wl_v (r_mv (v := .int .i64 ((p : Nat) : Int)) rfl) ?_
      refine Wl_v (r_mv (v := .int .i64 k) rfl) ?_
      refine Wl_v (r_add rfl rfl (wi64 (by omega) (by omega))) ?_
      refine Wl_v (r_as (v := .slice (if c = p then a else a.map (·.add (p * 1))) k.toNat (c - p)) rfl) ?_
      refine Wl_v (r_as (v := .int .i64 (((p : Nat) : Int) + k)) rfl) ?_
      refine Wl_v (r_as (v := .int .i64 0) rfl) ?_
      refine Wl_nil ?_
      refine W_ret ?_
      refine ret_end (v := .tuple #[.slice (if c = p then a else a.map (·.add (p * 1))) k.toNat (c - p), .int .i64 (((p : Nat) : Int) + k), .int .i64 0]) rfl (res3 Try.results55 rfl rfl rfl) ?_
      rw [gbytes_ok (by omega) (by omega)]
      exact ⟨_, rfl, _, _, _, vtup3 rfl (vint (by dsimp only; omega)) rfl, hs.cutn (by omega), by rw [List.length_take, List.length_drop]; omega, HU⟩

end Go.Proofs.Ytflmjdnhjbiobaa
