/-
 Walks, printed by a small program of this project (gen.py).
-/
import Derived.Test.YtilegaokfamfnaaZh
set_option linter.unusedVariables false
set_option linter.unusedSimpArgs false
namespace Go.Proofs.Ytilegaokfamfnaa
open Go.Fw

set_option maxRecDepth 100000 in
theorem rbits_spec {x k : Nat} (w : World) (hbd : x < 18446744073709551616 ∧ k ≤ 64) :
  Calls Try.prog 41 #[.int .u64 ((x : Nat) : Int), .int .i64 ((k : Nat) : Int)] w (Ret fun v w' => ∃ (a' : Option Addr) (c' : Nat), v = .slice a' k c' ∧ Own w' (fun g => w.heap.size ≤ g) 4 1 (.slice a' k c') k (rows encB (bl x k)) ∧ Upd No w w') := by
 have HU : Upd (fun b => False) w w := Upd.refl _ _
 refine calls_of_W Try.func41 rfl Try.ntmps41 (by simp) ?_
 refine W_seq ?_
 refine W_region ?_
 refine Wl_v (r_as (v := .slice none 0 0) rfl) ?_
 refine Wl_nil ?_
 refine W_seq ?_
 refine W_region ?_
 refine Wl_v (r_as (v := .slice none 0 0) rfl) ?_
 refine Wl_nil ?_
 refine W_seq ?_
 refine W_seq ?_
 refine W_region ?_
 refine Wl_v (r_as (v := .int .i64 0) rfl) ?_
 refine Wl_nil ?_
 refine W_block ?_
 refine W_loop (fun mu ρ ds w' => ∃ (i : Nat) (a9 : Option Addr) (c9 : Nat), k - i = mu ∧ ds = [] ∧ Liv ρ [(0, .int .u64 ((x / 2 ^ i : Nat) : Int)), (1, .int .i64 ((k : Nat) : Int)), (5, .slice a9 i c9), (6, .int .i64 ((i : Nat) : Int))] ∧ i ≤ k ∧ Own w' (fun g => w.heap.size ≤ g) 4 1 (.slice a9 i c9) i (rows encB (bl x i)) ∧ Upd (fun g => w.heap.size ≤ g) w w') _ ⟨0, none, 0, rfl, rfl, ⟨(Eq.trans (b := .int .u64 ((x : Nat) : Int)) rfl (vint (by simp))), rfl, (by first | rfl | exact vint (by omega) | exact vint (by simp)), (by first | rfl | exact vint (by omega) | exact vint (by simp)), trivial⟩, (by omega), (by simpa [bl, tabn, rows] using Own.nil _ _ _ _), Upd.refl _ _⟩ ?_
 rintro m1 ρ1 ds1 w1 ⟨i, a9, c9, rfl, rfl, hl1, hi, hO, hU1⟩
 obtain ⟨ρ1x, rfl⟩ : ∃ ρx, ρ1 = upds ρx [(0, .int .u64 ((x / 2 ^ i : Nat) : Int)), (1, .int .i64 ((k : Nat) : Int)), (5, .slice a9 i c9), (6, .int .i64 ((i : Nat) : Int))] := ⟨_, upds_self hl1⟩
 clear hl1
 have hzw1 := hU1.size
 replace HU := HU.trans hU1 (by intro x hx; have hx2 : w.heap.size ≤ x := hx; show (False) ∨ w.heap.size ≤ x; omega)
 have HL1 := hU1
 refine W_seq ?_
 refine W_seq ?_
 refine W_region ?_
 refine Wl_v (r_mv (v := .int .i64 ((i : Nat) : Int)) rfl) ?_
 refine Wl_v (r_mv (v := .int .i64 ((k : Nat) : Int)) rfl) ?_
 refine Wl_v (r_lt rfl rfl) ?_
 refine Wl_nil ?_
 by_cases q1 : ((i : Nat) : Int) < ((k : Nat) : Int)
 ·have hxi := Nat.div_le_self x (2 ^ i)
  obtain ⟨y, hy⟩ : ∃ y : Nat, x / 2 ^ i = y := ⟨_, rfl⟩
  rw [hy]
  rw [hy] at hxi
  replace hO := hO.tight
  rw [decide_eq_true q1]
  refine W_cond_t rfl ?_
  refine W_skip ?_
  refine W_seq ?_
  refine W_block ?_
  refine W_seq ?_
  refine W_region ?_
  refine Wl_v (r_mv (v := .slice a9 i c9) rfl) ?_
  refine Wl_v (r_mv (v := .int .u64 ((y : Nat) : Int)) rfl) ?_
  refine Wl_v (r_rem rfl rfl (by omega) (tr (by omega))) ?_
  refine Wl_v (r_eq rfl rfl) ?_
  by_cases q2 : (((y : Nat) : Int) % 2) = 1
  ·rw [decide_eq_true q2]
   refine Wl_lit (pv := [(0, .bool true)]) (cs := [.bool true]) Try.underlying72 Try.sizeOf4 Try.zeroValue4 (by decide) (by decide) (by simp only [List.map_toArray, List.map_cons, List.map_nil] <;> rfl) (by kernel_rfl) rfl (by decide) ?_
   intro B2 w2 hB2 hU2 hzz2 hs2
   have hzw2 := hU2.size
   replace hO := hO.upd0 hU2
   replace HL1 := HL1.trans0 hU2
   replace hs2 : Own w2 (Is B2) 4 1 (.slice (some ⟨B2, 0, none⟩) 1 1) 1 (rows encB [true]) := hs2
   refine Wl_appendc (cs3 := rows encB ((bl x i) ++ [true])) (tot := i + 1) (by first | rfl | exact (rows_app _ _).symm | simp) Try.underlying72 (ti := Try.t4) (z := .bool false) (sz := 1) (by' := 1) rfl rfl rfl rfl rfl (by decide) rfl hO rfl hs2.sl (rows_one encB_one _) (by omega) (by simp only [maxLen]; omega) (by omega) ?_
   intro a3 c3 w3 hU3 hzz3 hO3
   clear hO
   have hzw3 := hU3.size
   replace HL1 := HL1.trans hU3 (by intro x hx; have hx2 : ((w.heap.size ≤ x) ∧ x < w1.heap.size) := hx; show (w.heap.size ≤ x) ∨ w.heap.size ≤ x; omega)
   replace hO3 := hO3.tight
   have hl_hO3 := rlen encB_len (by decide) hO3.sl
   have hc_hO3 := hO3.sl.cap.1
   refine Wl_v (r_as (v := .slice a3 (i + 1) c3) rfl) ?_
   refine Wl_nil ?_
   refine W_region ?_
   refine Wl_v (r_mv (v := .int .u64 ((y : Nat) : Int)) rfl) ?_
   refine Wl_v (r_quo rfl rfl (by omega) (tq (by omega) (wu64 (by omega) (by omega)))) ?_
   refine Wl_v (r_as (v := .int .u64 (((y : Nat) : Int) / 2)) rfl) ?_
   refine Wl_nil ?_
   refine W_region ?_
   refine Wl_v (r_mv (v := .int .i64 ((i : Nat) : Int)) rfl) ?_
   refine Wl_v (r_add rfl rfl (wi64 (by omega) (by omega))) ?_
   refine Wl_v (r_as (v := .int .i64 (((i : Nat) : Int) + 1)) rfl) ?_
   refine Wl_nil ?_
   refine ⟨_, ?_, (i + 1), a3, c3, rfl, rfl, ⟨(Eq.trans (b := .int .u64 (((y : Nat) : Int) / 2)) rfl (vint (by rw [Nat.pow_succ, ← Nat.div_div_eq_div_mul, hy]; omega))), rfl, (by first | rfl | exact vint (by omega) | exact vint (by simp)), (Eq.trans (b := .int .i64 (((i : Nat) : Int) + 1)) rfl (vint (by omega))), trivial⟩, (by omega), ((hO3.weak (by intro g hg; have h3 : ((((((w.heap.size ≤ g) ∧ g < w1.heap.size)) ∨ g = w2.heap.size)) ∧ g < w3.heap.size) := hg; show w.heap.size ≤ g; omega)).rcong (by rw [bl_succ, hy, decide_eq_true (by omega)])), HL1⟩
   omega
  ·rw [decide_eq_false q2]
   refine Wl_lit (pv := [(0, .bool false)]) (cs := [.bool false]) Try.underlying72 Try.sizeOf4 Try.zeroValue4 (by decide) (by decide) (by simp only [List.map_toArray, List.map_cons, List.map_nil] <;> rfl) (by kernel_rfl) rfl (by decide) ?_
   intro B4 w4 hB4 hU4 hzz4 hs4
   have hzw4 := hU4.size
   replace hO := hO.upd0 hU4
   replace HL1 := HL1.trans0 hU4
   replace hs4 : Own w4 (Is B4) 4 1 (.slice (some ⟨B4, 0, none⟩) 1 1) 1 (rows encB [false]) := hs4
   refine Wl_appendc (cs3 := rows encB ((bl x i) ++ [false])) (tot := i + 1) (by first | rfl | exact (rows_app _ _).symm | simp) Try.underlying72 (ti := Try.t4) (z := .bool false) (sz := 1) (by' := 1) rfl rfl rfl rfl rfl (by decide) rfl hO rfl hs4.sl (rows_one encB_one _) (by omega) (by simp only [maxLen]; omega) (by omega) ?_
   intro a5 c5 w5 hU5 hzz5 hO5
   clear hO
   have hzw5 := hU5.size
   replace HL1 := HL1.trans hU5 (by intro x hx; have hx2 : ((w.heap.size ≤ x) ∧ x < w1.heap.size) := hx; show (w.heap.size ≤ x) ∨ w.heap.size ≤ x; omega)
   replace hO5 := hO5.tight
   have hl_hO5 := rlen encB_len (by decide) hO5.sl
   have hc_hO5 := hO5.sl.cap.1
   refine Wl_v (r_as (v := .slice a5 (i + 1) c5) rfl) ?_
   refine Wl_nil ?_
   refine W_region ?_
   refine Wl_v (r_mv (v := .int .u64 ((y : Nat) : Int)) rfl) ?_
   refine Wl_v (r_quo rfl rfl (by omega) (tq (by omega) (wu64 (by omega) (by omega)))) ?_
   refine Wl_v (r_as (v := .int .u64 (((y : Nat) : Int) / 2)) rfl) ?_
   refine Wl_nil ?_
   refine W_region ?_
   refine Wl_v (r_mv (v := .int .i64 ((i : Nat) : Int)) rfl) ?_
   refine Wl_v (r_add rfl rfl (wi64 (by omega) (by omega))) ?_
   refine Wl_v (r_as (v := .int .i64 (((i : Nat) : Int) + 1)) rfl) ?_
   refine Wl_nil ?_
   refine ⟨_, ?_, (i + 1), a5, c5, rfl, rfl, ⟨(Eq.trans (b := .int .u64 (((y : Nat) : Int) / 2)) rfl (vint (by rw [Nat.pow_succ, ← Nat.div_div_eq_div_mul, hy]; omega))), rfl, (by first | rfl | exact vint (by omega) | exact vint (by simp)), (Eq.trans (b := .int .i64 (((i : Nat) : Int) + 1)) rfl (vint (by omega))), trivial⟩, (by omega), ((hO5.weak (by intro g hg; have h3 : ((((((w.heap.size ≤ g) ∧ g < w1.heap.size)) ∨ g = w4.heap.size)) ∧ g < w5.heap.size) := hg; show w.heap.size ≤ g; omega)).rcong (by rw [bl_succ, hy, decide_eq_false (by omega)])), HL1⟩
   omega
 ·rw [decide_eq_false q1]
  obtain rfl : k = i := by omega
  refine W_cond_f rfl ?_
  refine W_exit ?_
  refine W_seq ?_
  refine W_region ?_
  refine Wl_v (r_mv (v := .slice a9 k c9) rfl) ?_
  refine Wl_v (r_as (v := .slice a9 k c9) rfl) ?_
  refine Wl_nil ?_
  refine W_ret ?_
  refine ret_end (v := .slice a9 k c9) rfl (res1 Try.results41 rfl) ?_
  exact ⟨_, rfl, a9, c9, rfl, (hO), HU⟩

set_option maxRecDepth 100000 in
theorem rrow_spec {a2 : Option Addr} {m d : Nat} {b : List Int} (w : World) (hsb : Sl w (fun g => g < w.heap.size) 1 (.slice a2 m d) m (ints .u8 b)) (hb : Byt b) (hm : m ≤ 100000) :
  Calls Try.prog 78 #[.slice a2 m d] w (Ret fun v w' => ∃ (a' : Option Addr) (c' : Nat), v = .slice a' (8 * m) c' ∧ Own w' (fun g => w.heap.size ≤ g) 4 1 (.slice a' (8 * m) c') (8 * m) (rows encB (bl (wn b) (8 * m))) ∧ Upd No w w') := by
 have HU : Upd (fun b => False) w w := Upd.refl _ _
 have hl_hsb := ilen hsb
 have hc_hsb := hsb.cap.1
 refine calls_of_W Try.func78 rfl Try.ntmps78 (by simp) ?_
 refine W_seq ?_
 refine W_region ?_
 refine Wl_v (r_as (v := .slice none 0 0) rfl) ?_
 refine Wl_nil ?_
 refine W_seq ?_
 refine W_region ?_
 refine Wl_v (r_as (v := .slice none 0 0) rfl) ?_
 refine Wl_nil ?_
 refine W_seq ?_
 refine W_seq ?_
 refine W_region ?_
 refine Wl_v (r_as (v := .int .i64 0) rfl) ?_
 refine Wl_nil ?_
 refine W_block ?_
 refine W_loop (fun mu ρ ds w' => ∃ (k : Nat) (a9 : Option Addr) (c9 : Nat), m - k = mu ∧ ds = [] ∧ Liv ρ [(0, .slice a2 m d), (3, .slice a9 (8 * k) c9), (4, .int .i64 ((k : Nat) : Int))] ∧ k ≤ m ∧ Own w' (fun g => w.heap.size ≤ g) 4 1 (.slice a9 (8 * k) c9) (8 * k) (rows encB (bl (wn b) (8 * k))) ∧ Upd (fun g => w.heap.size ≤ g) w w') _ ⟨0, none, 0, rfl, rfl, ⟨rfl, (by first | rfl | exact vint (by omega) | exact vint (by simp)), (by first | rfl | exact vint (by omega) | exact vint (by simp)), trivial⟩, (by omega), (by simpa [bl, tabn, rows] using Own.nil _ _ _ _), Upd.refl _ _⟩ ?_
 rintro m1 ρ1 ds1 w1 ⟨k, a9, c9, rfl, rfl, hl1, hk, hO, hU1⟩
 obtain ⟨ρ1x, rfl⟩ : ∃ ρx, ρ1 = upds ρx [(0, .slice a2 m d), (3, .slice a9 (8 * k) c9), (4, .int .i64 ((k : Nat) : Int))] := ⟨_, upds_self hl1⟩
 clear hl1
 have hzw1 := hU1.size
 replace hsb := hsb.upd hU1 (by intro x h1 h2; have h3 : x < w.heap.size := h1; have h4 : w.heap.size ≤ x := h2; omega)
 replace HU := HU.trans hU1 (by intro x hx; have hx2 : w.heap.size ≤ x := hx; show (False) ∨ w.heap.size ≤ x; omega)
 have HL1 := hU1
 refine W_seq ?_
 refine W_seq ?_
 refine W_region ?_
 refine Wl_v (r_mv (v := .int .i64 ((k : Nat) : Int)) rfl) ?_
 refine Wl_v (r_mv (v := .slice a2 m d) rfl) ?_
 refine Wl_v (r_len Try.underlying23 rfl) ?_
 refine Wl_v (r_lt rfl rfl) ?_
 refine Wl_nil ?_
 by_cases q1 : ((k : Nat) : Int) < ((m : Nat) : Int)
 ·have hbk := byt_get hb k
  replace hO := hO.tight
  rw [decide_eq_true q1]
  refine W_cond_t rfl ?_
  refine W_skip ?_
  refine W_seq ?_
  refine W_block ?_
  refine W_region ?_
  refine Wl_v (r_mv (v := .slice a9 (8 * k) c9) rfl) ?_
  refine Wl_v (r_mv (v := .slice a2 m d) rfl) ?_
  refine Wl_v (r_mv (v := .int .i64 ((k : Nat) : Int)) rfl) ?_
  refine Wl_idxi Try.underlying23 Try.sizeOf5 rfl rfl hsb (by omega) (by omega) ?_
  intro ib2 io2 hc2
  rw [Int.toNat_natCast] at hc2
  refine Wl_loadc Try.isAgg5 rfl hc2 ?_
  refine Wl_v (r_cvt Try.underlying5 Try.underlying55 rfl (wu64 (by omega) (by omega))) ?_
  refine Wl_call (r_call2 rfl Try.call41 (v0 := .int .u64 (((b.getD k 0).toNat : Nat) : Int)) (v1 := .int .i64 ((8 : Nat) : Int)) (Eq.trans (b := .int .u64 (b.getD k 0)) rfl (vint (by omega))) (Eq.trans (b := .int .i64 8) rfl rfl)) (rbits_spec _ (by omega)) ?_
  rintro v w3 ⟨a3, c3, rfl, hO3, hU3⟩
  have hzw3 := hU3.size
  replace hO := hO.upd0 hU3
  replace HL1 := HL1.trans0 hU3
  replace hO3 := hO3.tight
  have hl_hO3 := rlen encB_len (by decide) hO3.sl
  have hc_hO3 := hO3.sl.cap.1
  refine Wl_appendc (cs3 := rows encB ((bl (wn b) (8 * k)) ++ (bl ((b.getD k 0).toNat) 8))) (tot := (8 * k) + 8) (by first | rfl | exact (rows_app _ _).symm | simp) Try.underlying72 (ti := Try.t4) (z := .bool false) (sz := 1) (by' := 1) rfl rfl rfl rfl rfl (by decide) rfl hO rfl hO3.sl (rows_one encB_one _) (by omega) (by simp only [maxLen]; omega) (by omega) ?_
  intro a4 c4 w4 hU4 hzz4 hO4
  clear hO
  have hzw4 := hU4.size
  replace HL1 := HL1.trans hU4 (by intro x hx; have hx2 : ((w.heap.size ≤ x) ∧ x < w1.heap.size) := hx; show (w.heap.size ≤ x) ∨ w.heap.size ≤ x; omega)
  replace hO4 := hO4.tight
  have hl_hO4 := rlen encB_len (by decide) hO4.sl
  have hc_hO4 := hO4.sl.cap.1
  refine Wl_v (r_as (v := .slice a4 ((8 * k) + 8) c4) rfl) ?_
  refine Wl_nil ?_
  refine W_region ?_
  refine Wl_v (r_mv (v := .int .i64 ((k : Nat) : Int)) rfl) ?_
  refine Wl_v (r_add rfl rfl (wi64 (by omega) (by omega))) ?_
  refine Wl_v (r_as (v := .int .i64 (((k : Nat) : Int) + 1)) rfl) ?_
  refine Wl_nil ?_
  refine ⟨_, ?_, (k + 1), a4, c4, rfl, rfl, ⟨rfl, rfl, (Eq.trans (b := .int .i64 (((k : Nat) : Int) + 1)) rfl (vint (by omega))), trivial⟩, (by omega), (by rw [show 8 * (k + 1) = 8 * k + 8 from by omega]; exact (hO4.weak (by intro g hg; have h3 : ((((((w.heap.size ≤ g) ∧ g < w1.heap.size)) ∨ g = w3.heap.size)) ∧ g < w4.heap.size) := hg; show w.heap.size ≤ g; omega)).rcong (bl_byte hb (by omega))), HL1⟩
  omega
 ·rw [decide_eq_false q1]
  obtain rfl : m = k := by omega
  refine W_cond_f rfl ?_
  refine W_exit ?_
  refine W_seq ?_
  refine W_region ?_
  refine Wl_v (r_mv (v := .slice a9 (8 * m) c9) rfl) ?_
  refine Wl_v (r_as (v := .slice a9 (8 * m) c9) rfl) ?_
  refine Wl_nil ?_
  refine W_ret ?_
  refine ret_end (v := .slice a9 (8 * m) c9) rfl (res1 Try.results78 rfl) ?_
  exact ⟨_, rfl, a9, c9, rfl, (hO), HU⟩

set_option maxRecDepth 100000 in
theorem rbytes_spec {a : Option Addr} {n c V : Nat} (w : World) (hs : Sl w (fun g => g < w.heap.size) 1 (.slice a n c) n (rows encB (bl V n))) (hn : n ≤ 2000000) :
  Calls Try.prog 70 #[.slice a n c] w (Ret fun v w' => ∃ (a' : Option Addr) (c' : Nat), v = .slice a' ((n + 7) / 8) c' ∧ Own w' (fun g => w.heap.size ≤ g) 5 1 (.slice a' ((n + 7) / 8) c') ((n + 7) / 8) (ints .u8 (ub (V % 2 ^ n) ((n + 7) / 8))) ∧ Upd No w w') := by
 have HU : Upd (fun b => False) w w := Upd.refl _ _
 have hl_hs := rlen encB_len (by decide) hs
 have hc_hs := hs.cap.1
 refine calls_of_W Try.func70 rfl Try.ntmps70 (by simp) ?_
 refine W_seq ?_
 refine W_region ?_
 refine Wl_v (r_as (v := .slice none 0 0) rfl) ?_
 refine Wl_nil ?_
 refine W_seq ?_
 refine W_region ?_
 refine Wl_v (r_as (v := .slice none 0 0) rfl) ?_
 refine Wl_nil ?_
 refine W_seq ?_
 refine W_seq ?_
 refine W_region ?_
 refine Wl_v (r_as (v := .int .i64 0) rfl) ?_
 refine Wl_nil ?_
 refine W_block ?_
 refine W_loop (fun mu ρ ds w' => ∃ (i : Nat) (a9 : Option Addr) (c9 : Nat), n - i = mu ∧ ds = [] ∧ Liv ρ [(0, .slice a n c), (3, .slice a9 ((i + 7) / 8) c9), (4, .int .i64 ((i : Nat) : Int))] ∧ i ≤ n ∧ Own w' (fun g => w.heap.size ≤ g) 5 1 (.slice a9 ((i + 7) / 8) c9) ((i + 7) / 8) (ints .u8 (ub (V % 2 ^ i) ((i + 7) / 8))) ∧ Upd (fun g => w.heap.size ≤ g) w w') _ ⟨0, none, 0, rfl, rfl, ⟨rfl, (by first | rfl | exact vint (by omega) | exact vint (by simp)), (by first | rfl | exact vint (by omega) | exact vint (by simp)), trivial⟩, (by omega), (by simpa [ub, tabn] using Own.nil _ _ _ _), Upd.refl _ _⟩ ?_
 rintro m1 ρ1 ds1 w1 ⟨i, a9, c9, rfl, rfl, hl1, hi, hO, hU1⟩
 obtain ⟨ρ1x, rfl⟩ : ∃ ρx, ρ1 = upds ρx [(0, .slice a n c), (3, .slice a9 ((i + 7) / 8) c9), (4, .int .i64 ((i : Nat) : Int))] := ⟨_, upds_self hl1⟩
 clear hl1
 have hzw1 := hU1.size
 replace hs := hs.upd hU1 (by intro x h1 h2; have h3 : x < w.heap.size := h1; have h4 : w.heap.size ≤ x := h2; omega)
 replace HU := HU.trans hU1 (by intro x hx; have hx2 : w.heap.size ≤ x := hx; show (False) ∨ w.heap.size ≤ x; omega)
 have HL1 := hU1
 refine W_seq ?_
 refine W_seq ?_
 refine W_region ?_
 refine Wl_v (r_mv (v := .int .i64 ((i : Nat) : Int)) rfl) ?_
 refine Wl_v (r_mv (v := .slice a n c) rfl) ?_
 refine Wl_v (r_len Try.underlying72 rfl) ?_
 refine Wl_v (r_lt rfl rfl) ?_
 refine Wl_nil ?_
 by_cases q1 : ((i : Nat) : Int) < ((n : Nat) : Int)
 ·replace hO := hO.tight
  rw [decide_eq_true q1]
  refine W_cond_t rfl ?_
  refine W_skip ?_
  refine W_seq ?_
  refine W_block ?_
  refine W_seq ?_
  refine W_seq ?_
  refine W_region ?_
  refine Wl_v (r_mv (v := .int .i64 ((i : Nat) : Int)) rfl) ?_
  refine Wl_v (r_rem rfl rfl (by omega) (tr (by omega))) ?_
  refine Wl_v (r_eq rfl rfl) ?_
  refine Wl_nil ?_
  by_cases q2 : (((i : Nat) : Int) % 8) = 0
  ·have hi8 : (i + 7) / 8 = i / 8 := by omega
   rw [hi8] at hO
   rw [hi8]
   have hl_h8 := ilen hO.sl
   have hc_h8 := hO.sl.cap.1
   rw [decide_eq_true q2]
   refine W_cond_t rfl ?_
   refine W_region ?_
   refine Wl_v (r_mv (v := .slice a9 (i / 8) c9) rfl) ?_
   refine Wl_lit (pv := [(0, .int .u8 0)]) (cs := [.int .u8 0]) Try.underlying23 Try.sizeOf5 Try.zeroValue5 (by decide) (by decide) (by simp only [List.map_toArray, List.map_cons, List.map_nil] <;> rfl) (by kernel_rfl) rfl (by decide) ?_
   intro B2 w2 hB2 hU2 hzz2 hs2
   have hzw2 := hU2.size
   replace hs := hs.upd0 hU2
   replace hO := hO.upd0 hU2
   replace HL1 := HL1.trans0 hU2
   replace hs2 : Own w2 (Is B2) 5 1 (.slice (some ⟨B2, 0, none⟩) 1 1) 1 (ints .u8 [0]) := hs2
   refine Wl_appendi (xs := ub (V % 2 ^ i) (i / 8)) (ys := [0]) (zs := (ub (V % 2 ^ i) (i / 8)) ++ [0]) (k' := .u8) (tot := (i / 8) + 1) (by first | rfl | exact (rows_app _ _).symm | simp) Try.underlying23 (ti := Try.t5) (z := .int .u8 0) (sz := 1) (by' := 1) rfl rfl rfl rfl rfl (by decide) rfl hO rfl hs2.sl  (by omega) (by simp only [maxLen]; omega) (by omega) ?_
   intro a3 c3 w3 hU3 hzz3 hO3
   clear hO
   have hzw3 := hU3.size
   replace hs := hs.upd hU3 (by intro x h1 h2; have h3 : x < w.heap.size := h1; have h4 : ((w.heap.size ≤ x) ∧ x < w1.heap.size) := h2; omega)
   replace HL1 := HL1.trans hU3 (by intro x hx; have hx2 : ((w.heap.size ≤ x) ∧ x < w1.heap.size) := hx; show (w.heap.size ≤ x) ∨ w.heap.size ≤ x; omega)
   replace hO3 := hO3.tight
   have hl_hO3 := ilen hO3.sl
   have hc_hO3 := hO3.sl.cap.1
   refine Wl_v (r_as (v := .slice a3 ((i / 8) + 1) c3) rfl) ?_
   refine Wl_nil ?_
   refine W_seq ?_
   refine W_region ?_
   refine Wl_v (r_mv (v := .slice a n c) rfl) ?_
   refine Wl_v (r_mv (v := .int .i64 ((i : Nat) : Int)) rfl) ?_
   refine Wl_idxr false encB_len (by decide) Try.underlying72 Try.sizeOf4 rfl rfl hs (by omega) (by omega) ?_
   intro ib4 io4 hc4
   try rw [Int.toNat_natCast] at hc4
   refine Wl_loadc (v := .bool (decide (((bl V n).getD i false) = true))) Try.isAgg4 rfl (hc4 0 (by decide)) ?_
   refine Wl_nil ?_
   by_cases q3 : ((bl V n).getD i false) = true
   ·replace hO3 := hO3.icong (ub_pad (by omega))
    have hbit : V / 2 ^ i % 2 = 1 := by rw [bl_get (by omega)] at q3; simpa using q3
    have hset := ub_bit (V := V) (i := i) (m := i / 8 + 1) rfl hbit
    have hpw := pw_bd8 (k := i % 8) (by omega)
    have hug := ub_get (W := V % 2 ^ i) (n := i / 8 + 1) (i := i / 8) (by omega)
    have hum : V % 2 ^ i / 256 ^ (i / 8) < 2 ^ (i % 8) := by
     have := hold_lt (V := V % 2 ^ i) (L := i) (Nat.mod_lt _ (Nat.pow_pos (by decide)))
     exact this
    have hu7 := pw_bd8 (k := i % 8) (by omega)
    have hu8 : 2 ^ (i % 8) ≤ 2 ^ 7 := Nat.pow_le_pow_right (by decide) (by omega)
    rw [decide_eq_true q3]
    refine W_cond_t rfl ?_
    refine W_drawt rfl (l0 := tf 0 16) (by kernel_rfl) ?_
    refine Tk 0 (tf 1 16) rfl (YI_v (v := .slice a3 ((i / 8) + 1) c3) rfl (fun w' hw' => r_mv (v := .slice a3 ((i / 8) + 1) c3) rfl)) ?_
    refine Tk 1 (tf 2 16) rfl (YI_v (v := .int .i64 ((i : Nat) : Int)) rfl (fun w' hw' => r_mv (v := .int .i64 ((i : Nat) : Int)) rfl)) ?_
    refine Tk 2 (tf 3 16) rfl (YI_v (v := .int .i64 (((i : Nat) : Int) / 8)) rfl (fun w' hw' => r_quo rfl rfl (by omega) (tq (by omega) (wi64 (by omega) (by omega))))) ?_
    rw [show (((i : Nat) : Int) / 8 : Int) = ((i / 8 : Nat) : Int) from by omega]
    refine Tk 3 (tf 4 16) rfl (YI_v (v := .slice a3 ((i / 8) + 1) c3) rfl (fun w' hw' => r_mv (v := .slice a3 ((i / 8) + 1) c3) rfl)) ?_
    refine Tk 4 (tf 5 16) rfl (YI_v (v := .int .i64 ((i : Nat) : Int)) rfl (fun w' hw' => r_mv (v := .int .i64 ((i : Nat) : Int)) rfl)) ?_
    refine Tk 5 (tf 6 16) rfl (YI_v (v := .int .i64 (((i : Nat) : Int) / 8)) rfl (fun w' hw' => r_quo rfl rfl (by omega) (tq (by omega) (wi64 (by omega) (by omega))))) ?_
    rw [show (((i : Nat) : Int) / 8 : Int) = ((i / 8 : Nat) : Int) from by omega]
    obtain ⟨ib5, io5, ha5, hib5, hc5⟩ := (hO3.sl).iat (i := (i / 8)) (by omega)
    replace hib5 : ((((((w.heap.size ≤ ib5) ∧ ib5 < w1.heap.size)) ∨ ib5 = w2.heap.size)) ∧ ib5 < w3.heap.size) := hib5
    refine Tk 6 (tf 7 16) rfl (YI_v (v := .pointer (some ⟨ib5, io5 + (i / 8), none⟩)) rfl (fun w' hw' => r_idx (b := ib5) (off := io5) (m := (i / 8) + 1) (c := c3) (o' := io5 + (i / 8)) Try.underlying23 Try.sizeOf5 (by rw [← ha5]; rfl) rfl (by omega) (by omega) (by omega))) ?_
    refine Tk 7 (tf 8 16) rfl (YI_v (v := .int .u8 ((ub (V % 2 ^ i) (i / 8 + 1)).getD (i / 8) 0)) rfl (fun w' hw' => r_load Try.isAgg5 rfl (hw'.cellk hc5))) ?_
    obtain ⟨u9, hu9⟩ : ∃ u9 : Nat, V % 2 ^ i / 256 ^ (i / 8) % 256 = u9 := ⟨_, rfl⟩
    rw [hu9] at hset hug
    have hu9b : u9 < 2 ^ (i % 8) := by have := Nat.mod_le (V % 2 ^ i / 256 ^ (i / 8)) 256; omega
    rw [show ((ub (V % 2 ^ i) (i / 8 + 1)).getD (i / 8) 0 : Int) = ((u9 : Nat) : Int) from hug]
    refine Tk 9 (#[true, true, true, true, true, true, true, true, false, true, false, false, false, false, false, false]) rfl (YI_v (v := .int .i64 ((i : Nat) : Int)) rfl (fun w' hw' => r_mv (v := .int .i64 ((i : Nat) : Int)) rfl)) ?_
    refine Tk 10 (#[true, true, true, true, true, true, true, true, false, true, true, false, false, false, false, false]) rfl (YI_v (v := .int .i64 (((i : Nat) : Int) % 8)) rfl (fun w' hw' => r_rem rfl rfl (by omega) (tr (by omega)))) ?_
    rw [show (((i : Nat) : Int) % 8 : Int) = ((i % 8 : Nat) : Int) from by omega]
    intro w6 hU6
    have hzw6 := hU6.size
    replace HL1 := HL1.trans0 hU6
    replace hO3 := hO3.upd0 hU6
    replace hc5 := cell_upd0 hU6 hc5
    refine Wa_one (i := 8) (listed' := tf 11 16) (by kernel_rfl) rfl (by kernel_rfl) ?_
    refine Ws_of_Wl ?_
    have hW : Upd No w3 w6 := hU6
    refine Wl_lit (pv := [(0, .int .u8 1), (1, .int .u8 2), (2, .int .u8 4), (3, .int .u8 8), (4, .int .u8 16), (5, .int .u8 32), (6, .int .u8 64), (7, .int .u8 128)]) (cs := [.int .u8 1, .int .u8 2, .int .u8 4, .int .u8 8, .int .u8 16, .int .u8 32, .int .u8 64, .int .u8 128]) Try.underlying23 Try.sizeOf5 Try.zeroValue5 (by decide) (by decide) (by simp only [List.map_toArray, List.map_cons, List.map_nil] <;> rfl) (by kernel_rfl) rfl (by decide) ?_
    intro B7 w7 hB7 hU7 hzz7 hs7
    have hzw7 := hU7.size
    replace HL1 := HL1.trans0 hU7
    replace hO3 := hO3.upd0 hU7
    replace hc5 := cell_upd0 hU7 hc5
    try replace hW := hW.trans0 hU7
    replace hs7 : Own w7 (Is B7) 5 1 (.slice (some ⟨B7, 0, none⟩) 8 8) 8 (ints .u8 [1, 2, 4, 8, 16, 32, 64, 128]) := hs7
    replace hs7 : Own w7 (Is B7) 5 1 (.slice (some ⟨B7, 0, none⟩) 8 8) 8 (ints .u8 [1, 2, 4, 8, 16, 32, 64, 128]) := hs7
    refine Wl_nil ?_
    intro w8 hS8
    have hX : Upd No w3 w8 := hW.trans0 hS8.upd
    refine ⟨fun _ => ⟨hX, ?_⟩, fun h => absurd h (by rw [show barOp _ 8 = false from by kernel_rfl]; simp)⟩
    have hU8 := hS8.upd
    have hzw8 := hU8.size
    replace HL1 := HL1.trans0 hU8
    replace hO3 := hO3.upd0 hU8
    replace hc5 := cell_upd0 hU8 hc5
    replace hs7 := hs7.upd0 hU8
    try replace hW := hW.trans0 hU8
    refine Wt_base hX ?_
    obtain ⟨ib9, io9, ha9, hib9, hc9⟩ := (hs7.sl).iat (i := (i % 8)) (by omega)
    replace hib9 : ib9 = B7 := hib9
    refine Tk 11 (tf 12 16) rfl (YI_v (v := .pointer (some ⟨ib9, io9 + (i % 8), none⟩)) rfl (fun w' hw' => r_idx (b := ib9) (off := io9) (m := 8) (c := 8) (o' := io9 + (i % 8)) Try.underlying23 Try.sizeOf5 (by rw [← ha9]; rfl) rfl (by omega) (by omega) (by omega))) ?_
    refine Tk 12 (tf 13 16) rfl (YI_v (v := .int .u8 ([1, 2, 4, 8, 16, 32, 64, 128].getD (i % 8) 0)) rfl (fun w' hw' => r_load Try.isAgg5 rfl (hw'.cellk hc9))) ?_
    rw [show ([1, 2, 4, 8, 16, 32, 64, 128].getD (i % 8) 0 : Int) = ((2 ^ (i % 8) : Nat) : Int) from bt_pow _ (by omega)]
    refine Tk 13 (tf 14 16) rfl (YI_v (v := .int .u8 (((u9 : Nat) : Int) + ((2 ^ (i % 8) : Nat) : Int))) rfl (fun w' hw' => r_add rfl rfl (wu8 (by omega) (by omega)))) ?_
    obtain ⟨g10, rfl, hg10⟩ := hO3.addr (by omega)
    replace hg10 : ((((((w.heap.size ≤ g10) ∧ g10 < w1.heap.size)) ∨ g10 = w2.heap.size)) ∧ g10 < w3.heap.size) := hg10
    have hc11 := hO3.cellAt (i := (i / 8)) (by omega)
    refine Tk 14 (tf 15 16) rfl (YI_v (v := .pointer (some ⟨g10, (i / 8), none⟩)) rfl (fun w' hw' => r_idx (b := g10) (off := 0) (m := (i / 8) + 1) (c := c3) (o' := (i / 8)) Try.underlying23 Try.sizeOf5 rfl rfl (by omega) (by omega) (by omega))) ?_
    intro w12 hU12
    have hzw12 := hU12.size
    replace HL1 := HL1.trans0 hU12
    replace hO3 := hO3.upd0 hU12
    replace hc11 := cell_upd0 hU12 hc11
    try replace hW := hW.trans0 hU12
    refine Wa_one (i := 15) (listed' := tf 16 16) (by kernel_rfl) rfl (by kernel_rfl) ?_
    refine Ws_of_Wl ?_
    have hW : Upd No w8 w12 := hU12
    refine Wl_storeo (i := (i / 8)) Try.sizeOf5 rfl rfl hO3 (by omega) ?_
    intro w13 hU13 hzz13 hO13
    clear hO3
    have hzw13 := hU13.size
    replace HL1 := HL1.trans1 hU13 (by show (w.heap.size ≤ g10) ∨ w.heap.size ≤ g10; omega)
    have hl_hO13 := ilen hO13.sl
    have hc_hO13 := hO13.sl.cap.1
    refine Wl_nil ?_
    intro w14 hS14
    refine ⟨fun h => absurd h (by rw [show barOp _ 15 = true from by kernel_rfl]; simp), fun _ => ⟨Upd No w14, ?_⟩⟩
    have hU14 := hS14.upd
    have hzw14 := hU14.size
    replace HL1 := HL1.trans0 hU14
    replace hO13 := hO13.upd0 hU14
    try replace hW := hW.trans0 hU14
    refine Wa_done (by kernel_rfl) ?_
    refine W_region ?_
    refine Wl_v (r_mv (v := .int .i64 ((i : Nat) : Int)) rfl) ?_
    refine Wl_v (r_add rfl rfl (wi64 (by omega) (by omega))) ?_
    refine Wl_v (r_as (v := .int .i64 (((i : Nat) : Int) + 1)) rfl) ?_
    refine Wl_nil ?_
    refine ⟨_, ?_, (i + 1), (some ⟨g10, 0, none⟩), c3, rfl, rfl, ⟨rfl, (Eq.trans (b := .slice (some ⟨g10, 0, none⟩) ((i / 8) + 1) c3) rfl (by rw [show (i + 1 + 7) / 8 = i / 8 + 1 from by omega])), (Eq.trans (b := .int .i64 (((i : Nat) : Int) + 1)) rfl (vint (by omega))), trivial⟩, (by omega), (by rw [show (i + 1 + 7) / 8 = i / 8 + 1 from by omega]; exact (hO13.weak (by intro g hg; have h3 : ((((((w.heap.size ≤ g) ∧ g < w1.heap.size)) ∨ g = w2.heap.size)) ∧ g < w3.heap.size) := hg; show w.heap.size ≤ g; omega)).icong (by exact hset)), HL1⟩
    omega
   ·replace hO3 := hO3.icong (ub_pad (by omega))
    have hbit : ¬ V / 2 ^ i % 2 = 1 := by rw [bl_get (by omega)] at q3; simpa using q3
    rw [decide_eq_false q3]
    refine W_cond_f rfl ?_
    refine W_skip ?_
    refine W_region ?_
    refine Wl_v (r_mv (v := .int .i64 ((i : Nat) : Int)) rfl) ?_
    refine Wl_v (r_add rfl rfl (wi64 (by omega) (by omega))) ?_
    refine Wl_v (r_as (v := .int .i64 (((i : Nat) : Int) + 1)) rfl) ?_
    refine Wl_nil ?_
    refine ⟨_, ?_, (i + 1), a3, c3, rfl, rfl, ⟨rfl, (Eq.trans (b := .slice a3 ((i / 8) + 1) c3) rfl (by rw [show (i + 1 + 7) / 8 = i / 8 + 1 from by omega])), (Eq.trans (b := .int .i64 (((i : Nat) : Int) + 1)) rfl (vint (by omega))), trivial⟩, (by omega), (by rw [show (i + 1 + 7) / 8 = i / 8 + 1 from by omega]; exact (hO3.weak (by intro g hg; have h3 : ((((((w.heap.size ≤ g) ∧ g < w1.heap.size)) ∨ g = w2.heap.size)) ∧ g < w3.heap.size) := hg; show w.heap.size ≤ g; omega)).icong (by rw [ub_nobit hbit])), HL1⟩
    omega
  ·have hi8 : (i + 7) / 8 = i / 8 + 1 := by omega
   rw [hi8] at hO
   rw [hi8]
   have hl_h8 := ilen hO.sl
   have hc_h8 := hO.sl.cap.1
   rw [decide_eq_false q2]
   refine W_cond_f rfl ?_
   refine W_skip ?_
   refine W_seq ?_
   refine W_region ?_
   refine Wl_v (r_mv (v := .slice a n c) rfl) ?_
   refine Wl_v (r_mv (v := .int .i64 ((i : Nat) : Int)) rfl) ?_
   refine Wl_idxr false encB_len (by decide) Try.underlying72 Try.sizeOf4 rfl rfl hs (by omega) (by omega) ?_
   intro ib15 io15 hc15
   try rw [Int.toNat_natCast] at hc15
   refine Wl_loadc (v := .bool (decide (((bl V n).getD i false) = true))) Try.isAgg4 rfl (hc15 0 (by decide)) ?_
   refine Wl_nil ?_
   by_cases q4 : ((bl V n).getD i false) = true
   ·have hbit : V / 2 ^ i % 2 = 1 := by rw [bl_get (by omega)] at q4; simpa using q4
    have hset := ub_bit (V := V) (i := i) (m := i / 8 + 1) rfl hbit
    have hpw := pw_bd8 (k := i % 8) (by omega)
    have hug := ub_get (W := V % 2 ^ i) (n := i / 8 + 1) (i := i / 8) (by omega)
    have hum : V % 2 ^ i / 256 ^ (i / 8) < 2 ^ (i % 8) := by
     have := hold_lt (V := V % 2 ^ i) (L := i) (Nat.mod_lt _ (Nat.pow_pos (by decide)))
     exact this
    have hu7 := pw_bd8 (k := i % 8) (by omega)
    have hu8 : 2 ^ (i % 8) ≤ 2 ^ 7 := Nat.pow_le_pow_right (by decide) (by omega)
    rw [decide_eq_true q4]
    refine W_cond_t rfl ?_
    refine W_drawt rfl (l0 := tf 0 16) (by kernel_rfl) ?_
    refine Tk 0 (tf 1 16) rfl (YI_v (v := .slice a9 (i / 8 + 1) c9) rfl (fun w' hw' => r_mv (v := .slice a9 (i / 8 + 1) c9) rfl)) ?_
    refine Tk 1 (tf 2 16) rfl (YI_v (v := .int .i64 ((i : Nat) : Int)) rfl (fun w' hw' => r_mv (v := .int .i64 ((i : Nat) : Int)) rfl)) ?_
    refine Tk 2 (tf 3 16) rfl (YI_v (v := .int .i64 (((i : Nat) : Int) / 8)) rfl (fun w' hw' => r_quo rfl rfl (by omega) (tq (by omega) (wi64 (by omega) (by omega))))) ?_
    rw [show (((i : Nat) : Int) / 8 : Int) = ((i / 8 : Nat) : Int) from by omega]
    refine Tk 3 (tf 4 16) rfl (YI_v (v := .slice a9 (i / 8 + 1) c9) rfl (fun w' hw' => r_mv (v := .slice a9 (i / 8 + 1) c9) rfl)) ?_
    refine Tk 4 (tf 5 16) rfl (YI_v (v := .int .i64 ((i : Nat) : Int)) rfl (fun w' hw' => r_mv (v := .int .i64 ((i : Nat) : Int)) rfl)) ?_
    refine Tk 5 (tf 6 16) rfl (YI_v (v := .int .i64 (((i : Nat) : Int) / 8)) rfl (fun w' hw' => r_quo rfl rfl (by omega) (tq (by omega) (wi64 (by omega) (by omega))))) ?_
    rw [show (((i : Nat) : Int) / 8 : Int) = ((i / 8 : Nat) : Int) from by omega]
    obtain ⟨ib16, io16, ha16, hib16, hc16⟩ := (hO.sl).iat (i := (i / 8)) (by omega)
    replace hib16 : ((w.heap.size ≤ ib16) ∧ ib16 < w1.heap.size) := hib16
    refine Tk 6 (tf 7 16) rfl (YI_v (v := .pointer (some ⟨ib16, io16 + (i / 8), none⟩)) rfl (fun w' hw' => r_idx (b := ib16) (off := io16) (m := i / 8 + 1) (c := c9) (o' := io16 + (i / 8)) Try.underlying23 Try.sizeOf5 (by rw [← ha16]; rfl) rfl (by omega) (by omega) (by omega))) ?_
    refine Tk 7 (tf 8 16) rfl (YI_v (v := .int .u8 ((ub (V % 2 ^ i) (i / 8 + 1)).getD (i / 8) 0)) rfl (fun w' hw' => r_load Try.isAgg5 rfl (hw'.cellk hc16))) ?_
    obtain ⟨u9, hu9⟩ : ∃ u9 : Nat, V % 2 ^ i / 256 ^ (i / 8) % 256 = u9 := ⟨_, rfl⟩
    rw [hu9] at hset hug
    have hu9b : u9 < 2 ^ (i % 8) := by have := Nat.mod_le (V % 2 ^ i / 256 ^ (i / 8)) 256; omega
    rw [show ((ub (V % 2 ^ i) (i / 8 + 1)).getD (i / 8) 0 : Int) = ((u9 : Nat) : Int) from hug]
    refine Tk 9 (#[true, true, true, true, true, true, true, true, false, true, false, false, false, false, false, false]) rfl (YI_v (v := .int .i64 ((i : Nat) : Int)) rfl (fun w' hw' => r_mv (v := .int .i64 ((i : Nat) : Int)) rfl)) ?_
    refine Tk 10 (#[true, true, true, true, true, true, true, true, false, true, true, false, false, false, false, false]) rfl (YI_v (v := .int .i64 (((i : Nat) : Int) % 8)) rfl (fun w' hw' => r_rem rfl rfl (by omega) (tr (by omega)))) ?_
    rw [show (((i : Nat) : Int) % 8 : Int) = ((i % 8 : Nat) : Int) from by omega]
    intro w17 hU17
    have hzw17 := hU17.size
    replace hO := hO.upd0 hU17
    replace HL1 := HL1.trans0 hU17
    replace hc16 := cell_upd0 hU17 hc16
    refine Wa_one (i := 8) (listed' := tf 11 16) (by kernel_rfl) rfl (by kernel_rfl) ?_
    refine Ws_of_Wl ?_
    have hW : Upd No w1 w17 := hU17
    refine Wl_lit (pv := [(0, .int .u8 1), (1, .int .u8 2), (2, .int .u8 4), (3, .int .u8 8), (4, .int .u8 16), (5, .int .u8 32), (6, .int .u8 64), (7, .int .u8 128)]) (cs := [.int .u8 1, .int .u8 2, .int .u8 4, .int .u8 8, .int .u8 16, .int .u8 32, .int .u8 64, .int .u8 128]) Try.underlying23 Try.sizeOf5 Try.zeroValue5 (by decide) (by decide) (by simp only [List.map_toArray, List.map_cons, List.map_nil] <;> rfl) (by kernel_rfl) rfl (by decide) ?_
    intro B18 w18 hB18 hU18 hzz18 hs18
    have hzw18 := hU18.size
    replace hO := hO.upd0 hU18
    replace HL1 := HL1.trans0 hU18
    replace hc16 := cell_upd0 hU18 hc16
    try replace hW := hW.trans0 hU18
    replace hs18 : Own w18 (Is B18) 5 1 (.slice (some ⟨B18, 0, none⟩) 8 8) 8 (ints .u8 [1, 2, 4, 8, 16, 32, 64, 128]) := hs18
    replace hs18 : Own w18 (Is B18) 5 1 (.slice (some ⟨B18, 0, none⟩) 8 8) 8 (ints .u8 [1, 2, 4, 8, 16, 32, 64, 128]) := hs18
    refine Wl_nil ?_
    intro w19 hS19
    have hX : Upd No w1 w19 := hW.trans0 hS19.upd
    refine ⟨fun _ => ⟨hX, ?_⟩, fun h => absurd h (by rw [show barOp _ 8 = false from by kernel_rfl]; simp)⟩
    have hU19 := hS19.upd
    have hzw19 := hU19.size
    replace hO := hO.upd0 hU19
    replace HL1 := HL1.trans0 hU19
    replace hc16 := cell_upd0 hU19 hc16
    replace hs18 := hs18.upd0 hU19
    try replace hW := hW.trans0 hU19
    refine Wt_base hX ?_
    obtain ⟨ib20, io20, ha20, hib20, hc20⟩ := (hs18.sl).iat (i := (i % 8)) (by omega)
    replace hib20 : ib20 = B18 := hib20
    refine Tk 11 (tf 12 16) rfl (YI_v (v := .pointer (some ⟨ib20, io20 + (i % 8), none⟩)) rfl (fun w' hw' => r_idx (b := ib20) (off := io20) (m := 8) (c := 8) (o' := io20 + (i % 8)) Try.underlying23 Try.sizeOf5 (by rw [← ha20]; rfl) rfl (by omega) (by omega) (by omega))) ?_
    refine Tk 12 (tf 13 16) rfl (YI_v (v := .int .u8 ([1, 2, 4, 8, 16, 32, 64, 128].getD (i % 8) 0)) rfl (fun w' hw' => r_load Try.isAgg5 rfl (hw'.cellk hc20))) ?_
    rw [show ([1, 2, 4, 8, 16, 32, 64, 128].getD (i % 8) 0 : Int) = ((2 ^ (i % 8) : Nat) : Int) from bt_pow _ (by omega)]
    refine Tk 13 (tf 14 16) rfl (YI_v (v := .int .u8 (((u9 : Nat) : Int) + ((2 ^ (i % 8) : Nat) : Int))) rfl (fun w' hw' => r_add rfl rfl (wu8 (by omega) (by omega)))) ?_
    obtain ⟨g21, rfl, hg21⟩ := hO.addr (by omega)
    replace hg21 : ((w.heap.size ≤ g21) ∧ g21 < w1.heap.size) := hg21
    have hc22 := hO.cellAt (i := (i / 8)) (by omega)
    refine Tk 14 (tf 15 16) rfl (YI_v (v := .pointer (some ⟨g21, (i / 8), none⟩)) rfl (fun w' hw' => r_idx (b := g21) (off := 0) (m := i / 8 + 1) (c := c9) (o' := (i / 8)) Try.underlying23 Try.sizeOf5 rfl rfl (by omega) (by omega) (by omega))) ?_
    intro w23 hU23
    have hzw23 := hU23.size
    replace hO := hO.upd0 hU23
    replace HL1 := HL1.trans0 hU23
    replace hc22 := cell_upd0 hU23 hc22
    try replace hW := hW.trans0 hU23
    refine Wa_one (i := 15) (listed' := tf 16 16) (by kernel_rfl) rfl (by kernel_rfl) ?_
    refine Ws_of_Wl ?_
    have hW : Upd No w19 w23 := hU23
    refine Wl_storeo (i := (i / 8)) Try.sizeOf5 rfl rfl hO (by omega) ?_
    intro w24 hU24 hzz24 hO24
    clear hO
    have hzw24 := hU24.size
    replace HL1 := HL1.trans1 hU24 (by show (w.heap.size ≤ g21) ∨ w.heap.size ≤ g21; omega)
    have hl_hO24 := ilen hO24.sl
    have hc_hO24 := hO24.sl.cap.1
    refine Wl_nil ?_
    intro w25 hS25
    refine ⟨fun h => absurd h (by rw [show barOp _ 15 = true from by kernel_rfl]; simp), fun _ => ⟨Upd No w25, ?_⟩⟩
    have hU25 := hS25.upd
    have hzw25 := hU25.size
    replace HL1 := HL1.trans0 hU25
    replace hO24 := hO24.upd0 hU25
    try replace hW := hW.trans0 hU25
    refine Wa_done (by kernel_rfl) ?_
    refine W_region ?_
    refine Wl_v (r_mv (v := .int .i64 ((i : Nat) : Int)) rfl) ?_
    refine Wl_v (r_add rfl rfl (wi64 (by omega) (by omega))) ?_
    refine Wl_v (r_as (v := .int .i64 (((i : Nat) : Int) + 1)) rfl) ?_
    refine Wl_nil ?_
    refine ⟨_, ?_, (i + 1), (some ⟨g21, 0, none⟩), c9, rfl, rfl, ⟨rfl, (Eq.trans (b := .slice (some ⟨g21, 0, none⟩) (i / 8 + 1) c9) rfl (by rw [show (i + 1 + 7) / 8 = i / 8 + 1 from by omega])), (Eq.trans (b := .int .i64 (((i : Nat) : Int) + 1)) rfl (vint (by omega))), trivial⟩, (by omega), (by rw [show (i + 1 + 7) / 8 = i / 8 + 1 from by omega]; exact (hO24.weak (by intro g hg; have h3 : ((w.heap.size ≤ g) ∧ g < w1.heap.size) := hg; show w.heap.size ≤ g; omega)).icong (by exact hset)), HL1⟩
    omega
   ·have hbit : ¬ V / 2 ^ i % 2 = 1 := by rw [bl_get (by omega)] at q4; simpa using q4
    rw [decide_eq_false q4]
    refine W_cond_f rfl ?_
    refine W_skip ?_
    refine W_region ?_
    refine Wl_v (r_mv (v := .int .i64 ((i : Nat) : Int)) rfl) ?_
    refine Wl_v (r_add rfl rfl (wi64 (by omega) (by omega))) ?_
    refine Wl_v (r_as (v := .int .i64 (((i : Nat) : Int) + 1)) rfl) ?_
    refine Wl_nil ?_
    refine ⟨_, ?_, (i + 1), a9, c9, rfl, rfl, ⟨rfl, (Eq.trans (b := .slice a9 (i / 8 + 1) c9) rfl (by rw [show (i + 1 + 7) / 8 = i / 8 + 1 from by omega])), (Eq.trans (b := .int .i64 (((i : Nat) : Int) + 1)) rfl (vint (by omega))), trivial⟩, (by omega), (by rw [show (i + 1 + 7) / 8 = i / 8 + 1 from by omega]; exact (hO.weak (by intro g hg; have h3 : ((w.heap.size ≤ g) ∧ g < w1.heap.size) := hg; show w.heap.size ≤ g; omega)).icong (by rw [ub_nobit hbit])), HL1⟩
    omega
 ·rw [decide_eq_false q1]
  obtain rfl : n = i := by omega
  refine W_cond_f rfl ?_
  refine W_exit ?_
  refine W_seq ?_
  refine W_region ?_
  refine Wl_v (r_mv (v := .slice a9 ((n + 7) / 8) c9) rfl) ?_
  refine Wl_v (r_as (v := .slice a9 ((n + 7) / 8) c9) rfl) ?_
  refine Wl_nil ?_
  refine W_ret ?_
  refine ret_end (v := .slice a9 ((n + 7) / 8) c9) rfl (res1 Try.results70 rfl) ?_
  exact ⟨_, rfl, a9, c9, rfl, (hO), HU⟩

end Go.Proofs.Ytilegaokfamfnaa
