/-
  Several texts of this project, put together.
-/
import Derived.Test.YtdppageondgjkaaGreatZC
import Derived.Test.YtdppageondgjkaaGreatCB
set_option linter.unusedVariables false
set_option linter.unusedSimpArgs false
set_option maxRecDepth 100000
namespace Go.Proofs.YtdppageondgjkaaGreat
open Go.Fw _root_.Go.Proofs.Tryz
theorem rbits_spec {x k : Nat} (w : World) (hbd : x < 18446744073709551616 ∧ k ≤ 64) :
  Calls Tryz.prog 76 #[.int .u64 ((x : Nat) : Int), .int .i64 ((k : Nat) : Int)] w (Ret fun v w' => ∃ (a' : Option Addr) (c' : Nat), v = .slice a' k c' ∧ Own w' (fun g => w.heap.size ≤ g) 4 1 (.slice a' k c') k (rows encB (bl x k)) ∧ Upd No w w') := by
 have HU := Upd.rno w
 refine calls_of_W func76 rfl ntmps76 (by simp) ?_
 refine W_seq (W_region ?_)
 refine Was (.slice none 0 0) ?_
 refine Wl_nil (W_seq (W_region ?_))
 refine Was (.slice none 0 0) ?_
 refine Wl_nil (W_seq (W_seq (W_region ?_)))
 refine Was (.int .i64 0) ?_
 refine Wl_nil (W_block ?_)
 refine W_loop (fun mu ρ ds w' => ∃ (i : Nat) (a9 : Option Addr) (c9 : Nat), k - i = mu ∧ ds = [] ∧ Liv ρ [(0, .int .u64 ((x / 2 ^ i : Nat) : Int)), (1, .int .i64 ((k : Nat) : Int)), (5, .slice a9 i c9), (6, .int .i64 ((i : Nat) : Int))] ∧ i ≤ k ∧ Own w' (fun g => w.heap.size ≤ g) 4 1 (.slice a9 i c9) i (rows encB (bl x i)) ∧ Upd (fun g => w.heap.size ≤ g) w w') _ ⟨0, none, 0, rfl, rfl, ⟨(Eq.trans (b := .int .u64 ((x : Nat) : Int)) rfl (vint (by simp))), rfl, (by first | rfl | exact vint (by omega) | exact vint (by simp)), (by first | rfl | exact vint (by omega) | exact vint (by simp)), trivial⟩, (by omega), (by simpa [bl, tabn, rows] using Own.nil _ _ _ _), Upd.refl _ _⟩ ?_
 rintro m1 ρ1 ds1 w1 ⟨i, a9, c9, rfl, rfl, hl1, hi, hO, hU1⟩
 obtain ⟨ρ1x, rfl⟩ : ∃ ρx, ρ1 = upds ρx [(0, .int .u64 ((x / 2 ^ i : Nat) : Int)), (1, .int .i64 ((k : Nat) : Int)), (5, .slice a9 i c9), (6, .int .i64 ((i : Nat) : Int))] := ⟨_, upds_self hl1⟩
 clear hl1
 have hzw1 := hU1.size
 replace HU := HU.trans hU1 (by intro x hx; have hx2 : w.heap.size ≤ x := hx; show (False) ∨ w.heap.size ≤ x; omega)
 have HL1 := hU1
 refine W_seq (W_seq (W_region ?_))
 refine Wmv (.int .i64 ((i : Nat) : Int)) ?_
 refine Wmv (.int .i64 ((k : Nat) : Int)) ?_
 refine Wl_v (r_lt rfl rfl) ?_
 refine Wl_nil ?_
 by_cases q1 : ((i : Nat) : Int) < ((k : Nat) : Int)
 ·have hxi := Nat.div_le_self x (2 ^ i)
  obtain ⟨y, hy⟩ : ∃ y : Nat, x / 2 ^ i = y := ⟨_, rfl⟩
  rw [hy]
  rw [hy] at hxi
  replace hO := hO.tight
  rw [decide_eq_true q1]
  refine W_cond_t rfl ?_
  refine W_skip (W_seq (W_block (W_seq (W_region ?_))))
  refine Wmv (.slice a9 i c9) ?_
  refine Wmv (.int .u64 ((y : Nat) : Int)) ?_
  refine Wl_v (r_rem rfl rfl (by omega) (tr (by omega))) ?_
  refine Wl_v (r_eq rfl rfl) ?_
  by_cases q2 : (((y : Nat) : Int) % 2) = 1
  ·rw [decide_eq_true q2]
   refine Wl_lit (pv := [(0, .bool true)]) (cs := [.bool true]) underlying117 sizeOf4 zeroValue4 (by decide) (by decide) (by simp only [List.map_toArray, List.map_cons, List.map_nil] <;> rfl) (by kernel_rfl) rfl (by decide) ?_
   intro B2 w2 hB2 hU2 hzz2 hs2
   have hzw2 := hU2.size
   replace hO := hO.upd0 hU2
   replace HL1 := HL1.trans0 hU2
   replace hs2 : Own w2 (Is B2) 4 1 (.slice (some ⟨B2, 0, none⟩) 1 1) 1 (rows encB [true]) := hs2
   refine Wl_appendc (cs3 := rows encB ((bl x i) ++ [true])) (tot := i + 1) (by first | rfl | exact (rows_app _ _).symm | simp) underlying117 (ti := Tryz.t4) (z := .bool false) (sz := 1) (by' := 1) rfl rfl rfl rfl rfl (by decide) rfl hO rfl hs2.sl (rows_one encB_one _) (by omega) (by simp only [maxLen]; omega) (by omega) ?_
   intro a3 c3 w3 hU3 hzz3 hO3
   clear hO
   have hzw3 := hU3.size
   replace HL1 := HL1.trans hU3 (by intro x hx; have hx2 : ((w.heap.size ≤ x) ∧ x < w1.heap.size) := hx; show (w.heap.size ≤ x) ∨ w.heap.size ≤ x; omega)
   replace hO3 := hO3.tight
   have hl_hO3 := rlen encB_len (by decide) hO3.sl
   have hc_hO3 := hO3.sl.cap.1
   refine Was (.slice a3 (i + 1) c3) ?_
   refine Wl_nil (W_region ?_)
   refine Wmv (.int .u64 ((y : Nat) : Int)) ?_
   refine Wl_v (r_quo rfl rfl (by omega) (tq (by omega) (wu64 (by omega) (by omega)))) ?_
   refine Was (.int .u64 (((y : Nat) : Int) / 2)) ?_
   refine Wl_nil (W_region ?_)
   refine Wmv (.int .i64 ((i : Nat) : Int)) ?_
   refine Wl_v (r_add rfl rfl (wi64 (by omega) (by omega))) ?_
   refine Was (.int .i64 (((i : Nat) : Int) + 1)) ?_
   refine Wl_nil ?_
   refine ⟨_, ?_, (i + 1), a3, c3, rfl, rfl, ⟨(Eq.trans (b := .int .u64 (((y : Nat) : Int) / 2)) rfl (vint (by rw [Nat.pow_succ, ← Nat.div_div_eq_div_mul, hy]; omega))), rfl, (by first | rfl | exact vint (by omega) | exact vint (by simp)), (Eq.trans (b := .int .i64 (((i : Nat) : Int) + 1)) rfl (vint (by omega))), trivial⟩, (by omega), ((hO3.weak (by intro g hg; have h3 : ((((((w.heap.size ≤ g) ∧ g < w1.heap.size)) ∨ g = w2.heap.size)) ∧ g < w3.heap.size) := hg; show w.heap.size ≤ g; omega)).rcong (by rw [bl_succ, hy, decide_eq_true (by omega)])), HL1⟩
   omega
  rw [decide_eq_false q2]
  refine Wl_lit (pv := [(0, .bool false)]) (cs := [.bool false]) underlying117 sizeOf4 zeroValue4 (by decide) (by decide) (by simp only [List.map_toArray, List.map_cons, List.map_nil] <;> rfl) (by kernel_rfl) rfl (by decide) ?_
  intro B4 w4 hB4 hU4 hzz4 hs4
  have hzw4 := hU4.size
  replace hO := hO.upd0 hU4
  replace HL1 := HL1.trans0 hU4
  replace hs4 : Own w4 (Is B4) 4 1 (.slice (some ⟨B4, 0, none⟩) 1 1) 1 (rows encB [false]) := hs4
  refine Wl_appendc (cs3 := rows encB ((bl x i) ++ [false])) (tot := i + 1) (by first | rfl | exact (rows_app _ _).symm | simp) underlying117 (ti := Tryz.t4) (z := .bool false) (sz := 1) (by' := 1) rfl rfl rfl rfl rfl (by decide) rfl hO rfl hs4.sl (rows_one encB_one _) (by omega) (by simp only [maxLen]; omega) (by omega) ?_
  intro a5 c5 w5 hU5 hzz5 hO5
  clear hO
  have hzw5 := hU5.size
  replace HL1 := HL1.trans hU5 (by intro x hx; have hx2 : ((w.heap.size ≤ x) ∧ x < w1.heap.size) := hx; show (w.heap.size ≤ x) ∨ w.heap.size ≤ x; omega)
  replace hO5 := hO5.tight
  have hl_hO5 := rlen encB_len (by decide) hO5.sl
  have hc_hO5 := hO5.sl.cap.1
  refine Was (.slice a5 (i + 1) c5) ?_
  refine Wl_nil (W_region ?_)
  refine Wmv (.int .u64 ((y : Nat) : Int)) ?_
  refine Wl_v (r_quo rfl rfl (by omega) (tq (by omega) (wu64 (by omega) (by omega)))) ?_
  refine Was (.int .u64 (((y : Nat) : Int) / 2)) ?_
  refine Wl_nil (W_region ?_)
  refine Wmv (.int .i64 ((i : Nat) : Int)) ?_
  refine Wl_v (r_add rfl rfl (wi64 (by omega) (by omega))) ?_
  refine Was (.int .i64 (((i : Nat) : Int) + 1)) ?_
  refine Wl_nil ?_
  refine ⟨_, ?_, (i + 1), a5, c5, rfl, rfl, ⟨(Eq.trans (b := .int .u64 (((y : Nat) : Int) / 2)) rfl (vint (by rw [Nat.pow_succ, ← Nat.div_div_eq_div_mul, hy]; omega))), rfl, (by first | rfl | exact vint (by omega) | exact vint (by simp)), (Eq.trans (b := .int .i64 (((i : Nat) : Int) + 1)) rfl (vint (by omega))), trivial⟩, (by omega), ((hO5.weak (by intro g hg; have h3 : ((((((w.heap.size ≤ g) ∧ g < w1.heap.size)) ∨ g = w4.heap.size)) ∧ g < w5.heap.size) := hg; show w.heap.size ≤ g; omega)).rcong (by rw [bl_succ, hy, decide_eq_false (by omega)])), HL1⟩
  omega
 rw [decide_eq_false q1]
 obtain rfl : k = i := by omega
 refine W_cond_f rfl ?_
 refine W_exit ?_
 refine W_seq (W_region ?_)
 refine Wmv (.slice a9 k c9) ?_
 refine Was (.slice a9 k c9) ?_
 refine Wl_nil ?_
 refine W_ret ?_
 refine ret_end (v := .slice a9 k c9) rfl (res1 results76 rfl) ?_
 exact ⟨_, rfl, a9, c9, rfl, (hO), HU⟩
theorem rrow_spec {a2 : Option Addr} {m d : Nat} {b : List Int} (w : World) (hsb : Sl w (fun g => g < w.heap.size) 1 (.slice a2 m d) m (ints .u8 b)) (hb : Byt b) (hm : m ≤ 100000) :
  Calls Tryz.prog 126 #[.slice a2 m d] w (Ret fun v w' => ∃ (a' : Option Addr) (c' : Nat), v = .slice a' (8 * m) c' ∧ Own w' (fun g => w.heap.size ≤ g) 4 1 (.slice a' (8 * m) c') (8 * m) (rows encB (bl (wn b) (8 * m))) ∧ Upd No w w') := by
 have HU := Upd.rno w
 have hl_hsb := ilen hsb
 have hc_hsb := hsb.cap.1
 refine calls_of_W func126 rfl ntmps126 (by simp) ?_
 refine W_seq (W_region ?_)
 refine Was (.slice none 0 0) ?_
 refine Wl_nil (W_seq (W_region ?_))
 refine Was (.slice none 0 0) ?_
 refine Wl_nil (W_seq (W_seq (W_region ?_)))
 refine Was (.int .i64 0) ?_
 refine Wl_nil (W_block ?_)
 refine W_loop (fun mu ρ ds w' => ∃ (k : Nat) (a9 : Option Addr) (c9 : Nat), m - k = mu ∧ ds = [] ∧ Liv ρ [(0, .slice a2 m d), (3, .slice a9 (8 * k) c9), (4, .int .i64 ((k : Nat) : Int))] ∧ k ≤ m ∧ Own w' (fun g => w.heap.size ≤ g) 4 1 (.slice a9 (8 * k) c9) (8 * k) (rows encB (bl (wn b) (8 * k))) ∧ Upd (fun g => w.heap.size ≤ g) w w') _ ⟨0, none, 0, rfl, rfl, ⟨rfl, (by first | rfl | exact vint (by omega) | exact vint (by simp)), (by first | rfl | exact vint (by omega) | exact vint (by simp)), trivial⟩, (by omega), (by simpa [bl, tabn, rows] using Own.nil _ _ _ _), Upd.refl _ _⟩ ?_
 rintro m1 ρ1 ds1 w1 ⟨k, a9, c9, rfl, rfl, hl1, hk, hO, hU1⟩
 obtain ⟨ρ1x, rfl⟩ : ∃ ρx, ρ1 = upds ρx [(0, .slice a2 m d), (3, .slice a9 (8 * k) c9), (4, .int .i64 ((k : Nat) : Int))] := ⟨_, upds_self hl1⟩
 clear hl1
 have hzw1 := hU1.size
 replace hsb := hsb.upd hU1 (by intro x h1 h2; have h3 : x < w.heap.size := h1; have h4 : w.heap.size ≤ x := h2; omega)
 replace HU := HU.trans hU1 (by intro x hx; have hx2 : w.heap.size ≤ x := hx; show (False) ∨ w.heap.size ≤ x; omega)
 have HL1 := hU1
 refine W_seq (W_seq (W_region ?_))
 refine Wmv (.int .i64 ((k : Nat) : Int)) ?_
 refine Wmv (.slice a2 m d) ?_
 refine Wl_v (r_len underlying32 rfl) ?_
 refine Wl_v (r_lt rfl rfl) ?_
 refine Wl_nil ?_
 by_cases q1 : ((k : Nat) : Int) < ((m : Nat) : Int)
 ·have hbk := byt_get hb k
  replace hO := hO.tight
  rw [decide_eq_true q1]
  refine W_cond_t rfl ?_
  refine W_skip (W_seq (W_block (W_region ?_)))
  refine Wmv (.slice a9 (8 * k) c9) ?_
  refine Wmv (.slice a2 m d) ?_
  refine Wmv (.int .i64 ((k : Nat) : Int)) ?_
  refine Wl_idxi underlying32 sizeOf5 rfl rfl hsb (by omega) (by omega) ?_
  intro ib2 io2 hc2
  rw [Int.toNat_natCast] at hc2
  refine Wl_loadc isAgg5 rfl hc2 ?_
  refine Wl_v (r_cvt underlying5 underlying76 rfl (wu64 (by omega) (by omega))) ?_
  refine Wl_call (r_call2 rfl call76 (v0 := .int .u64 (((b.getD k 0).toNat : Nat) : Int)) (v1 := .int .i64 ((8 : Nat) : Int)) (Eq.trans (b := .int .u64 (b.getD k 0)) rfl (vint (by omega))) (Eq.trans (b := .int .i64 8) rfl rfl)) (rbits_spec _ (by omega)) ?_
  rintro v w3 ⟨a3, c3, rfl, hO3, hU3⟩
  have hzw3 := hU3.size
  replace hO := hO.upd0 hU3
  replace HL1 := HL1.trans0 hU3
  replace hO3 := hO3.tight
  have hl_hO3 := rlen encB_len (by decide) hO3.sl
  have hc_hO3 := hO3.sl.cap.1
  refine Wl_appendc (cs3 := rows encB ((bl (wn b) (8 * k)) ++ (bl ((b.getD k 0).toNat) 8))) (tot := (8 * k) + 8) (by first | rfl | exact (rows_app _ _).symm | simp) underlying117 (ti := Tryz.t4) (z := .bool false) (sz := 1) (by' := 1) rfl rfl rfl rfl rfl (by decide) rfl hO rfl hO3.sl (rows_one encB_one _) (by omega) (by simp only [maxLen]; omega) (by omega) ?_
  intro a4 c4 w4 hU4 hzz4 hO4
  clear hO
  have hzw4 := hU4.size
  replace HL1 := HL1.trans hU4 (by intro x hx; have hx2 : ((w.heap.size ≤ x) ∧ x < w1.heap.size) := hx; show (w.heap.size ≤ x) ∨ w.heap.size ≤ x; omega)
  replace hO4 := hO4.tight
  have hl_hO4 := rlen encB_len (by decide) hO4.sl
  have hc_hO4 := hO4.sl.cap.1
  refine Was (.slice a4 ((8 * k) + 8) c4) ?_
  refine Wl_nil (W_region ?_)
  refine Wmv (.int .i64 ((k : Nat) : Int)) ?_
  refine Wl_v (r_add rfl rfl (wi64 (by omega) (by omega))) ?_
  refine Was (.int .i64 (((k : Nat) : Int) + 1)) ?_
  refine Wl_nil ?_
  refine ⟨_, ?_, (k + 1), a4, c4, rfl, rfl, ⟨rfl, rfl, (Eq.trans (b := .int .i64 (((k : Nat) : Int) + 1)) rfl (vint (by omega))), trivial⟩, (by omega), (by rw [show 8 * (k + 1) = 8 * k + 8 from by omega]; exact (hO4.weak (by intro g hg; have h3 : ((((((w.heap.size ≤ g) ∧ g < w1.heap.size)) ∨ g = w3.heap.size)) ∧ g < w4.heap.size) := hg; show w.heap.size ≤ g; omega)).rcong (bl_byte hb (by omega))), HL1⟩
  omega
 rw [decide_eq_false q1]
 obtain rfl : m = k := by omega
 refine W_cond_f rfl ?_
 refine W_exit ?_
 refine W_seq (W_region ?_)
 refine Wmv (.slice a9 (8 * m) c9) ?_
 refine Was (.slice a9 (8 * m) c9) ?_
 refine Wl_nil ?_
 refine W_ret ?_
 refine ret_end (v := .slice a9 (8 * m) c9) rfl (res1 results126 rfl) ?_
 exact ⟨_, rfl, a9, c9, rfl, (hO), HU⟩
theorem _root_.Go.Fw.Sl.rcong2 {α : Type} {enc : α → List Value} {w : World} {R : Nat → Prop} {sz n : Nat} {v : Value} {l l' : List α} (h : Sl w R sz v n (rows enc l)) (e : l = l') : Sl w R sz v n (rows enc l') := e ▸ h
theorem rbwd_ok {a2 : Option Addr} {m d : Nat} {b : List Int} (w : World) (hsb : Sl w (fun g => g < w.heap.size) 1 (.slice a2 m d) m (ints .u8 b)) (hb : Byt b) (hm : m ≤ 100000) (hc : Cl b) :
  Calls Tryz.prog 113 #[.slice a2 m d] w (Ret fun v w' => ∃ (rr : Nat) (a' : Option Addr) (c' : Nat), v = .tuple #[.pointer (some ⟨rr, 0, none⟩), .int .i64 0] ∧ Blk w' rr [.slice a' (tbt b) c', .int .i64 0] ∧ Sl w' (fun g => w.heap.size ≤ g) 1 (.slice a' (tbt b) c') (tbt b) (rows encB (bl (wn b) (tbt b))) ∧ Upd No w w') := by
 have HU := Upd.rno w
 have hl_hsb := ilen hsb
 have hc_hsb := hsb.cap.1
 have hcl := cl_bd hb hc
 have hc1 := hc.1
 refine calls_of_W func113 rfl ntmps113 (by simp) ?_
 refine W_seq (W_region ?_)
 refine Was (.pointer none) ?_
 refine Was (.int .i64 0) ?_
 refine Wl_nil (W_seq (W_region ?_))
 refine Wmv (.slice a2 m d) ?_
 refine Wl_call (r_call1 rfl call126 rfl) (rrow_spec _ hsb.any hb (by omega)) ?_
 rintro v w1 ⟨a1, c1, rfl, hO1, hU1⟩
 have hzw1 := hU1.size
 replace hsb := hsb.upd0 hU1
 replace HU := HU.trans0 hU1
 replace hO1 := hO1.tight
 have hl_hO1 := rlen encB_len (by decide) hO1.sl
 have hc_hO1 := hO1.sl.cap.1
 refine Was (.slice a1 (8 * m) c1) ?_
 refine Wl_nil (W_seq (W_seq (W_region ?_)))
 refine Wmv (.slice a2 m d) ?_
 refine Wl_v (r_len underlying32 rfl) ?_
 refine Wl_v (r_eq rfl rfl) ?_
 refine Wmv (.bool (decide (((m : Nat) : Int) = 0))) ?_
 have q1 : ¬ (((m : Nat) : Int) = 0) := (by omega)
 rw [decide_eq_false q1]
 refine Wl_guard_t rfl ?_
 refine Wmv (.slice a2 m d) ?_
 refine Wl_guard_t rfl ?_
 refine Wmv (.slice a2 m d) ?_
 refine Wl_guard_t rfl ?_
 refine Wl_v (r_len underlying32 rfl) ?_
 refine Wl_guard_t rfl ?_
 refine Wl_v (r_sub rfl rfl (wi64 (by omega) (by omega))) ?_
 refine Wl_guard_t rfl ?_
 refine Wl_idxi underlying32 sizeOf5 rfl rfl hsb (by omega) (by omega) ?_
 intro ib2 io2 hc2
 refine Wl_guard_t rfl ?_
 refine Wl_loadc isAgg5 rfl hc2 ?_
 refine Wl_guard_t rfl ?_
 refine Wl_v (r_eq rfl rfl) ?_
 refine Wl_v (r_pick_f (v := .bool (decide ((b.getD (((m : Nat) : Int) - 1).toNat 0) = 0))) rfl rfl) ?_
 refine Wl_nil ?_
 have q2 : ¬ ((b.getD (((m : Nat) : Int) - 1).toNat 0) = 0) := (by rw [show (((m : Nat) : Int) - 1).toNat = m - 1 from by omega]; have := hc.2; rwa [show b.length = m from by omega] at this)
 rw [decide_eq_false q2]
 refine W_cond_f rfl ?_
 refine W_skip (W_seq (W_block ?_))
 refine W_loop (fun mu ρ ds w' => ∃ (q : Nat), q = mu ∧ ds = [] ∧ Liv ρ [(4, .slice a1 q c1)] ∧ tbt b + 1 ≤ q ∧ q ≤ 8 * m ∧ wn b < 2 ^ q ∧ Sl w' (fun g => ((w.heap.size ≤ g) ∧ g < w1.heap.size)) 1 (.slice a1 q c1) q (rows encB (bl (wn b) q)) ∧ Upd No w1 w') _ ⟨(8 * m), rfl, rfl, ⟨(by first | rfl | exact vint (by omega) | exact vint (by simp)), trivial⟩, (by omega), (by omega), (by rw [← p256]; have := wn_lt hb; rwa [show b.length = m from by omega] at this), hO1.sl, Upd.refl _ _⟩ ?_
 rintro m3 ρ3 ds3 w3 ⟨q, rfl, rfl, hl3, hq0, hq8, hlt, hR9, hU3⟩
 obtain ⟨ρ3x, rfl⟩ : ∃ ρx, ρ3 = upds ρx [(4, .slice a1 q c1)] := ⟨_, upds_self hl3⟩
 clear hl3
 have hzw3 := hU3.size
 replace HU := HU.trans0 hU3
 have HL3 := hU3
 refine W_seq (W_seq (W_region ?_))
 refine Wmv (.slice a1 q c1) ?_
 refine Wmv (.slice a1 q c1) ?_
 refine Wl_v (r_len underlying117 rfl) ?_
 refine Wl_v (r_sub rfl rfl (wi64 (by omega) (by omega))) ?_
 refine Wl_idxr false encB_len (by decide) underlying117 sizeOf4 rfl rfl hR9 (by omega) (by omega) ?_
 intro ib4 io4 hc4
 refine Wl_loadc (v := .bool (decide (((bl (wn b) q).getD (((q : Nat) : Int) - 1).toNat false) = true))) isAgg4 rfl (hc4 0 (by decide)) ?_
 refine Wl_v (r_not rfl) ?_
 refine Wl_nil ?_
 by_cases q3 : ((bl (wn b) q).getD (((q : Nat) : Int) - 1).toNat false) = true
 ·have hq1 : (((q : Nat) : Int) - 1).toNat = q - 1 := by omega
  have hbit : wn b / 2 ^ (q - 1) % 2 = 1 := by rw [hq1, bl_get (by omega)] at q3; simpa using q3
  have hqe : q - 1 = tbt b := by
   have h5 := top_bit hlt (by omega) hbit
   exact tb_uniq h5 (by rwa [show q - 1 + 1 = q from by omega]) hcl.1 hcl.2.1
  rw [decide_eq_true q3]
  simp only [Bool.not_true, Bool.not_false]
  refine W_cond_f rfl ?_
  refine W_exit ?_
  refine W_seq (W_region ?_)
  refine Wmv (.slice a1 q c1) ?_
  refine Wmv (.slice a1 q c1) ?_
  refine Wl_v (r_len underlying117 rfl) ?_
  refine Wl_v (r_sub rfl rfl (wi64 (by omega) (by omega))) ?_
  refine Wl_v (r_slicehn (h' := (((q : Nat) : Int) - 1).toNat) underlying117 sizeOf4 rfl rfl (by omega) (by omega)) ?_
  have hT5 := Sl.rhd (k := (((q : Nat) : Int) - 1).toNat) encB_len hR9 (by omega)
  refine Wl_v (r_build (pl := #[(0, 1), (1, 1)]) (pv := [(0, .slice a1 ((((q : Nat) : Int) - 1).toNat) c1)]) (cs := #[.slice a1 ((((q : Nat) : Int) - 1).toNat) c1, .int .i64 0]) zeroValue163 underlying163 (fun w => by kernel_rfl) (by simp only [List.map_toArray, List.map_cons, List.map_nil] <;> rfl) (by kernel_rfl)) ?_
  refine Wl_box (v := .agg #[.slice a1 ((((q : Nat) : Int) - 1).toNat) c1, .int .i64 0]) (cs := [.slice a1 ((((q : Nat) : Int) - 1).toNat) c1, .int .i64 0]) rfl rfl ?_
  intro B6 w6 hB6 hU6 hzz6 hb6
  have hzw6 := hU6.size
  replace HU := HU.trans0 hU6
  replace hT5 := hT5.upd0 hU6
  refine Was (.pointer (some ⟨B6, 0, none⟩)) ?_
  refine Was (.int .i64 0) ?_
  refine Wl_nil ?_
  refine W_ret ?_
  refine ret_end (v := .tuple #[.pointer (some ⟨B6, 0, none⟩), .int .i64 0]) rfl (res2 results113 rfl rfl) ?_
  have hq2 : (((q : Nat) : Int) - 1).toNat = tbt b := by omega
  exact ⟨_, rfl, B6, a1, c1, rfl, (by rw [← hq2]; exact hb6), (by rw [← hq2]; exact (hT5.weak (by intro g hg; have h3 : ((w.heap.size ≤ g) ∧ g < w1.heap.size) := hg; show w.heap.size ≤ g; omega)).rcong2 (bl_take (by omega))), HU⟩
 have hq1 : (((q : Nat) : Int) - 1).toNat = q - 1 := by omega
 have hbit : ¬ wn b / 2 ^ (q - 1) % 2 = 1 := by rw [hq1, bl_get (by omega)] at q3; simpa using q3
 have hnb := no_bit hlt (by omega) hbit
 have htq : tbt b < q - 1 := (Nat.pow_lt_pow_iff_right (by decide)).1 (Nat.lt_of_le_of_lt hcl.1 hnb)
 rw [decide_eq_false q3]
 simp only [Bool.not_true, Bool.not_false]
 refine W_cond_t rfl ?_
 refine W_skip (W_block (W_region ?_))
 refine Wmv (.slice a1 q c1) ?_
 refine Wmv (.slice a1 q c1) ?_
 refine Wl_v (r_len underlying117 rfl) ?_
 refine Wl_v (r_sub rfl rfl (wi64 (by omega) (by omega))) ?_
 refine Wl_v (r_slicehn (h' := (((q : Nat) : Int) - 1).toNat) underlying117 sizeOf4 rfl rfl (by omega) (by omega)) ?_
 have hT7 := Sl.rhd (k := (((q : Nat) : Int) - 1).toNat) encB_len hR9 (by omega)
 refine Was (.slice a1 ((((q : Nat) : Int) - 1).toNat) c1) ?_
 refine Wl_nil ?_
 refine ⟨_, ?_, (q - 1), rfl, rfl, ⟨(Eq.trans (b := .slice a1 ((((q : Nat) : Int) - 1).toNat) c1) rfl (by rw [hq1])), trivial⟩, (by omega), (by omega), (no_bit hlt (by omega) hbit), (by rw [← hq1]; exact hT7.rcong2 (bl_take (by omega))), HL3⟩
 omega
theorem rbwd_no {a2 : Option Addr} {m d : Nat} {b : List Int} (w : World) (hsb : Sl w (fun g => g < w.heap.size) 1 (.slice a2 m d) m (ints .u8 b)) (hb : Byt b) (hm : m ≤ 100000) (hc : ¬ Cl b) :
  Calls Tryz.prog 113 #[.slice a2 m d] w (Ret fun v w' => v = .tuple #[.pointer none, .int .i64 14] ∧ Upd No w w') := by
 have HU := Upd.rno w
 have hl_hsb := ilen hsb
 have hc_hsb := hsb.cap.1
 refine calls_of_W func113 rfl ntmps113 (by simp) ?_
 refine W_seq (W_region ?_)
 refine Was (.pointer none) ?_
 refine Was (.int .i64 0) ?_
 refine Wl_nil (W_seq (W_region ?_))
 refine Wmv (.slice a2 m d) ?_
 refine Wl_call (r_call1 rfl call126 rfl) (rrow_spec _ hsb.any hb (by omega)) ?_
 rintro v w1 ⟨a1, c1, rfl, hO1, hU1⟩
 have hzw1 := hU1.size
 replace hsb := hsb.upd0 hU1
 replace HU := HU.trans0 hU1
 replace hO1 := hO1.tight
 have hl_hO1 := rlen encB_len (by decide) hO1.sl
 have hc_hO1 := hO1.sl.cap.1
 refine Was (.slice a1 (8 * m) c1) ?_
 refine Wl_nil (W_seq (W_seq (W_region ?_)))
 refine Wmv (.slice a2 m d) ?_
 refine Wl_v (r_len underlying32 rfl) ?_
 refine Wl_v (r_eq rfl rfl) ?_
 refine Wmv (.bool (decide (((m : Nat) : Int) = 0))) ?_
 by_cases q1 : ((m : Nat) : Int) = 0
 ·rw [decide_eq_true q1]
  refine Wl_guard_f rfl (Wl_guard_f rfl (Wl_guard_f rfl (Wl_guard_f rfl (Wl_guard_f rfl (Wl_guard_f rfl (Wl_guard_f rfl ?_))))))
  refine Wl_v (r_pick_t (v := .bool true) rfl rfl) ?_
  refine Wl_nil ?_
  refine W_cond_t rfl ?_
  refine W_seq (W_region ?_)
  refine Was (.pointer none) ?_
  refine Was (.int .i64 14) ?_
  refine Wl_nil ?_
  refine W_ret ?_
  refine ret_end (v := .tuple #[.pointer none, .int .i64 14]) rfl (res2 results113 rfl rfl) ?_
  exact ⟨_, rfl, rfl, HU⟩
 rw [decide_eq_false q1]
 refine Wl_guard_t rfl ?_
 refine Wmv (.slice a2 m d) ?_
 refine Wl_guard_t rfl ?_
 refine Wmv (.slice a2 m d) ?_
 refine Wl_guard_t rfl ?_
 refine Wl_v (r_len underlying32 rfl) ?_
 refine Wl_guard_t rfl ?_
 refine Wl_v (r_sub rfl rfl (wi64 (by omega) (by omega))) ?_
 refine Wl_guard_t rfl ?_
 refine Wl_idxi underlying32 sizeOf5 rfl rfl hsb (by omega) (by omega) ?_
 intro ib2 io2 hc2
 refine Wl_guard_t rfl ?_
 refine Wl_loadc isAgg5 rfl hc2 ?_
 refine Wl_guard_t rfl ?_
 refine Wl_v (r_eq rfl rfl) ?_
 refine Wl_v (r_pick_f (v := .bool (decide ((b.getD (((m : Nat) : Int) - 1).toNat 0) = 0))) rfl rfl) ?_
 refine Wl_nil ?_
 have q2 : (b.getD (((m : Nat) : Int) - 1).toNat 0) = 0 := (by rw [show (((m : Nat) : Int) - 1).toNat = m - 1 from by omega]; exact Classical.byContradiction fun h => hc ⟨by omega, by rw [show b.length = m from by omega]; exact h⟩)
 rw [decide_eq_true q2]
 refine W_cond_t rfl ?_
 refine W_seq (W_region ?_)
 refine Was (.pointer none) ?_
 refine Was (.int .i64 14) ?_
 refine Wl_nil ?_
 refine W_ret ?_
 refine ret_end (v := .tuple #[.pointer none, .int .i64 14]) rfl (res2 results113 rfl rfl) ?_
 exact ⟨_, rfl, rfl, HU⟩
set_option maxHeartbeats 2000000 in
theorem reach_ok {a a2 : Option Addr} {n c m d : Nat} {l b : List Int} {R : Nat → Prop} (w : World) (hs : Sl w R 1 (.slice a n c) n (ints .i64 l)) (hn : n ≤ 1000) (hsb : Sl w (fun g => g < w.heap.size) 1 (.slice a2 m d) m (ints .u8 b)) (hb : Byt b) (hm : m ≤ 100000) (hr : Rt l) (hc : Cl b) :
  Calls Tryz.prog 94 #[.slice a n c, .slice a2 m d] w (Ret fun v w' => ∃ (a' : Option Addr) (c' : Nat) (e' : Option Addr) (f' : Nat), v = .tuple #[.slice a' (nb l (wn b) (tbt b)) c', .slice e' (nb l (wn b) (tbt b)) f', .bool (decide (st l (wn b) (tbt b) (nb l (wn b) (tbt b)) = 0))] ∧ Own w' (fun g => w.heap.size ≤ g) 5 1 (.slice a' (nb l (wn b) (tbt b)) c') (nb l (wn b) (tbt b)) (ints .u8 (yms l (wn b) (tbt b) (nb l (wn b) (tbt b)))) ∧ Own w' (fun g => w.heap.size ≤ g) 3 1 (.slice e' (nb l (wn b) (tbt b)) f') (nb l (wn b) (tbt b)) (ints .i64 (sts l (wn b) (tbt b) (nb l (wn b) (tbt b)))) ∧ Upd No w w') := by
 have HU := Upd.rno w
 have hl_hs := ilen hs
 have hc_hs := hs.cap.1
 replace hs := hs.tight
 have hl_hsb := ilen hsb
 have hc_hsb := hsb.cap.1
 have hcl := cl_bd hb hc
 refine calls_of_W func94 rfl ntmps94 (by simp) ?_
 refine W_seq (W_region ?_)
 refine Was (.slice none 0 0) ?_
 refine Was (.slice none 0 0) ?_
 refine Was (.bool false) ?_
 refine Wl_nil (W_seq (W_region ?_))
 refine Wmv (.slice a2 m d) ?_
 refine Wl_call (r_call1 rfl call113 rfl) (rbwd_ok _ hsb.any hb (by omega) hc) ?_
 rintro v w1 ⟨rr1, a1, c1, rfl, hB1, hS1, hU1⟩
 have hzw1 := hU1.size
 replace hs := hs.upd0 hU1
 replace HU := HU.trans0 hU1
 have hbl_hB1 := hB1.lt
 have hl_hS1 := rlen encB_len (by decide) hS1
 have hc_hS1 := hS1.cap.1
 replace hS1 := hS1.tight
 refine Wmv (.tuple #[.pointer (some ⟨rr1, 0, none⟩), .int .i64 0]) ?_
 refine Wl_v (r_ext (v := .pointer (some ⟨rr1, 0, none⟩)) rfl rfl) ?_
 refine Wl_v (r_ext (v := .int .i64 0) rfl rfl) ?_
 refine Was (.pointer (some ⟨rr1, 0, none⟩)) ?_
 refine Was (.int .i64 0) ?_
 refine Wl_nil (W_seq (W_seq (W_region ?_)))
 refine Wmv (.int .i64 0) ?_
 refine Wl_v (v := .bool false) (r_ne (a := 0) (b := 0) rfl rfl) ?_
 refine Wl_nil ?_
 refine W_cond_f rfl ?_
 refine W_skip (W_seq (W_region ?_))
 refine Was (.slice none 0 0) ?_
 refine Wl_nil (W_seq (W_region ?_))
 refine Was (.slice none 0 0) ?_
 refine Wl_nil (W_seq (W_region ?_))
 refine Wmv (.pointer (some ⟨rr1, 0, none⟩)) ?_
 refine Wl_v (r_nil rfl) ?_
 refine Wl_v (r_fld underlying163 rfl sizeOf117 rfl rfl) ?_
 refine Wl_load (v := .slice a1 (tbt b) c1) isAgg117 rfl hB1 rfl ?_
 refine Was (.slice a1 (tbt b) c1) ?_
 refine Wl_nil (W_seq (W_block ?_))
 refine W_loop (fun mu ρ ds w' => ∃ (k : Nat) (a8 : Option Addr) (c8 : Nat) (a9 : Option Addr) (c9 g1 g2 : Nat), st l (wn b) (tbt b) k = mu ∧ ds = [] ∧ Liv ρ [(0, .slice a n c), (9, .slice a8 k c8), (10, .slice a9 k c9), (11, .slice a1 (st l (wn b) (tbt b) k) c1)] ∧ Gd l b (tbt b) k ∧ (g1 ≠ g2 ∨ g1 < w1.heap.size) ∧ k ≤ 1000000 ∧ st l (wn b) (tbt b) k ≤ tbt b ∧ Sl w' (fun g => ((w.heap.size ≤ g) ∧ g < w1.heap.size)) 1 (.slice a1 (st l (wn b) (tbt b) k) c1) (st l (wn b) (tbt b) k) (rows encB (bl (wn b) (st l (wn b) (tbt b) k))) ∧ Own w' (fun g => g = g1 ∧ w1.heap.size ≤ g) 5 1 (.slice a8 k c8) k (ints .u8 (yms l (wn b) (tbt b) k)) ∧ Own w' (fun g => g = g2 ∧ w1.heap.size ≤ g) 3 1 (.slice a9 k c9) k (ints .i64 (sts l (wn b) (tbt b) k)) ∧ (g1 < (w').heap.size ∧ g2 < (w').heap.size) ∧ Upd (fun g => w1.heap.size ≤ g) w1 w') _ ⟨0, none, 0, none, 0, 0, 0, rfl, rfl, ⟨rfl, (by first | rfl | exact vint (by omega) | exact vint (by simp)), (by first | rfl | exact vint (by omega) | exact vint (by simp)), (by first | rfl | exact vint (by omega) | exact vint (by simp)), trivial⟩, (Gd.zero _ _ _), (by omega), (by omega), (st_le _ _ _), hS1, (by simpa [yms, tabn, ints] using Own.nil _ _ _ _), (by simpa [sts, tabn, ints] using Own.nil _ _ _ _), (by omega), Upd.refl _ _⟩ ?_
 rintro m2 ρ2 ds2 w2 ⟨k, a8, c8, a9, c9, g1, g2, rfl, rfl, hl2, hG, hg12, hk6, hst, hS1, hO1, hO2, hgs, hU2⟩
 obtain ⟨ρ2x, rfl⟩ : ∃ ρx, ρ2 = upds ρx [(0, .slice a n c), (9, .slice a8 k c8), (10, .slice a9 k c9), (11, .slice a1 (st l (wn b) (tbt b) k) c1)] := ⟨_, upds_self hl2⟩
 clear hl2
 have hzw2 := hU2.size
 replace hs := hs.upd hU2 (by intro x h1 h2; have h3 : ((R x) ∧ x < w.heap.size) := h1; have h4 : w1.heap.size ≤ x := h2; omega)
 replace HU := HU.trans hU2 (by intro x hx; have hx2 : w1.heap.size ≤ x := hx; show (False) ∨ w.heap.size ≤ x; omega)
 have HL2 := hU2
 refine W_seq (W_seq (W_region ?_))
 refine Wmv (.slice a1 (st l (wn b) (tbt b) k) c1) ?_
 refine Wl_v (r_len underlying117 rfl) ?_
 refine Wl_v (r_gt rfl rfl) ?_
 refine Wl_nil ?_
 by_cases q1 : 0 < ((st l (wn b) (tbt b) k : Nat) : Int)
 ·rw [decide_eq_true q1]
  refine W_cond_t rfl ?_
  refine W_skip (W_block (W_seq (W_region ?_)))
  refine Wmv (.slice a1 (st l (wn b) (tbt b) k) c1) ?_
  refine Wl_v (r_len underlying117 rfl) ?_
  refine Wl_v (r_min rfl rfl) ?_
  refine Was (.int .i64 (min ((st l (wn b) (tbt b) k : Nat) : Int) 11)) ?_
  rw [show (min ((st l (wn b) (tbt b) k : Nat) : Int) 11 : Int) = ((min (st l (wn b) (tbt b) k) 11 : Nat) : Int) from by omega]
  refine Wl_nil (W_seq (W_region ?_))
  refine Was (.int .u64 0) ?_
  refine Wl_nil (W_seq (W_seq (W_region ?_)))
  refine Was (.int .i64 0) ?_
  refine Wl_nil (W_block ?_)
  refine W_loop (fun mu ρ ds w' => ∃ (i : Nat), min (st l (wn b) (tbt b) k) 11 - i = mu ∧ ds = [] ∧ Liv ρ [(0, .slice a n c), (9, .slice a8 k c8), (10, .slice a9 k c9), (11, .slice a1 (st l (wn b) (tbt b) k) c1), (12, .int .i64 ((min (st l (wn b) (tbt b) k) 11 : Nat) : Int)), (13, .int .u64 ((wd (wn b) (st l (wn b) (tbt b) k) i : Nat) : Int)), (14, .int .i64 ((i : Nat) : Int))] ∧ i ≤ min (st l (wn b) (tbt b) k) 11 ∧ Upd No w2 w') _ ⟨0, rfl, rfl, ⟨rfl, rfl, rfl, rfl, rfl, (Eq.trans (b := .int .u64 0) rfl (vint (by simp [wd, Nat.mod_one]))), (by first | rfl | exact vint (by omega) | exact vint (by simp)), trivial⟩, (by omega), Upd.refl _ _⟩ ?_
  rintro m3 ρ3 ds3 w3 ⟨i, rfl, rfl, hl3, hi, hU3⟩
  obtain ⟨ρ3x, rfl⟩ : ∃ ρx, ρ3 = upds ρx [(0, .slice a n c), (9, .slice a8 k c8), (10, .slice a9 k c9), (11, .slice a1 (st l (wn b) (tbt b) k) c1), (12, .int .i64 ((min (st l (wn b) (tbt b) k) 11 : Nat) : Int)), (13, .int .u64 ((wd (wn b) (st l (wn b) (tbt b) k) i : Nat) : Int)), (14, .int .i64 ((i : Nat) : Int))] := ⟨_, upds_self hl3⟩
  clear hl3
  have hzw3 := hU3.size
  replace hs := hs.upd0 hU3
  replace HU := HU.trans0 hU3
  replace hS1 := hS1.upd0 hU3
  replace hO1 := hO1.upd0 hU3
  replace hO2 := hO2.upd0 hU3
  replace HL2 := HL2.trans0 hU3
  have HL3 := hU3
  refine W_seq (W_seq (W_region ?_))
  refine Wmv (.int .i64 ((i : Nat) : Int)) ?_
  refine Wmv (.int .i64 ((min (st l (wn b) (tbt b) k) 11 : Nat) : Int)) ?_
  refine Wl_v (r_lt rfl rfl) ?_
  refine Wl_nil ?_
  by_cases q2 : ((i : Nat) : Int) < ((min (st l (wn b) (tbt b) k) 11 : Nat) : Int)
  ·have hwl : wd (wn b) (st l (wn b) (tbt b) k) i < 2048 := by
    have h1 := wd_lt (wn b) (st l (wn b) (tbt b) k) i
    have h2 : 2 ^ i ≤ 2 ^ 11 := Nat.pow_le_pow_right (by decide) (by omega)
    omega
   rw [decide_eq_true q2]
   refine W_cond_t rfl ?_
   refine W_skip (W_seq (W_block (W_seq (W_region ?_))))
   refine Wmv (.int .u64 ((wd (wn b) (st l (wn b) (tbt b) k) i : Nat) : Int)) ?_
   refine Wl_v (r_mul rfl rfl (wu64 (by omega) (by omega))) ?_
   refine Was (.int .u64 (2 * ((wd (wn b) (st l (wn b) (tbt b) k) i : Nat) : Int))) ?_
   refine Wl_nil (W_seq (W_region ?_))
   refine Wmv (.slice a1 (st l (wn b) (tbt b) k) c1) ?_
   refine Wmv (.slice a1 (st l (wn b) (tbt b) k) c1) ?_
   refine Wl_v (r_len underlying117 rfl) ?_
   refine Wl_v (r_sub rfl rfl (wi64 (by omega) (by omega))) ?_
   refine Wmv (.int .i64 ((i : Nat) : Int)) ?_
   refine Wl_v (r_sub rfl rfl (wi64 (by omega) (by omega))) ?_
   refine Wl_idxr false encB_len (by decide) underlying117 sizeOf4 rfl rfl hS1 (by omega) (by omega) ?_
   intro ib4 io4 hc4
   refine Wl_loadc (v := .bool (decide (((bl (wn b) (st l (wn b) (tbt b) k)).getD ((((st l (wn b) (tbt b) k : Nat) : Int) - 1) - ((i : Nat) : Int)).toNat false) = true))) isAgg4 rfl (hc4 0 (by decide)) ?_
   refine Wl_nil ?_
   by_cases q3 : ((bl (wn b) (st l (wn b) (tbt b) k)).getD ((((st l (wn b) (tbt b) k : Nat) : Int) - 1) - ((i : Nat) : Int)).toNat false) = true
   ·have hbit : wn b / 2 ^ (st l (wn b) (tbt b) k - 1 - i) % 2 = 1 := by rw [show ((((st l (wn b) (tbt b) k : Nat) : Int) - 1) - ((i : Nat) : Int)).toNat = st l (wn b) (tbt b) k - 1 - i from by omega, bl_get (by omega)] at q3; simpa using q3
    rw [decide_eq_true q3]
    refine W_cond_t rfl ?_
    refine W_region ?_
    refine Wmv (.int .u64 (2 * ((wd (wn b) (st l (wn b) (tbt b) k) i : Nat) : Int))) ?_
    refine Wl_v (r_add rfl rfl (wu64 (by omega) (by omega))) ?_
    refine Was (.int .u64 ((2 * ((wd (wn b) (st l (wn b) (tbt b) k) i : Nat) : Int)) + 1)) ?_
    refine Wl_nil (W_region ?_)
    refine Wmv (.int .i64 ((i : Nat) : Int)) ?_
    refine Wl_v (r_add rfl rfl (wi64 (by omega) (by omega))) ?_
    refine Was (.int .i64 (((i : Nat) : Int) + 1)) ?_
    refine Wl_nil ?_
    refine ⟨_, ?_, (i + 1), rfl, rfl, ⟨rfl, rfl, rfl, rfl, rfl, (Eq.trans (b := .int .u64 ((2 * ((wd (wn b) (st l (wn b) (tbt b) k) i : Nat) : Int)) + 1)) rfl (vint (by rw [wd_succ (by omega)]; omega))), (Eq.trans (b := .int .i64 (((i : Nat) : Int) + 1)) rfl (vint (by omega))), trivial⟩, (by omega), HL3⟩
    omega
   have hbit : ¬ wn b / 2 ^ (st l (wn b) (tbt b) k - 1 - i) % 2 = 1 := by rw [show ((((st l (wn b) (tbt b) k : Nat) : Int) - 1) - ((i : Nat) : Int)).toNat = st l (wn b) (tbt b) k - 1 - i from by omega, bl_get (by omega)] at q3; simpa using q3
   rw [decide_eq_false q3]
   refine W_cond_f rfl ?_
   refine W_skip (W_region ?_)
   refine Wmv (.int .i64 ((i : Nat) : Int)) ?_
   refine Wl_v (r_add rfl rfl (wi64 (by omega) (by omega))) ?_
   refine Was (.int .i64 (((i : Nat) : Int) + 1)) ?_
   refine Wl_nil ?_
   refine ⟨_, ?_, (i + 1), rfl, rfl, ⟨rfl, rfl, rfl, rfl, rfl, (Eq.trans (b := .int .u64 (2 * ((wd (wn b) (st l (wn b) (tbt b) k) i : Nat) : Int))) rfl (vint (by rw [wd_succ (by omega)]; omega))), (Eq.trans (b := .int .i64 (((i : Nat) : Int) + 1)) rfl (vint (by omega))), trivial⟩, (by omega), HL3⟩
   omega
  rw [decide_eq_false q2]
  obtain rfl : i = min (st l (wn b) (tbt b) k) 11 := by omega
  have hw11 := wd11 (wn b) (st l (wn b) (tbt b) k)
  refine W_cond_f rfl ?_
  refine W_exit ?_
  refine W_seq (W_region ?_)
  refine Wmv (.slice a n c) ?_
  refine Wmv (.int .u64 ((wd (wn b) (st l (wn b) (tbt b) k) (min (st l (wn b) (tbt b) k) 11) : Nat) : Int)) ?_
  refine Wmv (.int .i64 ((min (st l (wn b) (tbt b) k) 11 : Nat) : Int)) ?_
  refine Wl_call (r_call3 rfl call114 rfl rfl rfl) (read_spec _ hs (by omega) (by omega) (by omega)) ?_
  rintro v w5 ⟨rfl, hU5⟩
  have hzw5 := hU5.size
  replace HU := HU.trans0 hU5
  replace hS1 := hS1.upd0 hU5
  replace hO1 := hO1.upd0 hU5
  replace hO2 := hO2.upd0 hU5
  replace HL2 := HL2.trans0 hU5
  refine Wmv (.tuple #[.int .i64 ((dec l ((wd (wn b) (st l (wn b) (tbt b) k) (min (st l (wn b) (tbt b) k) 11) : Nat) : Int) ((min (st l (wn b) (tbt b) k) 11 : Nat) : Int)).1), .int .i64 ((dec l ((wd (wn b) (st l (wn b) (tbt b) k) (min (st l (wn b) (tbt b) k) 11) : Nat) : Int) ((min (st l (wn b) (tbt b) k) 11 : Nat) : Int)).2.1), .int .i64 ((dec l ((wd (wn b) (st l (wn b) (tbt b) k) (min (st l (wn b) (tbt b) k) 11) : Nat) : Int) ((min (st l (wn b) (tbt b) k) 11 : Nat) : Int)).2.2)]) ?_
  rw [show dec l ((wd (wn b) (st l (wn b) (tbt b) k) (min (st l (wn b) (tbt b) k) 11) : Nat) : Int) ((min (st l (wn b) (tbt b) k) 11 : Nat) : Int) = nd l (wn b) (st l (wn b) (tbt b) k) from rfl]
  refine Wl_v (r_ext (v := .int .i64 ((nd l (wn b) (st l (wn b) (tbt b) k)).1)) rfl rfl) ?_
  refine Wl_v (r_ext (v := .int .i64 ((nd l (wn b) (st l (wn b) (tbt b) k)).2.1)) rfl rfl) ?_
  refine Wl_v (r_ext (v := .int .i64 ((nd l (wn b) (st l (wn b) (tbt b) k)).2.2)) rfl rfl) ?_
  refine Was (.int .i64 ((nd l (wn b) (st l (wn b) (tbt b) k)).1)) ?_
  refine Was (.int .i64 ((nd l (wn b) (st l (wn b) (tbt b) k)).2.1)) ?_
  refine Was (.int .i64 ((nd l (wn b) (st l (wn b) (tbt b) k)).2.2)) ?_
  refine Wl_nil (W_seq (W_seq (W_region ?_)))
  refine Wmv (.int .i64 ((nd l (wn b) (st l (wn b) (tbt b) k)).2.2)) ?_
  refine Wl_v (r_ne rfl rfl) ?_
  refine Wl_nil ?_
  by_cases q4 : ((nd l (wn b) (st l (wn b) (tbt b) k)).2.2) ≠ 0
  ·rw [decide_eq_true q4]
   have hst9 := hst
   have hN := nb_eq hr hG q4
   subst hN
   refine W_cond_t rfl ?_
   refine W_seq (W_region ?_)
   refine Wmv (.slice a8 (nb l (wn b) (tbt b)) c8) ?_
   refine Wmv (.slice a9 (nb l (wn b) (tbt b)) c9) ?_
   refine Was (.slice a8 (nb l (wn b) (tbt b)) c8) ?_
   refine Was (.slice a9 (nb l (wn b) (tbt b)) c9) ?_
   refine Was (.bool false) ?_
   refine Wl_nil ?_
   refine W_ret ?_
   refine ret_end (v := .tuple #[.slice a8 (nb l (wn b) (tbt b)) c8, .slice a9 (nb l (wn b) (tbt b)) c9, .bool false]) rfl (res3 results94 rfl rfl rfl) ?_
   exact ⟨_, rfl, a8, c8, a9, c9, (vtup3 rfl rfl (by rw [decide_eq_false (by omega)])), (hO1.weak (by intro g hg; have h3 : g = g1 ∧ w1.heap.size ≤ g := hg; show w.heap.size ≤ g; omega)), (hO2.weak (by intro g hg; have h3 : g = g2 ∧ w1.heap.size ≤ g := hg; show w.heap.size ≤ g; omega)), HU⟩
  rw [decide_eq_false q4]
  have hgk : (nd l (wn b) (st l (wn b) (tbt b) k)).2.2 = 0 := by omega
  have hrng := nd_rng hr hgk
  have hs1 : st l (wn b) (tbt b) (k + 1) = st l (wn b) (tbt b) k - (nd l (wn b) (st l (wn b) (tbt b) k)).2.1.toNat := rfl
  have hs1t : (((st l (wn b) (tbt b) k : Nat) : Int) - (nd l (wn b) (st l (wn b) (tbt b) k)).2.1).toNat = st l (wn b) (tbt b) (k + 1) := by omega
  have hsg := st_go hr (hG.succ hgk)
  refine W_cond_f rfl ?_
  refine W_skip (W_seq (W_region ?_))
  refine Wmv (.slice a1 (st l (wn b) (tbt b) k) c1) ?_
  refine Wmv (.slice a1 (st l (wn b) (tbt b) k) c1) ?_
  refine Wl_v (r_len underlying117 rfl) ?_
  refine Wmv (.int .i64 ((nd l (wn b) (st l (wn b) (tbt b) k)).2.1)) ?_
  refine Wl_v (r_sub rfl rfl (wi64 (by omega) (by omega))) ?_
  refine Wl_v (r_slicehn (h' := (((st l (wn b) (tbt b) k : Nat) : Int) - ((nd l (wn b) (st l (wn b) (tbt b) k)).2.1)).toNat) underlying117 sizeOf4 rfl rfl (by omega) (by omega)) ?_
  have hT6 := Sl.rhd (k := (((st l (wn b) (tbt b) k : Nat) : Int) - ((nd l (wn b) (st l (wn b) (tbt b) k)).2.1)).toNat) encB_len hS1 (by omega)
  refine Was (.slice a1 ((((st l (wn b) (tbt b) k : Nat) : Int) - ((nd l (wn b) (st l (wn b) (tbt b) k)).2.1)).toNat) c1) ?_
  refine Wl_nil (W_region ?_)
  refine Wmv (.slice a8 k c8) ?_
  refine Wmv (.int .i64 ((nd l (wn b) (st l (wn b) (tbt b) k)).1)) ?_
  refine Wl_v (r_cvt underlying3 underlying5 rfl (mu8 _)) ?_
  rw [show (((nd l (wn b) (st l (wn b) (tbt b) k)).1) % 256 : Int) = (nd l (wn b) (st l (wn b) (tbt b) k)).1 from by omega]
  refine Wl_lit (pv := [(0, .int .u8 ((nd l (wn b) (st l (wn b) (tbt b) k)).1))]) (cs := [.int .u8 ((nd l (wn b) (st l (wn b) (tbt b) k)).1)]) underlying32 sizeOf5 zeroValue5 (by decide) (by decide) (by simp only [List.map_toArray, List.map_cons, List.map_nil] <;> rfl) (by kernel_rfl) rfl (by decide) ?_
  intro B7 w7 hB7 hU7 hzz7 hs7
  have hzw7 := hU7.size
  replace hO1 := hO1.upd0 hU7
  replace hO2 := hO2.upd0 hU7
  replace HL2 := HL2.trans0 hU7
  replace hT6 := hT6.upd0 hU7
  replace hs7 : Own w7 (Is B7) 5 1 (.slice (some ⟨B7, 0, none⟩) 1 1) 1 (ints .u8 [(nd l (wn b) (st l (wn b) (tbt b) k)).1]) := hs7
  refine Wl_appendi (xs := yms l (wn b) (tbt b) k) (ys := [(nd l (wn b) (st l (wn b) (tbt b) k)).1]) (zs := (yms l (wn b) (tbt b) k) ++ [(nd l (wn b) (st l (wn b) (tbt b) k)).1]) (k' := .u8) (tot := k + 1) (by first | rfl | exact (rows_app _ _).symm | simp) underlying32 (ti := Tryz.t5) (z := .int .u8 0) (sz := 1) (by' := 1) rfl rfl rfl rfl rfl (by decide) rfl hO1 rfl hs7.sl  (by omega) (by simp only [maxLen]; omega) (by omega) ?_
  intro a8 c8 w8 hU8 hzz8 hO8
  clear hO1
  have hzw8 := hU8.size
  replace hO2 := hO2.upd hU8 (by intro x h1 h2; have h3 : x = g2 ∧ w1.heap.size ≤ x := h1; have h4 : x = g1 ∧ w1.heap.size ≤ x := h2; omega)
  replace HL2 := HL2.trans hU8 (by intro x hx; have hx2 : x = g1 ∧ w1.heap.size ≤ x := hx; show (w1.heap.size ≤ x) ∨ w1.heap.size ≤ x; omega)
  replace hT6 := hT6.upd hU8 (by intro x h1 h2; have h3 : ((w.heap.size ≤ x) ∧ x < w1.heap.size) := h1; have h4 : x = g1 ∧ w1.heap.size ≤ x := h2; omega)
  replace hO8 := hO8.tight
  have hl_hO8 := ilen hO8.sl
  have hc_hO8 := hO8.sl.cap.1
  refine Wmv (.slice a9 k c9) ?_
  refine Wmv (.slice a1 ((((st l (wn b) (tbt b) k : Nat) : Int) - ((nd l (wn b) (st l (wn b) (tbt b) k)).2.1)).toNat) c1) ?_
  refine Wl_v (r_len underlying117 rfl) ?_
  refine Wl_lit (pv := [(0, .int .i64 (((((st l (wn b) (tbt b) k : Nat) : Int) - ((nd l (wn b) (st l (wn b) (tbt b) k)).2.1)).toNat : Nat) : Int))]) (cs := [.int .i64 (((((st l (wn b) (tbt b) k : Nat) : Int) - ((nd l (wn b) (st l (wn b) (tbt b) k)).2.1)).toNat : Nat) : Int)]) underlying22 sizeOf3 zeroValue3 (by decide) (by decide) (by simp only [List.map_toArray, List.map_cons, List.map_nil] <;> rfl) (by kernel_rfl) rfl (by decide) ?_
  intro B9 w9 hB9 hU9 hzz9 hs9
  have hzw9 := hU9.size
  replace hO2 := hO2.upd0 hU9
  replace HL2 := HL2.trans0 hU9
  replace hT6 := hT6.upd0 hU9
  replace hO8 := hO8.upd0 hU9
  replace hs9 : Own w9 (Is B9) 3 1 (.slice (some ⟨B9, 0, none⟩) 1 1) 1 (ints .i64 [(((((st l (wn b) (tbt b) k : Nat) : Int) - ((nd l (wn b) (st l (wn b) (tbt b) k)).2.1)).toNat : Nat) : Int)]) := hs9
  refine Wl_appendi (xs := sts l (wn b) (tbt b) k) (ys := [(((((st l (wn b) (tbt b) k : Nat) : Int) - ((nd l (wn b) (st l (wn b) (tbt b) k)).2.1)).toNat : Nat) : Int)]) (zs := (sts l (wn b) (tbt b) k) ++ [(((((st l (wn b) (tbt b) k : Nat) : Int) - ((nd l (wn b) (st l (wn b) (tbt b) k)).2.1)).toNat : Nat) : Int)]) (k' := .i64) (tot := k + 1) (by first | rfl | exact (rows_app _ _).symm | simp) underlying22 (ti := Tryz.t3) (z := .int .i64 0) (sz := 1) (by' := 8) rfl rfl rfl rfl rfl (by decide) rfl hO2 rfl hs9.sl  (by omega) (by simp only [maxLen]; omega) (by omega) ?_
  intro a10 c10 w10 hU10 hzz10 hO10
  clear hO2
  have hzw10 := hU10.size
  replace HL2 := HL2.trans hU10 (by intro x hx; have hx2 : x = g2 ∧ w1.heap.size ≤ x := hx; show (w1.heap.size ≤ x) ∨ w1.heap.size ≤ x; omega)
  replace hT6 := hT6.upd hU10 (by intro x h1 h2; have h3 : ((w.heap.size ≤ x) ∧ x < w1.heap.size) := h1; have h4 : x = g2 ∧ w1.heap.size ≤ x := h2; omega)
  replace hO8 := hO8.upd hU10 (by intro x h1 h2; have h3 : ((((x = g1 ∧ w1.heap.size ≤ x) ∨ x = w7.heap.size)) ∧ x < w8.heap.size) := h1; have h4 : x = g2 ∧ w1.heap.size ≤ x := h2; omega)
  replace hO10 := hO10.tight
  have hl_hO10 := ilen hO10.sl
  have hc_hO10 := hO10.sl.cap.1
  refine Was (.slice a8 (k + 1) c8) ?_
  refine Was (.slice a10 (k + 1) c10) ?_
  refine Wl_nil ?_
  obtain ⟨h1, hR1, hP1⟩ := hO8.one (by omega)
  obtain ⟨h2, hR2, hP2⟩ := hO10.one (by omega)
  replace hR1 : ((((h1 = g1 ∧ w1.heap.size ≤ h1) ∨ h1 = w7.heap.size)) ∧ h1 < w8.heap.size) := hR1
  replace hR2 : ((((h2 = g2 ∧ w1.heap.size ≤ h2) ∨ h2 = w9.heap.size)) ∧ h2 < w10.heap.size) := hR2
  refine ⟨_, ?_, (k + 1), a8, c8, a10, c10, h1, h2, rfl, rfl, ⟨rfl, (by first | rfl | exact vint (by omega) | exact vint (by simp)), (by first | rfl | exact vint (by omega) | exact vint (by simp)), (Eq.trans (b := .slice a1 ((((st l (wn b) (tbt b) k : Nat) : Int) - ((nd l (wn b) (st l (wn b) (tbt b) k)).2.1)).toNat) c1) rfl (by rw [hs1t])), trivial⟩, (hG.succ hgk), (by omega), (by omega), (st_le _ _ _), (by rw [← hs1t]; exact (hT6.rcong2 (bl_take (by omega)))), ((hP1.weak (by intro g hg; have h3 : g = h1 := hg; show g = h1 ∧ w1.heap.size ≤ g; omega)).icong (yms_succ _ _ _ _).symm), ((hP2.weak (by intro g hg; have h3 : g = h2 := hg; show g = h2 ∧ w1.heap.size ≤ g; omega)).icong (by rw [sts_succ, hs1t])), (by omega), HL2⟩
  omega
 rw [decide_eq_false q1]
 have hN := nb_stop hr hG (show st l (wn b) (tbt b) k = 0 from by omega)
 subst hN
 refine W_cond_f rfl ?_
 refine W_exit ?_
 refine W_seq (W_region ?_)
 refine Wmv (.slice a8 (nb l (wn b) (tbt b)) c8) ?_
 refine Wmv (.slice a9 (nb l (wn b) (tbt b)) c9) ?_
 refine Was (.slice a8 (nb l (wn b) (tbt b)) c8) ?_
 refine Was (.slice a9 (nb l (wn b) (tbt b)) c9) ?_
 refine Was (.bool true) ?_
 refine Wl_nil ?_
 refine W_ret ?_
 refine ret_end (v := .tuple #[.slice a8 (nb l (wn b) (tbt b)) c8, .slice a9 (nb l (wn b) (tbt b)) c9, .bool true]) rfl (res3 results94 rfl rfl rfl) ?_
 exact ⟨_, rfl, a8, c8, a9, c9, (vtup3 rfl rfl (by rw [decide_eq_true (by omega)])), (hO1.weak (by intro g hg; have h3 : g = g1 ∧ w1.heap.size ≤ g := hg; show w.heap.size ≤ g; omega)), (hO2.weak (by intro g hg; have h3 : g = g2 ∧ w1.heap.size ≤ g := hg; show w.heap.size ≤ g; omega)), HU⟩
theorem reach_no {a a2 : Option Addr} {n c m d : Nat} {l b : List Int} {R : Nat → Prop} (w : World) (hs : Sl w R 1 (.slice a n c) n (ints .i64 l)) (hn : n ≤ 1000) (hsb : Sl w (fun g => g < w.heap.size) 1 (.slice a2 m d) m (ints .u8 b)) (hb : Byt b) (hm : m ≤ 100000) (hc : ¬ Cl b) :
  Calls Tryz.prog 94 #[.slice a n c, .slice a2 m d] w (Ret fun v w' => v = .tuple #[.slice none 0 0, .slice none 0 0, .bool false] ∧ Upd No w w') := by
 have HU := Upd.rno w
 have hl_hs := ilen hs
 have hc_hs := hs.cap.1
 have hl_hsb := ilen hsb
 have hc_hsb := hsb.cap.1
 refine calls_of_W func94 rfl ntmps94 (by simp) ?_
 refine W_seq (W_region ?_)
 refine Was (.slice none 0 0) ?_
 refine Was (.slice none 0 0) ?_
 refine Was (.bool false) ?_
 refine Wl_nil (W_seq (W_region ?_))
 refine Wmv (.slice a2 m d) ?_
 refine Wl_call (r_call1 rfl call113 rfl) (rbwd_no _ hsb.any hb (by omega) hc) ?_
 rintro v w1 ⟨rfl, hU1⟩
 have hzw1 := hU1.size
 replace HU := HU.trans0 hU1
 refine Wmv (.tuple #[.pointer none, .int .i64 14]) ?_
 refine Wl_v (r_ext (v := .pointer none) rfl rfl) ?_
 refine Wl_v (r_ext (v := .int .i64 14) rfl rfl) ?_
 refine Was (.pointer none) ?_
 refine Was (.int .i64 14) ?_
 refine Wl_nil (W_seq (W_seq (W_region ?_)))
 refine Wmv (.int .i64 14) ?_
 refine Wl_v (v := .bool true) (r_ne (a := 14) (b := 0) rfl rfl) ?_
 refine Wl_nil ?_
 refine W_cond_t rfl ?_
 refine W_seq (W_region ?_)
 refine Was (.slice none 0 0) ?_
 refine Was (.slice none 0 0) ?_
 refine Was (.bool false) ?_
 refine Wl_nil ?_
 refine W_ret ?_
 refine ret_end (v := .tuple #[.slice none 0 0, .slice none 0 0, .bool false]) rfl (res3 results94 rfl rfl rfl) ?_
 exact ⟨_, rfl, rfl, HU⟩
theorem rdec_spec {a a2 : Option Addr} {n c m d : Nat} {l b : List Int} {nn : Int} {R : Nat → Prop} (w : World) (hs : Sl w R 1 (.slice a n c) n (ints .i64 l)) (hn : n ≤ 1000) (hsb : Sl w (fun g => g < w.heap.size) 1 (.slice a2 m d) m (ints .u8 b)) (hb : Byt b) (hm : m ≤ 100000) (hni : -9223372036854775808 ≤ nn ∧ nn ≤ 9223372036854775807) :
  Calls Tryz.prog 67 #[.slice a n c, .slice a2 m d, .int .i64 nn] w (Ret fun v w' => ∃ (a' : Option Addr) (m' : Nat) (c' : Nat), v = .tuple #[.slice a' m' c', .int .i64 ((dcF l b nn).2)] ∧ Own w' (fun g => w.heap.size ≤ g) 5 1 (.slice a' m' c') m' (ints .u8 ((dcF l b nn).1)) ∧ Upd No w w') := by
 have HU := Upd.rno w
 have hl_hs := ilen hs
 have hc_hs := hs.cap.1
 replace hs := hs.tight
 have hl_hsb := ilen hsb
 have hc_hsb := hsb.cap.1
 refine calls_of_W func67 rfl ntmps67 (by simp) ?_
 refine W_seq (W_region ?_)
 refine Was (.slice none 0 0) ?_
 refine Was (.int .i64 0) ?_
 refine Wl_nil (W_seq (W_seq (W_region ?_)))
 refine Wmv (.slice a n c) ?_
 refine Wl_call (r_call1 rfl call28 rfl) (rright_spec _ hs (by omega)) ?_
 rintro v w1 ⟨rfl, hU1⟩
 have hzw1 := hU1.size
 replace hs := hs.upd0 hU1
 replace hsb := hsb.upd0 hU1
 replace HU := HU.trans0 hU1
 refine Wl_v (r_not rfl) ?_
 refine Wl_nil ?_
 by_cases q1 : Rt l
 ·rw [decide_eq_true q1]
  simp only [Bool.not_true, Bool.not_false]
  refine W_cond_f rfl ?_
  refine W_skip (W_seq (W_seq (W_region ?_)))
  refine Wmv (.int .i64 nn) ?_
  refine Wl_v (r_lt rfl rfl) ?_
  refine Wmv (.bool (decide (nn < 0))) ?_
  by_cases q2 : nn < 0
  ·rw [decide_eq_true q2]
   refine Wl_guard_f rfl (Wl_guard_f rfl ?_)
   refine Wl_v (r_pick_t (v := .bool true) rfl rfl) ?_
   refine Wl_nil ?_
   refine W_cond_t rfl ?_
   refine W_seq (W_region ?_)
   refine Was (.slice none 0 0) ?_
   refine Was (.int .i64 2) ?_
   refine Wl_nil ?_
   refine W_ret ?_
   refine ret_end (v := .tuple #[.slice none 0 0, .int .i64 2]) rfl (res2 results67 rfl rfl) ?_
   have hF : dcF l b nn = ([], 2) := by rw [dcF, if_neg (fun h => h q1), if_pos (by omega)]
   exact ⟨_, rfl, none, 0, 0, (vtup2 rfl (vint (by rw [hF]))), (by rw [hF]; first | exact (Own.nil _ _ 5 1) | (refine Own.icong (Own.nil _ _ 5 1) ?_; congr 1; omega)), HU⟩
  rw [decide_eq_false q2]
  refine Wl_guard_t rfl ?_
  refine Wmv (.int .i64 nn) ?_
  refine Wl_guard_t rfl ?_
  refine Wl_v (r_gt rfl rfl) ?_
  refine Wl_v (r_pick_f (v := .bool (decide (131072 < nn))) rfl rfl) ?_
  refine Wl_nil ?_
  by_cases q3 : 131072 < nn
  ·rw [decide_eq_true q3]
   refine W_cond_t rfl ?_
   refine W_seq (W_region ?_)
   refine Was (.slice none 0 0) ?_
   refine Was (.int .i64 2) ?_
   refine Wl_nil ?_
   refine W_ret ?_
   refine ret_end (v := .tuple #[.slice none 0 0, .int .i64 2]) rfl (res2 results67 rfl rfl) ?_
   have hF : dcF l b nn = ([], 2) := by rw [dcF, if_neg (fun h => h q1), if_pos (by omega)]
   exact ⟨_, rfl, none, 0, 0, (vtup2 rfl (vint (by rw [hF]))), (by rw [hF]; first | exact (Own.nil _ _ 5 1) | (refine Own.icong (Own.nil _ _ 5 1) ?_; congr 1; omega)), HU⟩
  rw [decide_eq_false q3]
  refine W_cond_f rfl ?_
  refine W_skip (W_seq (W_region ?_))
  refine Wmv (.slice a n c) ?_
  refine Wmv (.slice a2 m d) ?_
  by_cases q4 : Cl b
  ·refine Wl_call (r_call2 rfl call94 rfl rfl) (reach_ok _ hs (by omega) hsb.any hb (by omega) q1 q4) ?_
   rintro v w2 ⟨a2x, c2, e2, f2, rfl, hO2, hP2, hU2⟩
   have hzw2 := hU2.size
   replace HU := HU.trans0 hU2
   replace hO2 := hO2.tight
   have hl_hO2 := ilen hO2.sl
   have hc_hO2 := hO2.sl.cap.1
   replace hP2 := hP2.tight
   have hl_hP2 := ilen hP2.sl
   have hc_hP2 := hP2.sl.cap.1
   refine Wmv (.tuple #[.slice a2x (nb l (wn b) (tbt b)) c2, .slice e2 (nb l (wn b) (tbt b)) f2, .bool (decide (st l (wn b) (tbt b) (nb l (wn b) (tbt b)) = 0))]) ?_
   refine Wl_v (r_ext (v := .slice a2x (nb l (wn b) (tbt b)) c2) rfl rfl) ?_
   refine Wl_v (r_ext (v := .slice e2 (nb l (wn b) (tbt b)) f2) rfl rfl) ?_
   refine Wl_v (r_ext (v := .bool (decide (st l (wn b) (tbt b) (nb l (wn b) (tbt b)) = 0))) rfl rfl) ?_
   refine Was (.slice a2x (nb l (wn b) (tbt b)) c2) ?_
   refine Was (.slice e2 (nb l (wn b) (tbt b)) f2) ?_
   refine Was (.bool (decide (st l (wn b) (tbt b) (nb l (wn b) (tbt b)) = 0))) ?_
   refine Wl_nil (W_seq (W_seq (W_region ?_)))
   refine Wmv (.bool (decide (st l (wn b) (tbt b) (nb l (wn b) (tbt b)) = 0))) ?_
   refine Wl_v (r_not rfl) ?_
   refine Wmv (.bool (!decide (st l (wn b) (tbt b) (nb l (wn b) (tbt b)) = 0))) ?_
   by_cases q5 : st l (wn b) (tbt b) (nb l (wn b) (tbt b)) = 0
   ·rw [decide_eq_true q5]
    simp only [Bool.not_true, Bool.not_false]
    refine Wl_guard_t rfl ?_
    refine Wmv (.slice a2x (nb l (wn b) (tbt b)) c2) ?_
    refine Wl_guard_t rfl ?_
    refine Wl_v (r_len underlying32 rfl) ?_
    refine Wl_guard_t rfl ?_
    refine Wmv (.int .i64 nn) ?_
    refine Wl_guard_t rfl ?_
    refine Wl_v (r_ne rfl rfl) ?_
    refine Wl_v (r_pick_f (v := .bool (decide ((((nb l (wn b) (tbt b)) : Nat) : Int) ≠ nn))) rfl rfl) ?_
    refine Wl_nil ?_
    by_cases q6 : (((nb l (wn b) (tbt b)) : Nat) : Int) ≠ nn
    ·rw [decide_eq_true q6]
     refine W_cond_t rfl ?_
     refine W_seq (W_region ?_)
     refine Was (.slice none 0 0) ?_
     refine Was (.int .i64 14) ?_
     refine Wl_nil ?_
     refine W_ret ?_
     refine ret_end (v := .tuple #[.slice none 0 0, .int .i64 14]) rfl (res2 results67 rfl rfl) ?_
     have hF : dcF l b nn = ([], 14) := by rw [dcF, if_neg (fun h => h q1), if_neg (by omega), if_neg (fun h => h q4), if_neg (fun h => q6 (by have := ((gd_end q1).1 h).1; omega))]
     exact ⟨_, rfl, none, 0, 0, (vtup2 rfl (vint (by rw [hF]))), (by rw [hF]; first | exact (Own.nil _ _ 5 1) | (refine Own.icong (Own.nil _ _ 5 1) ?_; congr 1; omega)), HU⟩
    rw [decide_eq_false q6]
    refine W_cond_f rfl ?_
    refine W_skip (W_seq (W_region ?_))
    refine Wmv (.slice a2x (nb l (wn b) (tbt b)) c2) ?_
    refine Was (.slice a2x (nb l (wn b) (tbt b)) c2) ?_
    refine Was (.int .i64 0) ?_
    refine Wl_nil ?_
    refine W_ret ?_
    refine ret_end (v := .tuple #[.slice a2x (nb l (wn b) (tbt b)) c2, .int .i64 0]) rfl (res2 results67 rfl rfl) ?_
    have hF : dcF l b nn = (yms l (wn b) (tbt b) nn.toNat, 0) := by rw [dcF, if_neg (fun h => h q1), if_neg (by omega), if_neg (fun h => h q4), if_pos ((gd_end q1).2 ⟨by omega, q5⟩)]
    exact ⟨_, rfl, a2x, (nb l (wn b) (tbt b)), c2, (vtup2 rfl (vint (by rw [hF]))), (by rw [hF]; first | exact (hO2.weak (by intro g hg; have h3 : ((w1.heap.size ≤ g) ∧ g < w2.heap.size) := hg; show w.heap.size ≤ g; omega)) | (refine Own.icong (hO2.weak (by intro g hg; have h3 : ((w1.heap.size ≤ g) ∧ g < w2.heap.size) := hg; show w.heap.size ≤ g; omega)) ?_; congr 1; omega)), HU⟩
   rw [decide_eq_false q5]
   simp only [Bool.not_true, Bool.not_false]
   refine Wl_guard_f rfl (Wl_guard_f rfl (Wl_guard_f rfl (Wl_guard_f rfl ?_)))
   refine Wl_v (r_pick_t (v := .bool true) rfl rfl) ?_
   refine Wl_nil ?_
   refine W_cond_t rfl ?_
   refine W_seq (W_region ?_)
   refine Was (.slice none 0 0) ?_
   refine Was (.int .i64 14) ?_
   refine Wl_nil ?_
   refine W_ret ?_
   refine ret_end (v := .tuple #[.slice none 0 0, .int .i64 14]) rfl (res2 results67 rfl rfl) ?_
   have hF : dcF l b nn = ([], 14) := by rw [dcF, if_neg (fun h => h q1), if_neg (by omega), if_neg (fun h => h q4), if_neg (fun h => q5 ((gd_end q1).1 h).2)]
   exact ⟨_, rfl, none, 0, 0, (vtup2 rfl (vint (by rw [hF]))), (by rw [hF]; first | exact (Own.nil _ _ 5 1) | (refine Own.icong (Own.nil _ _ 5 1) ?_; congr 1; omega)), HU⟩
  refine Wl_call (r_call2 rfl call94 rfl rfl) (reach_no _ hs (by omega) hsb.any hb (by omega) q4) ?_
  rintro v w3 ⟨rfl, hU3⟩
  have hzw3 := hU3.size
  replace HU := HU.trans0 hU3
  refine Wmv (.tuple #[.slice none 0 0, .slice none 0 0, .bool false]) ?_
  refine Wl_v (r_ext (v := .slice none 0 0) rfl rfl) ?_
  refine Wl_v (r_ext (v := .slice none 0 0) rfl rfl) ?_
  refine Wl_v (r_ext (v := .bool false) rfl rfl) ?_
  refine Was (.slice none 0 0) ?_
  refine Was (.slice none 0 0) ?_
  refine Was (.bool false) ?_
  refine Wl_nil (W_seq (W_seq (W_region ?_)))
  refine Wmv (.bool false) ?_
  refine Wl_v (r_not (b := false) rfl) ?_
  refine Wmv (.bool true) ?_
  refine Wl_guard_f rfl (Wl_guard_f rfl (Wl_guard_f rfl (Wl_guard_f rfl ?_)))
  refine Wl_v (r_pick_t (v := .bool true) rfl rfl) ?_
  refine Wl_nil ?_
  refine W_cond_t rfl ?_
  refine W_seq (W_region ?_)
  refine Was (.slice none 0 0) ?_
  refine Was (.int .i64 14) ?_
  refine Wl_nil ?_
  refine W_ret ?_
  refine ret_end (v := .tuple #[.slice none 0 0, .int .i64 14]) rfl (res2 results67 rfl rfl) ?_
  have hF : dcF l b nn = ([], 14) := by rw [dcF, if_neg (fun h => h q1), if_neg (by omega), if_pos q4]
  exact ⟨_, rfl, none, 0, 0, (vtup2 rfl (vint (by rw [hF]))), (by rw [hF]; first | exact (Own.nil _ _ 5 1) | (refine Own.icong (Own.nil _ _ 5 1) ?_; congr 1; omega)), HU⟩
 rw [decide_eq_false q1]
 simp only [Bool.not_true, Bool.not_false]
 refine W_cond_t rfl ?_
 refine W_seq (W_region ?_)
 refine Was (.slice none 0 0) ?_
 refine Was (.int .i64 12) ?_
 refine Wl_nil ?_
 refine W_ret ?_
 refine ret_end (v := .tuple #[.slice none 0 0, .int .i64 12]) rfl (res2 results67 rfl rfl) ?_
 have hF : dcF l b nn = ([], 12) := by rw [dcF, if_pos q1]
 exact ⟨_, rfl, none, 0, 0, (vtup2 rfl (vint (by rw [hF]))), (by rw [hF]; first | exact (Own.nil _ _ 5 1) | (refine Own.icong (Own.nil _ _ 5 1) ?_; congr 1; omega)), HU⟩
end Go.Proofs.YtdppageondgjkaaGreat
