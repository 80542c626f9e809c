/-
 Walks, printed by a small program of this project (gen.py).
-/
import Derived.Test.YtilegaokfamfnaaXh
set_option linter.unusedVariables false
set_option linter.unusedSimpArgs false
namespace Go.Proofs.Ytilegaokfamfnaa
open Go.Fw

theorem qsym_t {l : List Int} {c : Int × Int} {k : Nat} (hb : Bd l) (hk : k < l.length) (h : 0 < l.getD k 0) (e : ((cds l).getD k (0, 0)).1 = c.1 ∧ ((cds l).getD k (0, 0)).2 = c.2) : qsym c ((cds l).getD k (0, 0)) = true := by
 unfold qsym
 rw [decide_eq_true_iff]
 refine ⟨Prod.ext e.1 e.2, ?_⟩
 rw [← e.1, cds_get hk, cd_fst hb]; exact h
theorem qsym_f1 {l : List Int} {c : Int × Int} {k : Nat} (hk : k < l.length) (h : ¬ 0 < l.getD k 0) : qsym c ((cds l).getD k (0, 0)) = false := by
 rw [cds_get hk, cd_zero h]
 unfold qsym
 rw [decide_eq_false_iff_not]
 rintro ⟨e, h2⟩
 rw [← e] at h2
 exact absurd h2 (by decide)
theorem qsym_f2 {l : List Int} {c : Int × Int} {k : Nat} (e : ¬ (((cds l).getD k (0, 0)).1 = c.1 ∧ ((cds l).getD k (0, 0)).2 = c.2)) : qsym c ((cds l).getD k (0, 0)) = false := by
 unfold qsym
 rw [decide_eq_false_iff_not]
 rintro ⟨e2, _⟩
 exact e ⟨by rw [e2], by rw [e2]⟩

theorem pdiv0 (b m : Int) (h : 0 ≤ b) : 0 ≤ b / 2 ^ (min m.toNat IntKind.u64.bits) := Int.ediv_nonneg h (Int.le_of_lt (Int.pow_pos (by decide)))

set_option maxRecDepth 100000 in
theorem read_spec {a : Option Addr} {n c : Nat} {l : List Int} {bits m : Int} {R : Nat → Prop} (w : World) (hs : Sl w R 1 (.slice a n c) n (ints .i64 l)) (hn : n ≤ 17592186044415) (hbits : 0 ≤ bits ∧ bits < 18446744073709551616) (hm : -9223372036854775808 ≤ m ∧ m ≤ 9223372036854775807) :
  Calls Try.prog 58 #[.slice a n c, .int .u64 bits, .int .i64 m] w (Ret fun v w' => v = .tuple #[.int .i64 ((dec l bits m).1), .int .i64 ((dec l bits m).2.1), .int .i64 ((dec l bits m).2.2)] ∧ Upd No w w') := by
 have HU : Upd (fun b => False) w w := Upd.refl _ _
 have hl_hs := ilen hs
 have hc_hs := hs.cap.1
 replace hs := hs.tight
 refine calls_of_W Try.func58 rfl Try.ntmps58 (by simp) ?_
 refine W_seq ?_
 refine W_region ?_
 refine Wl_v (r_as (v := .int .i64 0) rfl) ?_
 refine Wl_v (r_as (v := .int .i64 0) rfl) ?_
 refine Wl_v (r_as (v := .int .i64 0) rfl) ?_
 refine Wl_nil ?_
 refine W_seq ?_
 refine W_region ?_
 refine Wl_v (r_mv (v := .slice a n c) rfl) ?_
 by_cases q1 : Rt l
 ·refine Wl_call (r_call1 rfl Try.call40 rfl) (rcodes_ok _ hs (by omega) q1) ?_
  rintro v w1 ⟨a1, c1, rfl, hO1, hU1⟩
  have hzw1 := hU1.size
  replace HU := HU.trans0 hU1
  replace hO1 := hO1.tight
  have hl_hO1 := rlen encC_len (by decide) hO1.sl
  have hc_hO1 := hO1.sl.cap.1
  have hr := q1
  have h256 := hr.2.1
  refine Wl_v (r_mv (v := .tuple #[.slice a1 n c1, .int .i64 0]) rfl) ?_
  refine Wl_v (r_ext (v := .slice a1 n c1) rfl rfl) ?_
  refine Wl_v (r_ext (v := .int .i64 0) rfl rfl) ?_
  refine Wl_v (r_as (v := .slice a1 n c1) rfl) ?_
  refine Wl_v (r_as (v := .int .i64 0) rfl) ?_
  refine Wl_nil ?_
  refine W_seq ?_
  refine W_seq ?_
  refine W_region ?_
  refine Wl_v (r_mv (v := .int .i64 0) rfl) ?_
  refine Wl_v (v := .bool false) (r_ne (a := 0) (b := 0) rfl rfl) ?_
  refine Wl_nil ?_
  refine W_cond_f rfl ?_
  refine W_skip ?_
  refine W_seq ?_
  refine W_seq ?_
  refine W_region ?_
  refine Wl_v (r_mv (v := .int .i64 m) rfl) ?_
  refine Wl_v (r_lt rfl rfl) ?_
  refine Wl_v (r_mv (v := .bool (decide (m < 0))) rfl) ?_
  by_cases q2 : m < 0
  ·rw [decide_eq_true q2]
   refine Wl_guard_f rfl ?_
   refine Wl_guard_f rfl ?_
   refine Wl_v (r_pick_t (v := .bool true) rfl rfl) ?_
   refine Wl_v (r_mv (v := .bool true) rfl) ?_
   refine Wl_guard_f rfl ?_
   refine Wl_guard_f rfl ?_
   refine Wl_guard_f rfl ?_
   refine Wl_skip rfl ?_
   refine Wl_skip rfl ?_
   refine Wl_skip rfl ?_
   refine Wl_skip rfl ?_
   refine Wl_guard_f rfl ?_
   refine Wl_v (r_pick_t (v := .bool true) rfl rfl) ?_
   refine Wl_nil ?_
   refine W_cond_t rfl ?_
   refine W_seq ?_
   refine W_region ?_
   refine Wl_v (r_as (v := .int .i64 0) rfl) ?_
   refine Wl_v (r_as (v := .int .i64 0) rfl) ?_
   refine Wl_v (r_as (v := .int .i64 2) rfl) ?_
   refine Wl_nil ?_
   refine W_ret ?_
   refine ret_end (v := .tuple #[.int .i64 0, .int .i64 0, .int .i64 2]) rfl (res3 Try.results58 rfl rfl rfl) ?_
   rw [dec_arg q1 (fun h => by unfold Va at h; omega)]
   exact ⟨_, rfl, (vtup3 (by first | rfl | exact vint (by omega)) (by first | rfl | exact vint (by omega)) (by first | rfl | exact vint (by omega))), HU⟩
  ·rw [decide_eq_false q2]
   refine Wl_guard_t rfl ?_
   refine Wl_v (r_mv (v := .int .i64 m) rfl) ?_
   refine Wl_guard_t rfl ?_
   refine Wl_v (r_gt rfl rfl) ?_
   refine Wl_v (r_pick_f (v := .bool (decide (64 < m))) rfl rfl) ?_
   refine Wl_v (r_mv (v := .bool (decide (64 < m))) rfl) ?_
   by_cases q3 : 64 < m
   ·rw [decide_eq_true q3]
    refine Wl_guard_f rfl ?_
    refine Wl_guard_f rfl ?_
    refine Wl_guard_f rfl ?_
    refine Wl_skip rfl ?_
    refine Wl_skip rfl ?_
    refine Wl_skip rfl ?_
    refine Wl_skip rfl ?_
    refine Wl_guard_f rfl ?_
    refine Wl_v (r_pick_t (v := .bool true) rfl rfl) ?_
    refine Wl_nil ?_
    refine W_cond_t rfl ?_
    refine W_seq ?_
    refine W_region ?_
    refine Wl_v (r_as (v := .int .i64 0) rfl) ?_
    refine Wl_v (r_as (v := .int .i64 0) rfl) ?_
    refine Wl_v (r_as (v := .int .i64 2) rfl) ?_
    refine Wl_nil ?_
    refine W_ret ?_
    refine ret_end (v := .tuple #[.int .i64 0, .int .i64 0, .int .i64 2]) rfl (res3 Try.results58 rfl rfl rfl) ?_
    rw [dec_arg q1 (fun h => by unfold Va at h; omega)]
    exact ⟨_, rfl, (vtup3 (by first | rfl | exact vint (by omega)) (by first | rfl | exact vint (by omega)) (by first | rfl | exact vint (by omega))), HU⟩
   ·rw [decide_eq_false q3]
    refine Wl_guard_t rfl ?_
    refine Wl_v (r_mv (v := .int .i64 m) rfl) ?_
    refine Wl_guard_t rfl ?_
    refine Wl_v (r_lt rfl rfl) ?_
    refine Wl_guard_t rfl ?_
    refine Wl_v (r_mv (v := .bool (decide (m < 64))) rfl) ?_
    by_cases q4 : m < 64
    ·rw [decide_eq_true q4]
     refine Wl_guard_t rfl ?_
     refine Wl_v (r_mv (v := .int .u64 bits) rfl) ?_
     refine Wl_guard_t rfl ?_
     refine Wl_v (r_mv (v := .int .i64 m) rfl) ?_
     refine Wl_guard_t rfl ?_
     refine Wl_v (r_shr rfl rfl (by omega) rfl) ?_
     refine Wl_guard_t rfl ?_
     refine Wl_v (r_gt rfl rfl) ?_
     refine Wl_guard_t rfl ?_
     refine Wl_v (r_pick_t (v := .bool (decide (0 < (bits / 2 ^ (min (m).toNat IntKind.u64.bits))))) rfl rfl) ?_
     refine Wl_v (r_pick_f (v := .bool (decide (0 < (bits / 2 ^ (min (m).toNat IntKind.u64.bits))))) rfl rfl) ?_
     refine Wl_nil ?_
     by_cases q5 : 0 < (bits / 2 ^ (min (m).toNat IntKind.u64.bits))
     ·rw [decide_eq_true q5]
      refine W_cond_t rfl ?_
      refine W_seq ?_
      refine W_region ?_
      refine Wl_v (r_as (v := .int .i64 0) rfl) ?_
      refine Wl_v (r_as (v := .int .i64 0) rfl) ?_
      refine Wl_v (r_as (v := .int .i64 2) rfl) ?_
      refine Wl_nil ?_
      refine W_ret ?_
      refine ret_end (v := .tuple #[.int .i64 0, .int .i64 0, .int .i64 2]) rfl (res3 Try.results58 rfl rfl rfl) ?_
      rw [dec_arg q1 (fun h => by unfold Va at h; omega)]
      exact ⟨_, rfl, (vtup3 (by first | rfl | exact vint (by omega)) (by first | rfl | exact vint (by omega)) (by first | rfl | exact vint (by omega))), HU⟩
     ·rw [decide_eq_false q5]
      refine W_cond_f rfl ?_
      refine W_skip ?_
      refine W_seq ?_
      refine W_seq ?_
      refine W_region ?_
      refine Wl_v (r_as (v := .int .i64 0) rfl) ?_
      refine Wl_nil ?_
      refine W_block ?_
      refine W_loop (fun mu ρ ds w' => ∃ (k : Nat), n - k = mu ∧ ds = [] ∧ Liv ρ [(1, .int .u64 bits), (2, .int .i64 m), (9, .slice a1 n c1), (11, .int .i64 ((k : Nat) : Int))] ∧ k ≤ n ∧ (∀ i, i < k → qrd bits m ((cds l).getD i (0, 0)) = false) ∧ Upd No w1 w') _ ⟨0, rfl, rfl, ⟨rfl, rfl, rfl, (by first | rfl | exact vint (by omega) | exact vint (by simp)), trivial⟩, (by omega), (fun i hi => absurd hi (by omega)), Upd.refl _ _⟩ ?_
      rintro m2 ρ2 ds2 w2 ⟨k, rfl, rfl, hl2, hk, hall, hU2⟩
      obtain ⟨ρ2x, rfl⟩ : ∃ ρx, ρ2 = upds ρx [(1, .int .u64 bits), (2, .int .i64 m), (9, .slice a1 n c1), (11, .int .i64 ((k : Nat) : Int))] := ⟨_, upds_self hl2⟩
      clear hl2
      have hzw2 := hU2.size
      replace HU := HU.trans0 hU2
      replace hO1 := hO1.upd0 hU2
      have HL2 := hU2
      refine W_seq ?_
      refine W_seq ?_
      refine W_region ?_
      refine Wl_v (r_mv (v := .int .i64 ((k : Nat) : Int)) rfl) ?_
      refine Wl_v (r_mv (v := .slice a1 n c1) rfl) ?_
      refine Wl_v (r_len Try.underlying53 rfl) ?_
      refine Wl_v (r_lt rfl rfl) ?_
      refine Wl_nil ?_
      by_cases q6 : ((k : Nat) : Int) < ((n : Nat) : Int)
      ·rw [decide_eq_true q6]
       refine W_cond_t rfl ?_
       refine W_skip ?_
       refine W_seq ?_
       refine W_block ?_
       refine W_seq ?_
       refine W_region ?_
       refine Wl_v (r_mv (v := .slice a1 n c1) rfl) ?_
       refine Wl_v (r_mv (v := .int .i64 ((k : Nat) : Int)) rfl) ?_
       refine Wl_idxr (0, 0) encC_len (by decide) Try.underlying53 Try.sizeOf67 rfl rfl hO1.sl (by omega) (by omega) ?_
       intro ib3 io3 hc3
       try rw [Int.toNat_natCast] at hc3
       refine Wl_v (r_fld Try.underlying67 rfl Try.sizeOf3 rfl rfl) ?_
       refine Wl_loadc (v := .int .i64 (((cds l).getD k (0, 0)).1)) Try.isAgg3 rfl (hc3 0 (by decide)) ?_
       refine Wl_v (r_as (v := .int .i64 (((cds l).getD k (0, 0)).1)) rfl) ?_
       refine Wl_nil ?_
       refine W_seq ?_
       refine W_drawt rfl (l0 := tf 0 21) (by kernel_rfl) ?_
       refine Tk 0 (tf 1 21) rfl (YI_v (v := .int .i64 (((cds l).getD k (0, 0)).1)) rfl (fun w' hw' => r_mv (v := .int .i64 (((cds l).getD k (0, 0)).1)) rfl)) ?_
       refine Tk 1 (tf 2 21) rfl (YI_v (v := .bool (decide (0 < (((cds l).getD k (0, 0)).1)))) rfl (fun w' hw' => r_gt rfl rfl)) ?_
       refine Tk 2 (tf 3 21) rfl (YI_v (v := .bool (decide (0 < (((cds l).getD k (0, 0)).1)))) rfl (fun w' hw' => r_mv (v := .bool (decide (0 < (((cds l).getD k (0, 0)).1)))) rfl)) ?_
       by_cases q7 : 0 < (((cds l).getD k (0, 0)).1)
       ·have hcb := cds_bd hr k
        rw [decide_eq_true q7]
        refine Tk 3 (tf 4 21) rfl (YI_v (v := .int .i64 (((cds l).getD k (0, 0)).1)) rfl (fun w' hw' => r_mv (v := .int .i64 (((cds l).getD k (0, 0)).1)) rfl)) ?_
        refine Tk 4 (tf 5 21) rfl (YI_v (v := .int .i64 m) rfl (fun w' hw' => r_mv (v := .int .i64 m) rfl)) ?_
        refine Tk 5 (tf 6 21) rfl (YI_v (v := .bool (decide ((((cds l).getD k (0, 0)).1) ≤ m))) rfl (fun w' hw' => r_le rfl rfl)) ?_
        refine Tk 6 (tf 7 21) rfl (YI_v rfl (fun w' hw' => r_pick_t (v := .bool (decide ((((cds l).getD k (0, 0)).1) ≤ m))) rfl rfl)) ?_
        refine Tk 7 (tf 8 21) rfl (YI_v (v := .bool (decide ((((cds l).getD k (0, 0)).1) ≤ m))) rfl (fun w' hw' => r_mv (v := .bool (decide ((((cds l).getD k (0, 0)).1) ≤ m))) rfl)) ?_
        by_cases q8 : (((cds l).getD k (0, 0)).1) ≤ m
        ·have hcb := cds_bd hr k
         rw [decide_eq_true q8]
         refine Tk 8 (tf 9 21) rfl (YI_v (v := .int .u64 bits) rfl (fun w' hw' => r_mv (v := .int .u64 bits) rfl)) ?_
         refine Tk 9 (tf 10 21) rfl (YI_v (v := .int .i64 m) rfl (fun w' hw' => r_mv (v := .int .i64 m) rfl)) ?_
         refine Tk 10 (tf 11 21) rfl (YI_v (v := .int .i64 (((cds l).getD k (0, 0)).1)) rfl (fun w' hw' => r_mv (v := .int .i64 (((cds l).getD k (0, 0)).1)) rfl)) ?_
         refine Tk 11 (tf 12 21) rfl (YI_v (v := .int .i64 (m - (((cds l).getD k (0, 0)).1))) rfl (fun w' hw' => r_sub rfl rfl (wi64 (by omega) (by omega)))) ?_
         refine Tk 12 (tf 13 21) rfl (YI_v (v := .int .u64 (bits / 2 ^ (min (m - (((cds l).getD k (0, 0)).1)).toNat IntKind.u64.bits))) rfl (fun w' hw' => r_shr rfl rfl (by omega) rfl)) ?_
         refine Tk 13 (tf 14 21) rfl (YI_v (v := .slice a1 n c1) rfl (fun w' hw' => r_mv (v := .slice a1 n c1) rfl)) ?_
         refine Tk 14 (tf 15 21) rfl (YI_v (v := .int .i64 ((k : Nat) : Int)) rfl (fun w' hw' => r_mv (v := .int .i64 ((k : Nat) : Int)) rfl)) ?_
         obtain ⟨ib4, io4, ha4, hib4, hc4⟩ := Sl.rat (0, 0) encC_len (by decide) (hO1.sl) (i := k) (by omega)
         refine Tk 15 (tf 16 21) rfl (YI_v (v := .pointer (some ⟨ib4, io4 + k * 2, none⟩)) rfl (fun w' hw' => r_idx (b := ib4) (off := io4) (m := n) (c := c1) (o' := io4 + k * 2) Try.underlying53 Try.sizeOf67 (by rw [← ha4]; rfl) rfl (by omega) (by omega) (by omega))) ?_
         refine Tk 16 (tf 17 21) rfl (YI_v (v := .pointer (some ⟨ib4, io4 + k * 2 + 1, none⟩)) rfl (fun w' hw' => r_fld Try.underlying67 rfl Try.sizeOf65 rfl rfl)) ?_
         refine Tk 17 (tf 18 21) rfl (YI_v (v := .int .u32 (((cds l).getD k (0, 0)).2)) rfl (fun w' hw' => r_load (v := .int .u32 (((cds l).getD k (0, 0)).2)) Try.isAgg65 rfl (hw'.cellk (hc4 1 (by decide))))) ?_
         refine Tk 18 (tf 19 21) rfl (YI_v (v := .int .u64 (((cds l).getD k (0, 0)).2)) rfl (fun w' hw' => r_cvt Try.underlying65 Try.underlying55 rfl (wu64 (by omega) (by omega)))) ?_
         refine Tk 19 (tf 20 21) rfl (YI_v (v := .bool (decide ((bits / 2 ^ (min (m - (((cds l).getD k (0, 0)).1)).toNat IntKind.u64.bits)) = (((cds l).getD k (0, 0)).2)))) rfl (fun w' hw' => r_eq rfl rfl)) ?_
         refine Tk 20 (tf 21 21) rfl (YI_v rfl (fun w' hw' => r_pick_t (v := .bool (decide ((bits / 2 ^ (min (m - (((cds l).getD k (0, 0)).1)).toNat IntKind.u64.bits)) = (((cds l).getD k (0, 0)).2)))) rfl rfl)) ?_
         intro w5 hU5
         have hzw5 := hU5.size
         replace HU := HU.trans0 hU5
         replace HL2 := HL2.trans0 hU5
         refine Wa_done (by kernel_rfl) ?_
         by_cases q9 : (bits / 2 ^ (min (m - (((cds l).getD k (0, 0)).1)).toNat IntKind.u64.bits)) = (((cds l).getD k (0, 0)).2)
         ·have hcb := cds_bd hr k
          rw [decide_eq_true q9]
          refine W_cond_t rfl ?_
          refine W_seq ?_
          refine W_region ?_
          refine Wl_v (r_mv (v := .int .i64 ((k : Nat) : Int)) rfl) ?_
          refine Wl_v (r_mv (v := .int .i64 (((cds l).getD k (0, 0)).1)) rfl) ?_
          refine Wl_v (r_as (v := .int .i64 ((k : Nat) : Int)) rfl) ?_
          refine Wl_v (r_as (v := .int .i64 (((cds l).getD k (0, 0)).1)) rfl) ?_
          refine Wl_v (r_as (v := .int .i64 0) rfl) ?_
          refine Wl_nil ?_
          refine W_ret ?_
          refine ret_end (v := .tuple #[.int .i64 ((k : Nat) : Int), .int .i64 (((cds l).getD k (0, 0)).1), .int .i64 0]) rfl (res3 Try.results58 rfl rfl rfl) ?_
          have hfx := fidx_at (0, 0) (q := qrd bits m) (l := cds l) (k := k) (by rw [cds_len]; omega) hall (show qrd bits m ((cds l).getD k (0, 0)) = true by unfold qrd; rw [decide_eq_true_iff]; exact ⟨by omega, by omega, q9⟩)
          rw [dec_ok q1 (show Va bits m from ⟨by omega, by have hp0 := pdiv0 bits m (by omega); omega⟩) (by omega), hfx]
          exact ⟨_, rfl, (vtup3 (by first | rfl | exact vint (by omega)) (by first | rfl | exact vint (by omega)) (by first | rfl | exact vint (by omega))), HU⟩
         ·have hcb := cds_bd hr k
          rw [decide_eq_false q9]
          refine W_cond_f rfl ?_
          refine W_skip ?_
          refine W_region ?_
          refine Wl_v (r_mv (v := .int .i64 ((k : Nat) : Int)) rfl) ?_
          refine Wl_v (r_add rfl rfl (wi64 (by omega) (by omega))) ?_
          refine Wl_v (r_as (v := .int .i64 (((k : Nat) : Int) + 1)) rfl) ?_
          refine Wl_nil ?_
          refine ⟨_, ?_, (k + 1), rfl, rfl, ⟨rfl, rfl, rfl, (by first | rfl | exact vint (by omega) | exact vint (by simp)), trivial⟩, (by omega), (fun i hi => by rcases Nat.lt_or_ge i k with h | h; exact hall i h; rw [show i = k from by omega]; exact (show qrd bits m ((cds l).getD k (0, 0)) = false by unfold qrd; rw [decide_eq_false_iff_not]; exact fun h => q9 h.2.2)), HL2⟩
          omega
        ·have hcb := cds_bd hr k
         rw [decide_eq_false q8]
         refine Tk 8 (tf 9 21) rfl (YI_no rfl) ?_
         refine Tk 9 (tf 10 21) rfl (YI_no rfl) ?_
         refine Tk 10 (tf 11 21) rfl (YI_no rfl) ?_
         refine Tk 11 (tf 12 21) rfl (YI_no rfl) ?_
         refine Tk 12 (tf 13 21) rfl (YI_no rfl) ?_
         refine Tk 13 (tf 14 21) rfl (YI_no rfl) ?_
         refine Tk 14 (tf 15 21) rfl (YI_no rfl) ?_
         refine Tk 15 (tf 16 21) rfl (YI_no rfl) ?_
         refine Tk 16 (tf 17 21) rfl (YI_no rfl) ?_
         refine Tk 17 (tf 18 21) rfl (YI_no rfl) ?_
         refine Tk 18 (tf 19 21) rfl (YI_no rfl) ?_
         refine Tk 19 (tf 20 21) rfl (YI_no rfl) ?_
         refine Tk 20 (tf 21 21) rfl (YI_v rfl (fun w' hw' => r_pick_f (v := .bool false) rfl rfl)) ?_
         intro w6 hU6
         have hzw6 := hU6.size
         replace HL2 := HL2.trans0 hU6
         refine Wa_done (by kernel_rfl) ?_
         refine W_cond_f rfl ?_
         refine W_skip ?_
         refine W_region ?_
         refine Wl_v (r_mv (v := .int .i64 ((k : Nat) : Int)) rfl) ?_
         refine Wl_v (r_add rfl rfl (wi64 (by omega) (by omega))) ?_
         refine Wl_v (r_as (v := .int .i64 (((k : Nat) : Int) + 1)) rfl) ?_
         refine Wl_nil ?_
         refine ⟨_, ?_, (k + 1), rfl, rfl, ⟨rfl, rfl, rfl, (by first | rfl | exact vint (by omega) | exact vint (by simp)), trivial⟩, (by omega), (fun i hi => by rcases Nat.lt_or_ge i k with h | h; exact hall i h; rw [show i = k from by omega]; exact (show qrd bits m ((cds l).getD k (0, 0)) = false by unfold qrd; rw [decide_eq_false_iff_not]; exact fun h => by omega)), HL2⟩
         omega
       ·have hcb := cds_bd hr k
        rw [decide_eq_false q7]
        refine Tk 3 (tf 4 21) rfl (YI_no rfl) ?_
        refine Tk 4 (tf 5 21) rfl (YI_no rfl) ?_
        refine Tk 5 (tf 6 21) rfl (YI_no rfl) ?_
        refine Tk 6 (tf 7 21) rfl (YI_v rfl (fun w' hw' => r_pick_f (v := .bool false) rfl rfl)) ?_
        refine Tk 7 (tf 8 21) rfl (YI_v (v := .bool false) rfl (fun w' hw' => r_mv (v := .bool false) rfl)) ?_
        refine Tk 8 (tf 9 21) rfl (YI_no rfl) ?_
        refine Tk 9 (tf 10 21) rfl (YI_no rfl) ?_
        refine Tk 10 (tf 11 21) rfl (YI_no rfl) ?_
        refine Tk 11 (tf 12 21) rfl (YI_no rfl) ?_
        refine Tk 12 (tf 13 21) rfl (YI_no rfl) ?_
        refine Tk 13 (tf 14 21) rfl (YI_no rfl) ?_
        refine Tk 14 (tf 15 21) rfl (YI_no rfl) ?_
        refine Tk 15 (tf 16 21) rfl (YI_no rfl) ?_
        refine Tk 16 (tf 17 21) rfl (YI_no rfl) ?_
        refine Tk 17 (tf 18 21) rfl (YI_no rfl) ?_
        refine Tk 18 (tf 19 21) rfl (YI_no rfl) ?_
        refine Tk 19 (tf 20 21) rfl (YI_no rfl) ?_
        refine Tk 20 (tf 21 21) rfl (YI_v rfl (fun w' hw' => r_pick_f (v := .bool false) rfl rfl)) ?_
        intro w7 hU7
        have hzw7 := hU7.size
        replace HL2 := HL2.trans0 hU7
        refine Wa_done (by kernel_rfl) ?_
        refine W_cond_f rfl ?_
        refine W_skip ?_
        refine W_region ?_
        refine Wl_v (r_mv (v := .int .i64 ((k : Nat) : Int)) rfl) ?_
        refine Wl_v (r_add rfl rfl (wi64 (by omega) (by omega))) ?_
        refine Wl_v (r_as (v := .int .i64 (((k : Nat) : Int) + 1)) rfl) ?_
        refine Wl_nil ?_
        refine ⟨_, ?_, (k + 1), rfl, rfl, ⟨rfl, rfl, rfl, (by first | rfl | exact vint (by omega) | exact vint (by simp)), trivial⟩, (by omega), (fun i hi => by rcases Nat.lt_or_ge i k with h | h; exact hall i h; rw [show i = k from by omega]; exact (show qrd bits m ((cds l).getD k (0, 0)) = false by unfold qrd; rw [decide_eq_false_iff_not]; exact fun h => by omega)), HL2⟩
        omega
      ·rw [decide_eq_false q6]
       refine W_cond_f rfl ?_
       refine W_exit ?_
       refine W_seq ?_
       refine W_region ?_
       refine Wl_v (r_as (v := .int .i64 0) rfl) ?_
       refine Wl_v (r_as (v := .int .i64 0) rfl) ?_
       refine Wl_v (r_as (v := .int .i64 3) rfl) ?_
       refine Wl_nil ?_
       refine W_ret ?_
       refine ret_end (v := .tuple #[.int .i64 0, .int .i64 0, .int .i64 3]) rfl (res3 Try.results58 rfl rfl rfl) ?_
       have hfx := fidx_none (0, 0) (q := qrd bits m) (l := cds l) (fun i hi => hall i (by rw [cds_len] at hi; omega))
       rw [dec_short q1 (show Va bits m from ⟨by omega, by have hp0 := pdiv0 bits m (by omega); omega⟩) (by omega)]
       exact ⟨_, rfl, (vtup3 (by first | rfl | exact vint (by omega)) (by first | rfl | exact vint (by omega)) (by first | rfl | exact vint (by omega))), HU⟩
    ·rw [decide_eq_false q4]
     refine Wl_guard_f rfl ?_
     refine Wl_guard_f rfl ?_
     refine Wl_guard_f rfl ?_
     refine Wl_guard_f rfl ?_
     refine Wl_guard_t rfl ?_
     refine Wl_v (r_pick_f (v := .bool false) rfl rfl) ?_
     refine Wl_v (r_pick_f (v := .bool false) rfl rfl) ?_
     refine Wl_nil ?_
     refine W_cond_f rfl ?_
     refine W_skip ?_
     refine W_seq ?_
     refine W_seq ?_
     refine W_region ?_
     refine Wl_v (r_as (v := .int .i64 0) rfl) ?_
     refine Wl_nil ?_
     refine W_block ?_
     refine W_loop (fun mu ρ ds w' => ∃ (k : Nat), n - k = mu ∧ ds = [] ∧ Liv ρ [(1, .int .u64 bits), (2, .int .i64 m), (9, .slice a1 n c1), (11, .int .i64 ((k : Nat) : Int))] ∧ k ≤ n ∧ (∀ i, i < k → qrd bits m ((cds l).getD i (0, 0)) = false) ∧ Upd No w1 w') _ ⟨0, rfl, rfl, ⟨rfl, rfl, rfl, (by first | rfl | exact vint (by omega) | exact vint (by simp)), trivial⟩, (by omega), (fun i hi => absurd hi (by omega)), Upd.refl _ _⟩ ?_
     rintro m8 ρ8 ds8 w8 ⟨k, rfl, rfl, hl8, hk, hall, hU8⟩
     obtain ⟨ρ8x, rfl⟩ : ∃ ρx, ρ8 = upds ρx [(1, .int .u64 bits), (2, .int .i64 m), (9, .slice a1 n c1), (11, .int .i64 ((k : Nat) : Int))] := ⟨_, upds_self hl8⟩
     clear hl8
     have hzw8 := hU8.size
     replace HU := HU.trans0 hU8
     replace hO1 := hO1.upd0 hU8
     have HL8 := hU8
     refine W_seq ?_
     refine W_seq ?_
     refine W_region ?_
     refine Wl_v (r_mv (v := .int .i64 ((k : Nat) : Int)) rfl) ?_
     refine Wl_v (r_mv (v := .slice a1 n c1) rfl) ?_
     refine Wl_v (r_len Try.underlying53 rfl) ?_
     refine Wl_v (r_lt rfl rfl) ?_
     refine Wl_nil ?_
     by_cases q10 : ((k : Nat) : Int) < ((n : Nat) : Int)
     ·rw [decide_eq_true q10]
      refine W_cond_t rfl ?_
      refine W_skip ?_
      refine W_seq ?_
      refine W_block ?_
      refine W_seq ?_
      refine W_region ?_
      refine Wl_v (r_mv (v := .slice a1 n c1) rfl) ?_
      refine Wl_v (r_mv (v := .int .i64 ((k : Nat) : Int)) rfl) ?_
      refine Wl_idxr (0, 0) encC_len (by decide) Try.underlying53 Try.sizeOf67 rfl rfl hO1.sl (by omega) (by omega) ?_
      intro ib9 io9 hc9
      try rw [Int.toNat_natCast] at hc9
      refine Wl_v (r_fld Try.underlying67 rfl Try.sizeOf3 rfl rfl) ?_
      refine Wl_loadc (v := .int .i64 (((cds l).getD k (0, 0)).1)) Try.isAgg3 rfl (hc9 0 (by decide)) ?_
      refine Wl_v (r_as (v := .int .i64 (((cds l).getD k (0, 0)).1)) rfl) ?_
      refine Wl_nil ?_
      refine W_seq ?_
      refine W_drawt rfl (l0 := tf 0 21) (by kernel_rfl) ?_
      refine Tk 0 (tf 1 21) rfl (YI_v (v := .int .i64 (((cds l).getD k (0, 0)).1)) rfl (fun w' hw' => r_mv (v := .int .i64 (((cds l).getD k (0, 0)).1)) rfl)) ?_
      refine Tk 1 (tf 2 21) rfl (YI_v (v := .bool (decide (0 < (((cds l).getD k (0, 0)).1)))) rfl (fun w' hw' => r_gt rfl rfl)) ?_
      refine Tk 2 (tf 3 21) rfl (YI_v (v := .bool (decide (0 < (((cds l).getD k (0, 0)).1)))) rfl (fun w' hw' => r_mv (v := .bool (decide (0 < (((cds l).getD k (0, 0)).1)))) rfl)) ?_
      by_cases q11 : 0 < (((cds l).getD k (0, 0)).1)
      ·have hcb := cds_bd hr k
       rw [decide_eq_true q11]
       refine Tk 3 (tf 4 21) rfl (YI_v (v := .int .i64 (((cds l).getD k (0, 0)).1)) rfl (fun w' hw' => r_mv (v := .int .i64 (((cds l).getD k (0, 0)).1)) rfl)) ?_
       refine Tk 4 (tf 5 21) rfl (YI_v (v := .int .i64 m) rfl (fun w' hw' => r_mv (v := .int .i64 m) rfl)) ?_
       refine Tk 5 (tf 6 21) rfl (YI_v (v := .bool (decide ((((cds l).getD k (0, 0)).1) ≤ m))) rfl (fun w' hw' => r_le rfl rfl)) ?_
       refine Tk 6 (tf 7 21) rfl (YI_v rfl (fun w' hw' => r_pick_t (v := .bool (decide ((((cds l).getD k (0, 0)).1) ≤ m))) rfl rfl)) ?_
       refine Tk 7 (tf 8 21) rfl (YI_v (v := .bool (decide ((((cds l).getD k (0, 0)).1) ≤ m))) rfl (fun w' hw' => r_mv (v := .bool (decide ((((cds l).getD k (0, 0)).1) ≤ m))) rfl)) ?_
       by_cases q12 : (((cds l).getD k (0, 0)).1) ≤ m
       ·have hcb := cds_bd hr k
        rw [decide_eq_true q12]
        refine Tk 8 (tf 9 21) rfl (YI_v (v := .int .u64 bits) rfl (fun w' hw' => r_mv (v := .int .u64 bits) rfl)) ?_
        refine Tk 9 (tf 10 21) rfl (YI_v (v := .int .i64 m) rfl (fun w' hw' => r_mv (v := .int .i64 m) rfl)) ?_
        refine Tk 10 (tf 11 21) rfl (YI_v (v := .int .i64 (((cds l).getD k (0, 0)).1)) rfl (fun w' hw' => r_mv (v := .int .i64 (((cds l).getD k (0, 0)).1)) rfl)) ?_
        refine Tk 11 (tf 12 21) rfl (YI_v (v := .int .i64 (m - (((cds l).getD k (0, 0)).1))) rfl (fun w' hw' => r_sub rfl rfl (wi64 (by omega) (by omega)))) ?_
        refine Tk 12 (tf 13 21) rfl (YI_v (v := .int .u64 (bits / 2 ^ (min (m - (((cds l).getD k (0, 0)).1)).toNat IntKind.u64.bits))) rfl (fun w' hw' => r_shr rfl rfl (by omega) rfl)) ?_
        refine Tk 13 (tf 14 21) rfl (YI_v (v := .slice a1 n c1) rfl (fun w' hw' => r_mv (v := .slice a1 n c1) rfl)) ?_
        refine Tk 14 (tf 15 21) rfl (YI_v (v := .int .i64 ((k : Nat) : Int)) rfl (fun w' hw' => r_mv (v := .int .i64 ((k : Nat) : Int)) rfl)) ?_
        obtain ⟨ib10, io10, ha10, hib10, hc10⟩ := Sl.rat (0, 0) encC_len (by decide) (hO1.sl) (i := k) (by omega)
        refine Tk 15 (tf 16 21) rfl (YI_v (v := .pointer (some ⟨ib10, io10 + k * 2, none⟩)) rfl (fun w' hw' => r_idx (b := ib10) (off := io10) (m := n) (c := c1) (o' := io10 + k * 2) Try.underlying53 Try.sizeOf67 (by rw [← ha10]; rfl) rfl (by omega) (by omega) (by omega))) ?_
        refine Tk 16 (tf 17 21) rfl (YI_v (v := .pointer (some ⟨ib10, io10 + k * 2 + 1, none⟩)) rfl (fun w' hw' => r_fld Try.underlying67 rfl Try.sizeOf65 rfl rfl)) ?_
        refine Tk 17 (tf 18 21) rfl (YI_v (v := .int .u32 (((cds l).getD k (0, 0)).2)) rfl (fun w' hw' => r_load (v := .int .u32 (((cds l).getD k (0, 0)).2)) Try.isAgg65 rfl (hw'.cellk (hc10 1 (by decide))))) ?_
        refine Tk 18 (tf 19 21) rfl (YI_v (v := .int .u64 (((cds l).getD k (0, 0)).2)) rfl (fun w' hw' => r_cvt Try.underlying65 Try.underlying55 rfl (wu64 (by omega) (by omega)))) ?_
        refine Tk 19 (tf 20 21) rfl (YI_v (v := .bool (decide ((bits / 2 ^ (min (m - (((cds l).getD k (0, 0)).1)).toNat IntKind.u64.bits)) = (((cds l).getD k (0, 0)).2)))) rfl (fun w' hw' => r_eq rfl rfl)) ?_
        refine Tk 20 (tf 21 21) rfl (YI_v rfl (fun w' hw' => r_pick_t (v := .bool (decide ((bits / 2 ^ (min (m - (((cds l).getD k (0, 0)).1)).toNat IntKind.u64.bits)) = (((cds l).getD k (0, 0)).2)))) rfl rfl)) ?_
        intro w11 hU11
        have hzw11 := hU11.size
        replace HU := HU.trans0 hU11
        replace HL8 := HL8.trans0 hU11
        refine Wa_done (by kernel_rfl) ?_
        by_cases q13 : (bits / 2 ^ (min (m - (((cds l).getD k (0, 0)).1)).toNat IntKind.u64.bits)) = (((cds l).getD k (0, 0)).2)
        ·have hcb := cds_bd hr k
         rw [decide_eq_true q13]
         refine W_cond_t rfl ?_
         refine W_seq ?_
         refine W_region ?_
         refine Wl_v (r_mv (v := .int .i64 ((k : Nat) : Int)) rfl) ?_
         refine Wl_v (r_mv (v := .int .i64 (((cds l).getD k (0, 0)).1)) rfl) ?_
         refine Wl_v (r_as (v := .int .i64 ((k : Nat) : Int)) rfl) ?_
         refine Wl_v (r_as (v := .int .i64 (((cds l).getD k (0, 0)).1)) rfl) ?_
         refine Wl_v (r_as (v := .int .i64 0) rfl) ?_
         refine Wl_nil ?_
         refine W_ret ?_
         refine ret_end (v := .tuple #[.int .i64 ((k : Nat) : Int), .int .i64 (((cds l).getD k (0, 0)).1), .int .i64 0]) rfl (res3 Try.results58 rfl rfl rfl) ?_
         have hfx := fidx_at (0, 0) (q := qrd bits m) (l := cds l) (k := k) (by rw [cds_len]; omega) hall (show qrd bits m ((cds l).getD k (0, 0)) = true by unfold qrd; rw [decide_eq_true_iff]; exact ⟨by omega, by omega, q13⟩)
         rw [dec_ok q1 (show Va bits m from ⟨by omega, by have hp0 := pdiv0 bits m (by omega); omega⟩) (by omega), hfx]
         exact ⟨_, rfl, (vtup3 (by first | rfl | exact vint (by omega)) (by first | rfl | exact vint (by omega)) (by first | rfl | exact vint (by omega))), HU⟩
        ·have hcb := cds_bd hr k
         rw [decide_eq_false q13]
         refine W_cond_f rfl ?_
         refine W_skip ?_
         refine W_region ?_
         refine Wl_v (r_mv (v := .int .i64 ((k : Nat) : Int)) rfl) ?_
         refine Wl_v (r_add rfl rfl (wi64 (by omega) (by omega))) ?_
         refine Wl_v (r_as (v := .int .i64 (((k : Nat) : Int) + 1)) rfl) ?_
         refine Wl_nil ?_
         refine ⟨_, ?_, (k + 1), rfl, rfl, ⟨rfl, rfl, rfl, (by first | rfl | exact vint (by omega) | exact vint (by simp)), trivial⟩, (by omega), (fun i hi => by rcases Nat.lt_or_ge i k with h | h; exact hall i h; rw [show i = k from by omega]; exact (show qrd bits m ((cds l).getD k (0, 0)) = false by unfold qrd; rw [decide_eq_false_iff_not]; exact fun h => q13 h.2.2)), HL8⟩
         omega
       ·have hcb := cds_bd hr k
        rw [decide_eq_false q12]
        refine Tk 8 (tf 9 21) rfl (YI_no rfl) ?_
        refine Tk 9 (tf 10 21) rfl (YI_no rfl) ?_
        refine Tk 10 (tf 11 21) rfl (YI_no rfl) ?_
        refine Tk 11 (tf 12 21) rfl (YI_no rfl) ?_
        refine Tk 12 (tf 13 21) rfl (YI_no rfl) ?_
        refine Tk 13 (tf 14 21) rfl (YI_no rfl) ?_
        refine Tk 14 (tf 15 21) rfl (YI_no rfl) ?_
        refine Tk 15 (tf 16 21) rfl (YI_no rfl) ?_
        refine Tk 16 (tf 17 21) rfl (YI_no rfl) ?_
        refine Tk 17 (tf 18 21) rfl (YI_no rfl) ?_
        refine Tk 18 (tf 19 21) rfl (YI_no rfl) ?_
        refine Tk 19 (tf 20 21) rfl (YI_no rfl) ?_
        refine Tk 20 (tf 21 21) rfl (YI_v rfl (fun w' hw' => r_pick_f (v := .bool false) rfl rfl)) ?_
        intro w12 hU12
        have hzw12 := hU12.size
        replace HL8 := HL8.trans0 hU12
        refine Wa_done (by kernel_rfl) ?_
        refine W_cond_f rfl ?_
        refine W_skip ?_
        refine W_region ?_
        refine Wl_v (r_mv (v := .int .i64 ((k : Nat) : Int)) rfl) ?_
        refine Wl_v (r_add rfl rfl (wi64 (by omega) (by omega))) ?_
        refine Wl_v (r_as (v := .int .i64 (((k : Nat) : Int) + 1)) rfl) ?_
        refine Wl_nil ?_
        refine ⟨_, ?_, (k + 1), rfl, rfl, ⟨rfl, rfl, rfl, (by first | rfl | exact vint (by omega) | exact vint (by simp)), trivial⟩, (by omega), (fun i hi => by rcases Nat.lt_or_ge i k with h | h; exact hall i h; rw [show i = k from by omega]; exact (show qrd bits m ((cds l).getD k (0, 0)) = false by unfold qrd; rw [decide_eq_false_iff_not]; exact fun h => by omega)), HL8⟩
        omega
      ·have hcb := cds_bd hr k
       rw [decide_eq_false q11]
       refine Tk 3 (tf 4 21) rfl (YI_no rfl) ?_
       refine Tk 4 (tf 5 21) rfl (YI_no rfl) ?_
       refine Tk 5 (tf 6 21) rfl (YI_no rfl) ?_
       refine Tk 6 (tf 7 21) rfl (YI_v rfl (fun w' hw' => r_pick_f (v := .bool false) rfl rfl)) ?_
       refine Tk 7 (tf 8 21) rfl (YI_v (v := .bool false) rfl (fun w' hw' => r_mv (v := .bool false) rfl)) ?_
       refine Tk 8 (tf 9 21) rfl (YI_no rfl) ?_
       refine Tk 9 (tf 10 21) rfl (YI_no rfl) ?_
       refine Tk 10 (tf 11 21) rfl (YI_no rfl) ?_
       refine Tk 11 (tf 12 21) rfl (YI_no rfl) ?_
       refine Tk 12 (tf 13 21) rfl (YI_no rfl) ?_
       refine Tk 13 (tf 14 21) rfl (YI_no rfl) ?_
       refine Tk 14 (tf 15 21) rfl (YI_no rfl) ?_
       refine Tk 15 (tf 16 21) rfl (YI_no rfl) ?_
       refine Tk 16 (tf 17 21) rfl (YI_no rfl) ?_
       refine Tk 17 (tf 18 21) rfl (YI_no rfl) ?_
       refine Tk 18 (tf 19 21) rfl (YI_no rfl) ?_
       refine Tk 19 (tf 20 21) rfl (YI_no rfl) ?_
       refine Tk 20 (tf 21 21) rfl (YI_v rfl (fun w' hw' => r_pick_f (v := .bool false) rfl rfl)) ?_
       intro w13 hU13
       have hzw13 := hU13.size
       replace HL8 := HL8.trans0 hU13
       refine Wa_done (by kernel_rfl) ?_
       refine W_cond_f rfl ?_
       refine W_skip ?_
       refine W_region ?_
       refine Wl_v (r_mv (v := .int .i64 ((k : Nat) : Int)) rfl) ?_
       refine Wl_v (r_add rfl rfl (wi64 (by omega) (by omega))) ?_
       refine Wl_v (r_as (v := .int .i64 (((k : Nat) : Int) + 1)) rfl) ?_
       refine Wl_nil ?_
       refine ⟨_, ?_, (k + 1), rfl, rfl, ⟨rfl, rfl, rfl, (by first | rfl | exact vint (by omega) | exact vint (by simp)), trivial⟩, (by omega), (fun i hi => by rcases Nat.lt_or_ge i k with h | h; exact hall i h; rw [show i = k from by omega]; exact (show qrd bits m ((cds l).getD k (0, 0)) = false by unfold qrd; rw [decide_eq_false_iff_not]; exact fun h => by omega)), HL8⟩
       omega
     ·rw [decide_eq_false q10]
      refine W_cond_f rfl ?_
      refine W_exit ?_
      refine W_seq ?_
      refine W_region ?_
      refine Wl_v (r_as (v := .int .i64 0) rfl) ?_
      refine Wl_v (r_as (v := .int .i64 0) rfl) ?_
      refine Wl_v (r_as (v := .int .i64 3) rfl) ?_
      refine Wl_nil ?_
      refine W_ret ?_
      refine ret_end (v := .tuple #[.int .i64 0, .int .i64 0, .int .i64 3]) rfl (res3 Try.results58 rfl rfl rfl) ?_
      have hfx := fidx_none (0, 0) (q := qrd bits m) (l := cds l) (fun i hi => hall i (by rw [cds_len] at hi; omega))
      rw [dec_short q1 (show Va bits m from ⟨by omega, by have hp0 := pdiv0 bits m (by omega); omega⟩) (by omega)]
      exact ⟨_, rfl, (vtup3 (by first | rfl | exact vint (by omega)) (by first | rfl | exact vint (by omega)) (by first | rfl | exact vint (by omega))), HU⟩
 ·refine Wl_call (r_call1 rfl Try.call40 rfl) (rcodes_no _ hs (by omega) q1) ?_
  rintro v w14 ⟨rfl, hU14⟩
  have hzw14 := hU14.size
  replace HU := HU.trans0 hU14
  refine Wl_v (r_mv (v := .tuple #[.slice none 0 0, .int .i64 12]) rfl) ?_
  refine Wl_v (r_ext (v := .slice none 0 0) rfl rfl) ?_
  refine Wl_v (r_ext (v := .int .i64 12) rfl rfl) ?_
  refine Wl_v (r_as (v := .slice none 0 0) rfl) ?_
  refine Wl_v (r_as (v := .int .i64 12) rfl) ?_
  refine Wl_nil ?_
  refine W_seq ?_
  refine W_seq ?_
  refine W_region ?_
  refine Wl_v (r_mv (v := .int .i64 12) rfl) ?_
  refine Wl_v (v := .bool true) (r_ne (a := 12) (b := 0) rfl rfl) ?_
  refine Wl_nil ?_
  refine W_cond_t rfl ?_
  refine W_seq ?_
  refine W_region ?_
  refine Wl_v (r_mv (v := .int .i64 12) rfl) ?_
  refine Wl_v (r_as (v := .int .i64 0) rfl) ?_
  refine Wl_v (r_as (v := .int .i64 0) rfl) ?_
  refine Wl_v (r_as (v := .int .i64 12) rfl) ?_
  refine Wl_nil ?_
  refine W_ret ?_
  refine ret_end (v := .tuple #[.int .i64 0, .int .i64 0, .int .i64 12]) rfl (res3 Try.results58 rfl rfl rfl) ?_
  rw [dec_no q1]
  exact ⟨_, rfl, (vtup3 (by first | rfl | exact vint (by omega)) (by first | rfl | exact vint (by omega)) (by first | rfl | exact vint (by omega))), HU⟩

end Go.Proofs.Ytilegaokfamfnaa
