/-
  Walks, printed by a small program of this project (gen.py).
-/
import Derived.Test.YtakbopikohghmaaNb
import Derived.Test.YtakbopikohghmaaCe
set_option linter.unusedVariables false
set_option linter.unusedSimpArgs false
namespace Go.Proofs.Ytakbopikohghmaa
open Go.Fw

set_option maxHeartbeats 4000000 in
set_option maxRecDepth 100000 in
theorem canonholds {a : Option Addr} {n c : Nat} {l : List Int} {bits : Int} (w : World) (hs : Sl w (fun g => g < w.heap.size) 1 (.slice a n c) n (ints .i64 l)) (hn : n ≤ 17592186044415) (hbits : 0 ≤ bits ∧ bits < 18446744073709551616) :
    Calls Try.prog 11 #[.slice a n c, .int .u64 bits] w (Ret fun v w' => v = .bool true ∧ Upd No w w') := by
  have HU : Upd (fun b => False) w w := Upd.refl _ _
  have hl_hs := ilen hs
  have hc_hs := hs.cap.1
  refine calls_of_W Try.func11 rfl Try.ntmps11 (by simp) ?_
  refine W_seq ?_
  refine W_region ?_
  refine Wl_alloc (cs := [.bool false]) Try.zeroValue4 rfl ?_
  intro B1 w1 hB1 hU1 hzz1 hb1
  have hzw1 := hU1.size
  replace hs := hs.upd0 hU1
  replace HU := HU.trans0 hU1
  refine Wl_nil ?_
  refine W_seq ?_
  refine W_seq ?_
  refine W_region ?_
  refine Wl_v (r_mv (v := .slice a n c) rfl) ?_
  refine Wl_v (r_len Try.underlying22 rfl) ?_
  refine Wl_v (r_gt rfl rfl) ?_
  refine Wl_v (r_mv (v := .bool (decide (256 < ((n : Nat) : Int)))) rfl) ?_
  by_cases q1 : 256 < ((n : Nat) : Int)
  · rw [decide_eq_true q1]
    refine Wl_guard_f rfl ?_
    refine Wl_guard_f rfl ?_
    refine Wl_guard_f rfl ?_
    refine Wl_guard_f rfl ?_
    refine Wl_v (r_pick_t (v := .bool true) rfl rfl) ?_
    refine Wl_nil ?_
    refine W_cond_t rfl ?_
    refine W_seq ?_
    refine W_region ?_
    refine Wl_call (r_call0 rfl Try.call12 ) (works_spec _ ) ?_
    rintro v w2 ⟨rfl, hU2⟩
    have hzw2 := hU2.size
    replace hs := hs.upd0 hU2
    replace HU := HU.trans0 hU2
    replace hb1 := hb1.upd0 hU2
    refine Wl_store (v := .bool true) (cs' := [.bool true]) Try.sizeOf4 rfl rfl rfl rfl hb1 rfl rfl ?_
    intro w3 hU3 hzz3 hb1n
    replace hb1 := hb1n; clear hb1n
    have hzw3 := hU3.size
    replace hs := hs.upd1 hU3 (by intro h1; have h3 : B1 < w.heap.size := h1; omega)
    replace HU := HU.trans1 hU3 (by show (False) ∨ w.heap.size ≤ B1; omega)
    refine Wl_nil ?_
    refine W_ret ?_
    refine ret_end (v := .bool true) rfl (rc1 Try.results11 rfl (cellIs Try.isAgg4 hb1)) ?_
    exact ⟨_, rfl, rfl, HU⟩
  · rw [decide_eq_false q1]
    refine Wl_guard_t rfl ?_
    refine Wl_v (r_mv (v := .slice a n c) rfl) ?_
    refine Wl_guard_t rfl ?_
    by_cases q2 : Rt l
    · refine Wl_call (r_call1 rfl Try.call15 rfl) (check_ok _ hs (by omega) q2) ?_
      rintro v w4 ⟨rfl, hU4⟩
      have hzw4 := hU4.size
      replace hs := hs.upd0 hU4
      replace HU := HU.trans0 hU4
      replace hb1 := hb1.upd0 hU4
      refine Wl_guard_t rfl ?_
      refine Wl_call (r_call1 rfl Try.call14 rfl) (num_spec _ ) ?_
      rintro v w5 ⟨rfl, hU5⟩
      have hzw5 := hU5.size
      replace hs := hs.upd0 hU5
      replace HU := HU.trans0 hU5
      replace hb1 := hb1.upd0 hU5
      refine Wl_guard_t rfl ?_
      refine Wl_v (v := .bool false) (r_ne (a := 0) (b := 0) rfl rfl) ?_
      refine Wl_v (r_pick_f (v := .bool false) rfl rfl) ?_
      refine Wl_nil ?_
      refine W_cond_f rfl ?_
      refine W_skip ?_
      refine W_seq ?_
      refine W_region ?_
      refine Wl_v (r_mv (v := .slice a n c) rfl) ?_
      have q3 : Rt l := q2
      refine Wl_call (r_call1 rfl Try.call16 rfl) (codes_ok _ hs (by omega) q3) ?_
      rintro v w6 ⟨a6, c6, rfl, hO6, hU6⟩
      have hzw6 := hU6.size
      replace hs := hs.upd0 hU6
      replace HU := HU.trans0 hU6
      replace hb1 := hb1.upd0 hU6
      replace hO6 := hO6.tight
      have hl_hO6 := rlen encC_len (by decide) hO6.sl
      have hc_hO6 := hO6.sl.cap.1
      have hr := q3
      have h256 := hr.2.1
      have hof : (ofc (cds l)).2 = 0 := by rw [ofc_cds hr]
      have hofl : (ofc (cds l)).1.length = n := by rw [ofc_cds hr]; exact hl_hs
      have hclen := cds_len l
      refine Wl_v (r_mv (v := .tuple #[.slice a6 n c6, .int .i64 0]) rfl) ?_
      refine Wl_v (r_ext (v := .slice a6 n c6) rfl rfl) ?_
      refine Wl_v (r_ext (v := .int .i64 0) rfl rfl) ?_
      refine Wl_v (r_as (v := .slice a6 n c6) rfl) ?_
      refine Wl_v (r_as (v := .int .i64 0) rfl) ?_
      refine Wl_nil ?_
      refine W_seq ?_
      refine W_region ?_
      refine Wl_v (r_mv (v := .slice a6 n c6) rfl) ?_
      refine Wl_call (r_call1 rfl Try.call24 rfl) (fromcodes_spec _ hO6.sl (by omega)) ?_
      rintro v w7 ⟨a7, n7, c7, rfl, hO7, hU7⟩
      have hzw7 := hU7.size
      replace hs := hs.upd0 hU7
      replace HU := HU.trans0 hU7
      replace hb1 := hb1.upd0 hU7
      replace hO6 := hO6.upd0 hU7
      replace hO7 := hO7.tight
      have hl_hO7 := ilen hO7.sl
      have hc_hO7 := hO7.sl.cap.1
      refine Wl_v (r_mv (v := .tuple #[.slice a7 n7 c7, .int .i64 ((ofc (cds l)).2)]) rfl) ?_
      refine Wl_v (r_ext (v := .slice a7 n7 c7) rfl rfl) ?_
      refine Wl_v (r_ext (v := .int .i64 ((ofc (cds l)).2)) rfl rfl) ?_
      refine Wl_v (r_as (v := .slice a7 n7 c7) rfl) ?_
      refine Wl_v (r_as (v := .int .i64 ((ofc (cds l)).2)) rfl) ?_
      refine Wl_nil ?_
      refine W_seq ?_
      refine W_seq ?_
      refine W_region ?_
      refine Wl_v (r_mv (v := .int .i64 0) rfl) ?_
      refine Wl_call (r_call1 rfl Try.call14 rfl) (num_spec _ ) ?_
      rintro v w8 ⟨rfl, hU8⟩
      have hzw8 := hU8.size
      replace hs := hs.upd0 hU8
      replace HU := HU.trans0 hU8
      replace hb1 := hb1.upd0 hU8
      replace hO6 := hO6.upd0 hU8
      replace hO7 := hO7.upd0 hU8
      refine Wl_v (r_mv (v := .int .i64 ((ofc (cds l)).2)) rfl) ?_
      refine Wl_call (r_call1 rfl Try.call14 rfl) (num_spec _ ) ?_
      rintro v w9 ⟨rfl, hU9⟩
      have hzw9 := hU9.size
      replace hs := hs.upd0 hU9
      replace HU := HU.trans0 hU9
      replace hb1 := hb1.upd0 hU9
      replace hO6 := hO6.upd0 hU9
      replace hO7 := hO7.upd0 hU9
      refine Wl_v (r_add rfl rfl (wi64 (by omega) (by omega))) ?_
      refine Wl_v (r_ne rfl rfl) ?_
      refine Wl_v (r_mv (v := .bool (decide ((0 + ((ofc (cds l)).2)) ≠ 0))) rfl) ?_
      have q4 : ¬ ((0 + ((ofc (cds l)).2)) ≠ 0) := (by rw [ofc_cds hr]; simp)
      rw [decide_eq_false q4]
      refine Wl_guard_t rfl ?_
      refine Wl_v (r_mv (v := .slice a7 n7 c7) rfl) ?_
      refine Wl_guard_t rfl ?_
      refine Wl_v (r_mv (v := .slice a n c) rfl) ?_
      refine Wl_guard_t rfl ?_
      refine Wl_call (r_call2 rfl Try.call19 rfl rfl) (lints_spec _ hO7.sl hs (by omega)) ?_
      rintro v w10 ⟨rfl, hU10⟩
      have hzw10 := hU10.size
      replace hs := hs.upd0 hU10
      replace HU := HU.trans0 hU10
      replace hb1 := hb1.upd0 hU10
      replace hO6 := hO6.upd0 hU10
      replace hO7 := hO7.upd0 hU10
      refine Wl_guard_t rfl ?_
      refine Wl_v (r_not rfl) ?_
      refine Wl_v (r_pick_f (v := .bool (!decide (((ofc (cds l)).1) = l))) rfl rfl) ?_
      refine Wl_v (r_mv (v := .bool (!decide (((ofc (cds l)).1) = l))) rfl) ?_
      have q5 : ((ofc (cds l)).1) = l := (by rw [ofc_cds hr])
      rw [decide_eq_true q5]
      simp only [Bool.not_true, Bool.not_false]
      refine Wl_guard_t rfl ?_
      refine Wl_v (r_mv (v := .slice a6 n c6) rfl) ?_
      refine Wl_guard_t rfl ?_
      refine Wl_v (r_len Try.underlying28 rfl) ?_
      refine Wl_guard_t rfl ?_
      refine Wl_v (r_mv (v := .slice a n c) rfl) ?_
      refine Wl_guard_t rfl ?_
      refine Wl_v (r_len Try.underlying22 rfl) ?_
      refine Wl_guard_t rfl ?_
      refine Wl_v (r_ne rfl rfl) ?_
      refine Wl_v (r_pick_f (v := .bool (decide (((n : Nat) : Int) ≠ ((n : Nat) : Int)))) rfl rfl) ?_
      refine Wl_nil ?_
      have q6 : ¬ (((n : Nat) : Int) ≠ ((n : Nat) : Int)) := (by omega)
      rw [decide_eq_false q6]
      refine W_cond_f rfl ?_
      refine W_skip ?_
      refine W_seq ?_
      refine W_region ?_
      refine Wl_v (r_mv (v := .int .u64 bits) rfl) ?_
      refine Wl_v (r_rem rfl rfl (by omega) (tr (by omega))) ?_
      refine Wl_v (r_as (v := .int .u64 (bits % 2048)) rfl) ?_
      refine Wl_nil ?_
      refine W_seq ?_
      refine W_region ?_
      refine Wl_v (r_as (v := .int .i64 0) rfl) ?_
      refine Wl_nil ?_
      refine W_seq ?_
      refine W_seq ?_
      refine W_region ?_
      refine Wl_v (r_as (v := .int .i64 0) rfl) ?_
      refine Wl_nil ?_
      refine W_block ?_
      refine W_loop (fun mu ρ ds w' => ∃ (k : Nat), n - k = mu ∧ ds = [] ∧ Liv ρ [(0, .slice a n c), (1, .int .u64 (bits % 2048)), (4, .pointer (some ⟨B1, 0, none⟩)), (5, .slice a6 n c6), (9, .int .i64 (bg (sel l (bits % 2048)) k)), (10, .int .i64 ((k : Nat) : Int))] ∧ k ≤ n ∧ Upd No w10 w') _ ⟨0, rfl, rfl, ⟨rfl, rfl, rfl, rfl, (Eq.trans (b := .int .i64 0) rfl (vint (bg_zero _).symm)), (by first | rfl | exact vint (by omega) | exact vint (by simp)), trivial⟩, (by omega), Upd.refl _ _⟩ ?_
      rintro m11 ρ11 ds11 w11 ⟨k, rfl, rfl, hl11, hk, hU11⟩
      obtain ⟨ρ11x, rfl⟩ : ∃ ρx, ρ11 = upds ρx [(0, .slice a n c), (1, .int .u64 (bits % 2048)), (4, .pointer (some ⟨B1, 0, none⟩)), (5, .slice a6 n c6), (9, .int .i64 (bg (sel l (bits % 2048)) k)), (10, .int .i64 ((k : Nat) : Int))] := ⟨_, upds_self hl11⟩
      clear hl11
      have hzw11 := hU11.size
      replace hs := hs.upd0 hU11
      replace HU := HU.trans0 hU11
      replace hb1 := hb1.upd0 hU11
      replace hO6 := hO6.upd0 hU11
      replace hO7 := hO7.upd0 hU11
      have HL11 := hU11
      refine W_seq ?_
      refine W_seq ?_
      refine W_region ?_
      refine Wl_v (r_mv (v := .int .i64 ((k : Nat) : Int)) rfl) ?_
      refine Wl_v (r_mv (v := .slice a6 n c6) rfl) ?_
      refine Wl_v (r_len Try.underlying28 rfl) ?_
      refine Wl_v (r_lt rfl rfl) ?_
      refine Wl_nil ?_
      by_cases q7 : ((k : Nat) : Int) < ((n : Nat) : Int)
      · have hgd := hr.1.gd k
        have hcb := cds_bd hr k
        have hcf : ((cds l).getD k (0, 0)).1 = l.getD k 0 := by rw [cds_get (by omega), cd_fst hr.1]
        have hbb := bg_bd (sel l (bits % 2048)) k
        rw [decide_eq_true q7]
        refine W_cond_t rfl ?_
        refine W_skip ?_
        refine W_seq ?_
        refine W_block ?_
        refine W_seq ?_
        refine W_seq ?_
        refine W_region ?_
        refine Wl_v (r_mv (v := .slice a n c) rfl) ?_
        refine Wl_v (r_mv (v := .int .i64 ((k : Nat) : Int)) rfl) ?_
        refine Wl_idxi Try.underlying22 Try.sizeOf3 rfl rfl hs (by omega) (by omega) ?_
        intro ib12 io12 hc12
        rw [Int.toNat_natCast] at hc12
        refine Wl_loadc Try.isAgg3 rfl hc12 ?_
        refine Wl_v (r_eq rfl rfl) ?_
        refine Wl_nil ?_
        by_cases q8 : (l.getD k 0) = 0
        · have hbm : bg (sel l (bits % 2048)) (k + 1) = bg (sel l (bits % 2048)) k := bg_miss (fun e => by have := (sel_beg hr (b := bits % 2048) (by omega) (by omega)).2.1; rw [e] at this; omega)
          rw [decide_eq_true q8]
          refine W_cond_t rfl ?_
          refine W_exit ?_
          refine W_region ?_
          refine Wl_v (r_mv (v := .int .i64 ((k : Nat) : Int)) rfl) ?_
          refine Wl_v (r_add rfl rfl (wi64 (by omega) (by omega))) ?_
          refine Wl_v (r_as (v := .int .i64 (((k : Nat) : Int) + 1)) rfl) ?_
          refine Wl_nil ?_
          refine ⟨_, ?_, (k + 1), rfl, rfl, ⟨rfl, rfl, rfl, rfl, (Eq.trans (b := .int .i64 (bg (sel l (bits % 2048)) k)) rfl (vint (by omega))), (Eq.trans (b := .int .i64 (((k : Nat) : Int) + 1)) rfl (vint (by omega))), trivial⟩, (by omega), HL11⟩
          omega
        · have hsy := sy_at hr (k := k) (by omega) (by omega)
          rw [decide_eq_false q8]
          refine W_cond_f rfl ?_
          refine W_skip ?_
          refine W_seq ?_
          refine W_region ?_
          refine Wl_v (r_mv (v := .slice a n c) rfl) ?_
          refine Wl_v (r_mv (v := .slice a6 n c6) rfl) ?_
          refine Wl_v (r_mv (v := .int .i64 ((k : Nat) : Int)) rfl) ?_
          refine Wl_idxr (0, 0) encC_len (by decide) Try.underlying28 Try.sizeOf37 rfl rfl hO6.sl (by omega) (by omega) ?_
          intro ib13 io13 hc13
          try rw [Int.toNat_natCast] at hc13
          refine Wl_v (r_loada (cs := [.int .i64 (((cds l).getD k (0, 0)).1), .int .u32 (((cds l).getD k (0, 0)).2)]) Try.isAgg37 Try.sizeOf37 rfl rfl hc13) ?_
          refine Wl_call (r_call2 rfl Try.call20 rfl rfl) (symbol_spec (c := ((cds l).getD k (0, 0))) _ hs (by omega)) ?_
          rintro v w14 ⟨rfl, hU14⟩
          have hzw14 := hU14.size
          replace hs := hs.upd0 hU14
          replace HU := HU.trans0 hU14
          replace hb1 := hb1.upd0 hU14
          replace hO6 := hO6.upd0 hU14
          replace hO7 := hO7.upd0 hU14
          replace HL11 := HL11.trans0 hU14
          refine Wl_v (r_mv (v := .tuple #[.int .i64 (if 0 ≤ sy l ((cds l).getD k (0, 0)) then sy l ((cds l).getD k (0, 0)) else 0), .bool (decide (0 ≤ sy l ((cds l).getD k (0, 0))))]) rfl) ?_
          refine Wl_v (r_ext (v := .int .i64 (if 0 ≤ sy l ((cds l).getD k (0, 0)) then sy l ((cds l).getD k (0, 0)) else 0)) rfl rfl) ?_
          refine Wl_v (r_ext (v := .bool (decide (0 ≤ sy l ((cds l).getD k (0, 0))))) rfl rfl) ?_
          refine Wl_v (r_as (v := .int .i64 (if 0 ≤ sy l ((cds l).getD k (0, 0)) then sy l ((cds l).getD k (0, 0)) else 0)) rfl) ?_
          refine Wl_v (r_as (v := .bool (decide (0 ≤ sy l ((cds l).getD k (0, 0))))) rfl) ?_
          refine Wl_nil ?_
          refine W_seq ?_
          refine W_seq ?_
          refine W_drawt rfl (l0 := #[false, false, false, false, false, false, false, false, false, false, false, false, false, false, false, false, false, false, false]) (by kernel_rfl) ?_
          refine Wt_take (i := 0) (listed' := #[true, false, false, false, false, false, false, false, false, false, false, false, false, false, false, false, false, false, false]) (by kernel_rfl) rfl (by kernel_rfl) (by kernel_rfl) (by kernel_rfl) (by kernel_rfl) (YI_v (v := .slice a6 n c6) rfl (fun w' hw' => r_mv (v := .slice a6 n c6) rfl)) ?_
          refine Wt_take (i := 1) (listed' := #[true, true, false, false, false, false, false, false, false, false, false, false, false, false, false, false, false, false, false]) (by kernel_rfl) rfl (by kernel_rfl) (by kernel_rfl) (by kernel_rfl) (by kernel_rfl) (YI_v (v := .int .i64 ((k : Nat) : Int)) rfl (fun w' hw' => r_mv (v := .int .i64 ((k : Nat) : Int)) rfl)) ?_
          obtain ⟨ib15, io15, ha15, hib15, hc15⟩ := Sl.rat (0, 0) encC_len (by decide) (hO6.sl) (i := k) (by omega)
          refine Wt_take (i := 2) (listed' := #[true, true, true, false, false, false, false, false, false, false, false, false, false, false, false, false, false, false, false]) (by kernel_rfl) rfl (by kernel_rfl) (by kernel_rfl) (by kernel_rfl) (by kernel_rfl) (YI_v (v := .pointer (some ⟨ib15, io15 + k * 2, none⟩)) rfl (fun w' hw' => r_idx (b := ib15) (off := io15) (m := n) (c := c6) (o' := io15 + k * 2) Try.underlying28 Try.sizeOf37 (by rw [← ha15]; rfl) rfl (by omega) (by omega) (by omega))) ?_
          refine Wt_take (i := 3) (listed' := #[true, true, true, true, false, false, false, false, false, false, false, false, false, false, false, false, false, false, false]) (by kernel_rfl) rfl (by kernel_rfl) (by kernel_rfl) (by kernel_rfl) (by kernel_rfl) (YI_v (v := .pointer (some ⟨ib15, io15 + k * 2, none⟩)) rfl (fun w' hw' => r_fld Try.underlying37 rfl Try.sizeOf3 rfl rfl)) ?_
          refine Wt_take (i := 4) (listed' := #[true, true, true, true, true, false, false, false, false, false, false, false, false, false, false, false, false, false, false]) (by kernel_rfl) rfl (by kernel_rfl) (by kernel_rfl) (by kernel_rfl) (by kernel_rfl) (YI_v (v := .int .i64 (((cds l).getD k (0, 0)).1)) rfl (fun w' hw' => r_load (v := .int .i64 (((cds l).getD k (0, 0)).1)) Try.isAgg3 rfl (hw'.cellk (hc15 0 (by decide))))) ?_
          refine Wt_take (i := 5) (listed' := #[true, true, true, true, true, true, false, false, false, false, false, false, false, false, false, false, false, false, false]) (by kernel_rfl) rfl (by kernel_rfl) (by kernel_rfl) (by kernel_rfl) (by kernel_rfl) (YI_v (v := .slice a n c) rfl (fun w' hw' => r_mv (v := .slice a n c) rfl)) ?_
          refine Wt_take (i := 6) (listed' := #[true, true, true, true, true, true, true, false, false, false, false, false, false, false, false, false, false, false, false]) (by kernel_rfl) rfl (by kernel_rfl) (by kernel_rfl) (by kernel_rfl) (by kernel_rfl) (YI_v (v := .int .i64 ((k : Nat) : Int)) rfl (fun w' hw' => r_mv (v := .int .i64 ((k : Nat) : Int)) rfl)) ?_
          obtain ⟨ib16, io16, ha16, hib16, hc16⟩ := (hs).iat (i := k) (by omega)
          replace hib16 : ib16 < w.heap.size := hib16
          refine Wt_take (i := 7) (listed' := #[true, true, true, true, true, true, true, true, false, false, false, false, false, false, false, false, false, false, false]) (by kernel_rfl) rfl (by kernel_rfl) (by kernel_rfl) (by kernel_rfl) (by kernel_rfl) (YI_v (v := .pointer (some ⟨ib16, io16 + k, none⟩)) rfl (fun w' hw' => r_idx (b := ib16) (off := io16) (m := n) (c := c) (o' := io16 + k) Try.underlying22 Try.sizeOf3 (by rw [← ha16]; rfl) rfl (by omega) (by omega) (by omega))) ?_
          refine Wt_take (i := 8) (listed' := #[true, true, true, true, true, true, true, true, true, false, false, false, false, false, false, false, false, false, false]) (by kernel_rfl) rfl (by kernel_rfl) (by kernel_rfl) (by kernel_rfl) (by kernel_rfl) (YI_v (v := .int .i64 (l.getD k 0)) rfl (fun w' hw' => r_load Try.isAgg3 rfl (hw'.cellk hc16))) ?_
          refine Wt_take (i := 9) (listed' := #[true, true, true, true, true, true, true, true, true, true, false, false, false, false, false, false, false, false, false]) (by kernel_rfl) rfl (by kernel_rfl) (by kernel_rfl) (by kernel_rfl) (by kernel_rfl) (YI_v (v := .bool (decide ((((cds l).getD k (0, 0)).1) ≠ (l.getD k 0)))) rfl (fun w' hw' => r_ne rfl rfl)) ?_
          refine Wt_take (i := 10) (listed' := #[true, true, true, true, true, true, true, true, true, true, true, false, false, false, false, false, false, false, false]) (by kernel_rfl) rfl (by kernel_rfl) (by kernel_rfl) (by kernel_rfl) (by kernel_rfl) (YI_v (v := .bool (decide ((((cds l).getD k (0, 0)).1) ≠ (l.getD k 0)))) rfl (fun w' hw' => r_mv (v := .bool (decide ((((cds l).getD k (0, 0)).1) ≠ (l.getD k 0)))) rfl)) ?_
          have q9 : ¬ ((((cds l).getD k (0, 0)).1) ≠ (l.getD k 0)) := (by omega)
          rw [decide_eq_false q9]
          refine Wt_take (i := 11) (listed' := #[true, true, true, true, true, true, true, true, true, true, true, true, false, false, false, false, false, false, false]) (by kernel_rfl) rfl (by kernel_rfl) (by kernel_rfl) (by kernel_rfl) (by kernel_rfl) (YI_v (v := .int .i64 (if 0 ≤ sy l ((cds l).getD k (0, 0)) then sy l ((cds l).getD k (0, 0)) else 0)) rfl (fun w' hw' => r_mv (v := .int .i64 (if 0 ≤ sy l ((cds l).getD k (0, 0)) then sy l ((cds l).getD k (0, 0)) else 0)) rfl)) ?_
          refine Wt_take (i := 12) (listed' := #[true, true, true, true, true, true, true, true, true, true, true, true, true, false, false, false, false, false, false]) (by kernel_rfl) rfl (by kernel_rfl) (by kernel_rfl) (by kernel_rfl) (by kernel_rfl) (YI_v (v := .int .i64 ((k : Nat) : Int)) rfl (fun w' hw' => r_mv (v := .int .i64 ((k : Nat) : Int)) rfl)) ?_
          refine Wt_take (i := 13) (listed' := #[true, true, true, true, true, true, true, true, true, true, true, true, true, true, false, false, false, false, false]) (by kernel_rfl) rfl (by kernel_rfl) (by kernel_rfl) (by kernel_rfl) (by kernel_rfl) (YI_v (v := .bool (decide ((if 0 ≤ sy l ((cds l).getD k (0, 0)) then sy l ((cds l).getD k (0, 0)) else 0) ≠ ((k : Nat) : Int)))) rfl (fun w' hw' => r_ne rfl rfl)) ?_
          refine Wt_take (i := 14) (listed' := #[true, true, true, true, true, true, true, true, true, true, true, true, true, true, true, false, false, false, false]) (by kernel_rfl) rfl (by kernel_rfl) (by kernel_rfl) (by kernel_rfl) (by kernel_rfl) (YI_v rfl (fun w' hw' => r_pick_f (v := .bool (decide ((if 0 ≤ sy l ((cds l).getD k (0, 0)) then sy l ((cds l).getD k (0, 0)) else 0) ≠ ((k : Nat) : Int)))) rfl rfl)) ?_
          refine Wt_take (i := 15) (listed' := #[true, true, true, true, true, true, true, true, true, true, true, true, true, true, true, true, false, false, false]) (by kernel_rfl) rfl (by kernel_rfl) (by kernel_rfl) (by kernel_rfl) (by kernel_rfl) (YI_v (v := .bool (decide ((if 0 ≤ sy l ((cds l).getD k (0, 0)) then sy l ((cds l).getD k (0, 0)) else 0) ≠ ((k : Nat) : Int)))) rfl (fun w' hw' => r_mv (v := .bool (decide ((if 0 ≤ sy l ((cds l).getD k (0, 0)) then sy l ((cds l).getD k (0, 0)) else 0) ≠ ((k : Nat) : Int)))) rfl)) ?_
          have q10 : ¬ ((if 0 ≤ sy l ((cds l).getD k (0, 0)) then sy l ((cds l).getD k (0, 0)) else 0) ≠ ((k : Nat) : Int)) := (by rw [hsy, if_pos (by omega)]; omega)
          rw [decide_eq_false q10]
          refine Wt_take (i := 16) (listed' := #[true, true, true, true, true, true, true, true, true, true, true, true, true, true, true, true, true, false, false]) (by kernel_rfl) rfl (by kernel_rfl) (by kernel_rfl) (by kernel_rfl) (by kernel_rfl) (YI_v (v := .bool (decide (0 ≤ sy l ((cds l).getD k (0, 0))))) rfl (fun w' hw' => r_mv (v := .bool (decide (0 ≤ sy l ((cds l).getD k (0, 0))))) rfl)) ?_
          refine Wt_take (i := 17) (listed' := #[true, true, true, true, true, true, true, true, true, true, true, true, true, true, true, true, true, true, false]) (by kernel_rfl) rfl (by kernel_rfl) (by kernel_rfl) (by kernel_rfl) (by kernel_rfl) (YI_v (v := .bool (!decide (0 ≤ sy l ((cds l).getD k (0, 0))))) rfl (fun w' hw' => r_not rfl)) ?_
          refine Wt_take (i := 18) (listed' := #[true, true, true, true, true, true, true, true, true, true, true, true, true, true, true, true, true, true, true]) (by kernel_rfl) rfl (by kernel_rfl) (by kernel_rfl) (by kernel_rfl) (by kernel_rfl) (YI_v rfl (fun w' hw' => r_pick_f (v := .bool (!decide (0 ≤ sy l ((cds l).getD k (0, 0))))) rfl rfl)) ?_
          intro w17 hU17
          have hzw17 := hU17.size
          replace hs := hs.upd0 hU17
          replace HU := HU.trans0 hU17
          replace hb1 := hb1.upd0 hU17
          replace hO6 := hO6.upd0 hU17
          replace hO7 := hO7.upd0 hU17
          replace HL11 := HL11.trans0 hU17
          replace hc16 := cell_upd0 hU17 hc16
          refine Wa_done (by kernel_rfl) ?_
          have q11 : 0 ≤ sy l ((cds l).getD k (0, 0)) := (by rw [hsy]; omega)
          rw [decide_eq_true q11]
          simp only [Bool.not_true, Bool.not_false]
          refine W_cond_f rfl ?_
          refine W_skip ?_
          refine W_seq ?_
          refine W_drawt rfl (l0 := #[false, false, false, false, false, false, false, false, false, false, false, false, false, false]) (by kernel_rfl) ?_
          refine Wt_take (i := 0) (listed' := #[true, false, false, false, false, false, false, false, false, false, false, false, false, false]) (by kernel_rfl) rfl (by kernel_rfl) (by kernel_rfl) (by kernel_rfl) (by kernel_rfl) (YI_v (v := .slice a6 n c6) rfl (fun w' hw' => r_mv (v := .slice a6 n c6) rfl)) ?_
          refine Wt_take (i := 1) (listed' := #[true, true, false, false, false, false, false, false, false, false, false, false, false, false]) (by kernel_rfl) rfl (by kernel_rfl) (by kernel_rfl) (by kernel_rfl) (by kernel_rfl) (YI_v (v := .int .i64 ((k : Nat) : Int)) rfl (fun w' hw' => r_mv (v := .int .i64 ((k : Nat) : Int)) rfl)) ?_
          obtain ⟨ib18, io18, ha18, hib18, hc18⟩ := Sl.rat (0, 0) encC_len (by decide) (hO6.sl) (i := k) (by omega)
          refine Wt_take (i := 2) (listed' := #[true, true, true, false, false, false, false, false, false, false, false, false, false, false]) (by kernel_rfl) rfl (by kernel_rfl) (by kernel_rfl) (by kernel_rfl) (by kernel_rfl) (YI_v (v := .pointer (some ⟨ib18, io18 + k * 2, none⟩)) rfl (fun w' hw' => r_idx (b := ib18) (off := io18) (m := n) (c := c6) (o' := io18 + k * 2) Try.underlying28 Try.sizeOf37 (by rw [← ha18]; rfl) rfl (by omega) (by omega) (by omega))) ?_
          refine Wt_take (i := 3) (listed' := #[true, true, true, true, false, false, false, false, false, false, false, false, false, false]) (by kernel_rfl) rfl (by kernel_rfl) (by kernel_rfl) (by kernel_rfl) (by kernel_rfl) (YI_v (v := .pointer (some ⟨ib18, io18 + k * 2 + 1, none⟩)) rfl (fun w' hw' => r_fld Try.underlying37 rfl Try.sizeOf35 rfl rfl)) ?_
          refine Wt_take (i := 4) (listed' := #[true, true, true, true, true, false, false, false, false, false, false, false, false, false]) (by kernel_rfl) rfl (by kernel_rfl) (by kernel_rfl) (by kernel_rfl) (by kernel_rfl) (YI_v (v := .int .u32 (((cds l).getD k (0, 0)).2)) rfl (fun w' hw' => r_load (v := .int .u32 (((cds l).getD k (0, 0)).2)) Try.isAgg35 rfl (hw'.cellk (hc18 1 (by decide))))) ?_
          refine Wt_take (i := 5) (listed' := #[true, true, true, true, true, true, false, false, false, false, false, false, false, false]) (by kernel_rfl) rfl (by kernel_rfl) (by kernel_rfl) (by kernel_rfl) (by kernel_rfl) (YI_v (v := .int .u64 (((cds l).getD k (0, 0)).2)) rfl (fun w' hw' => r_cvt Try.underlying35 Try.underlying41 rfl (wu64 (by omega) (by omega)))) ?_
          refine Wt_take (i := 6) (listed' := #[true, true, true, true, true, true, true, false, false, false, false, false, false, false]) (by kernel_rfl) rfl (by kernel_rfl) (by kernel_rfl) (by kernel_rfl) (by kernel_rfl) (YI_v (v := .int .u64 (bits % 2048)) rfl (fun w' hw' => r_mv (v := .int .u64 (bits % 2048)) rfl)) ?_
          refine Wt_take (i := 7) (listed' := #[true, true, true, true, true, true, true, true, false, false, false, false, false, false]) (by kernel_rfl) rfl (by kernel_rfl) (by kernel_rfl) (by kernel_rfl) (by kernel_rfl) (YI_v (v := .slice a n c) rfl (fun w' hw' => r_mv (v := .slice a n c) rfl)) ?_
          refine Wt_take (i := 8) (listed' := #[true, true, true, true, true, true, true, true, true, false, false, false, false, false]) (by kernel_rfl) rfl (by kernel_rfl) (by kernel_rfl) (by kernel_rfl) (by kernel_rfl) (YI_v (v := .int .i64 ((k : Nat) : Int)) rfl (fun w' hw' => r_mv (v := .int .i64 ((k : Nat) : Int)) rfl)) ?_
          obtain ⟨ib19, io19, ha19, hib19, hc19⟩ := (hs).iat (i := k) (by omega)
          replace hib19 : ib19 < w.heap.size := hib19
          refine Wt_take (i := 9) (listed' := #[true, true, true, true, true, true, true, true, true, true, false, false, false, false]) (by kernel_rfl) rfl (by kernel_rfl) (by kernel_rfl) (by kernel_rfl) (by kernel_rfl) (YI_v (v := .pointer (some ⟨ib19, io19 + k, none⟩)) rfl (fun w' hw' => r_idx (b := ib19) (off := io19) (m := n) (c := c) (o' := io19 + k) Try.underlying22 Try.sizeOf3 (by rw [← ha19]; rfl) rfl (by omega) (by omega) (by omega))) ?_
          refine Wt_take (i := 10) (listed' := #[true, true, true, true, true, true, true, true, true, true, true, false, false, false]) (by kernel_rfl) rfl (by kernel_rfl) (by kernel_rfl) (by kernel_rfl) (by kernel_rfl) (YI_v (v := .int .i64 (l.getD k 0)) rfl (fun w' hw' => r_load Try.isAgg3 rfl (hw'.cellk hc19))) ?_
          refine Wt_take (i := 11) (listed' := #[true, true, true, true, true, true, true, true, true, true, true, true, false, false]) (by kernel_rfl) rfl (by kernel_rfl) (by kernel_rfl) (by kernel_rfl) (by kernel_rfl) (YI_v (v := .int .i64 (11 - (l.getD k 0))) rfl (fun w' hw' => r_sub rfl rfl (wi64 (by omega) (by omega)))) ?_
          refine Wt_take (i := 12) (listed' := #[true, true, true, true, true, true, true, true, true, true, true, true, true, false]) (by kernel_rfl) rfl (by kernel_rfl) (by kernel_rfl) (by kernel_rfl) (by kernel_rfl) (YI_v (v := .int .u64 ((bits % 2048) / 2 ^ (min (11 - (l.getD k 0)).toNat IntKind.u64.bits))) rfl (fun w' hw' => r_shr rfl rfl (by omega) rfl)) ?_
          refine Wt_take (i := 13) (listed' := #[true, true, true, true, true, true, true, true, true, true, true, true, true, true]) (by kernel_rfl) rfl (by kernel_rfl) (by kernel_rfl) (by kernel_rfl) (by kernel_rfl) (YI_v (v := .bool (decide ((((cds l).getD k (0, 0)).2) = ((bits % 2048) / 2 ^ (min (11 - (l.getD k 0)).toNat IntKind.u64.bits))))) rfl (fun w' hw' => r_eq rfl rfl)) ?_
          intro w20 hU20
          have hzw20 := hU20.size
          replace hs := hs.upd0 hU20
          replace HU := HU.trans0 hU20
          replace hb1 := hb1.upd0 hU20
          replace hO6 := hO6.upd0 hU20
          replace hO7 := hO7.upd0 hU20
          replace HL11 := HL11.trans0 hU20
          replace hc16 := cell_upd0 hU20 hc16
          replace hc19 := cell_upd0 hU20 hc19
          refine Wa_done (by kernel_rfl) ?_
          by_cases q12 : (((cds l).getD k (0, 0)).2) = ((bits % 2048) / 2 ^ (min (11 - (l.getD k 0)).toNat IntKind.u64.bits))
          · have hbt := beg_test hr (b := bits % 2048) (k := k) (by omega) (by omega)
            have hbg := hbt.1 q12
            have hse := sel_eq hr (by omega) (by omega) hbg
            have hbm := bg_hit hse
            have hde := dec11 hr (by omega) (by omega) hbg
            rw [decide_eq_true q12]
            refine W_cond_t rfl ?_
            refine W_seq ?_
            refine W_region ?_
            refine Wl_v (r_mv (v := .int .i64 (bg (sel l (bits % 2048)) k)) rfl) ?_
            refine Wl_v (r_add rfl rfl (wi64 (by omega) (by omega))) ?_
            refine Wl_v (r_as (v := .int .i64 ((bg (sel l (bits % 2048)) k) + 1)) rfl) ?_
            refine Wl_nil ?_
            refine W_seq ?_
            refine W_region ?_
            refine Wl_v (r_mv (v := .slice a n c) rfl) ?_
            refine Wl_v (r_mv (v := .int .u64 (bits % 2048)) rfl) ?_
            refine Wl_call (r_call3 rfl Try.call22 rfl rfl rfl) (decode_spec _ hs (by omega) (by omega) (by omega)) ?_
            rintro v w21 ⟨rfl, hU21⟩
            have hzw21 := hU21.size
            replace hs := hs.upd0 hU21
            replace HU := HU.trans0 hU21
            replace hb1 := hb1.upd0 hU21
            replace hO6 := hO6.upd0 hU21
            replace hO7 := hO7.upd0 hU21
            replace HL11 := HL11.trans0 hU21
            replace hc16 := cell_upd0 hU21 hc16
            replace hc19 := cell_upd0 hU21 hc19
            refine Wl_v (r_mv (v := .tuple #[.int .i64 ((dec l (bits % 2048) 11).1), .int .i64 ((dec l (bits % 2048) 11).2.1), .int .i64 ((dec l (bits % 2048) 11).2.2)]) rfl) ?_
            refine Wl_v (r_ext (v := .int .i64 ((dec l (bits % 2048) 11).1)) rfl rfl) ?_
            refine Wl_v (r_ext (v := .int .i64 ((dec l (bits % 2048) 11).2.1)) rfl rfl) ?_
            refine Wl_v (r_ext (v := .int .i64 ((dec l (bits % 2048) 11).2.2)) rfl rfl) ?_
            refine Wl_v (r_as (v := .int .i64 ((dec l (bits % 2048) 11).1)) rfl) ?_
            refine Wl_v (r_as (v := .int .i64 ((dec l (bits % 2048) 11).2.1)) rfl) ?_
            refine Wl_v (r_as (v := .int .i64 ((dec l (bits % 2048) 11).2.2)) rfl) ?_
            refine Wl_nil ?_
            refine W_seq ?_
            refine W_region ?_
            refine Wl_v (r_mv (v := .int .i64 ((dec l (bits % 2048) 11).1)) rfl) ?_
            refine Wl_v (r_mv (v := .int .i64 ((k : Nat) : Int)) rfl) ?_
            refine Wl_v (r_ne rfl rfl) ?_
            refine Wl_v (r_mv (v := .bool (decide (((dec l (bits % 2048) 11).1) ≠ ((k : Nat) : Int)))) rfl) ?_
            have q13 : ¬ (((dec l (bits % 2048) 11).1) ≠ ((k : Nat) : Int)) := (by rw [hde]; simp)
            rw [decide_eq_false q13]
            refine Wl_guard_t rfl ?_
            refine Wl_v (r_mv (v := .int .i64 ((dec l (bits % 2048) 11).2.1)) rfl) ?_
            refine Wl_guard_t rfl ?_
            refine Wl_v (r_mv (v := .slice a n c) rfl) ?_
            refine Wl_guard_t rfl ?_
            refine Wl_v (r_mv (v := .int .i64 ((k : Nat) : Int)) rfl) ?_
            refine Wl_guard_t rfl ?_
            refine Wl_idxi Try.underlying22 Try.sizeOf3 rfl rfl hs (by omega) (by omega) ?_
            intro ib22 io22 hc22
            rw [Int.toNat_natCast] at hc22
            refine Wl_guard_t rfl ?_
            refine Wl_loadc Try.isAgg3 rfl hc22 ?_
            refine Wl_guard_t rfl ?_
            refine Wl_v (r_ne rfl rfl) ?_
            refine Wl_v (r_pick_f (v := .bool (decide (((dec l (bits % 2048) 11).2.1) ≠ (l.getD k 0)))) rfl rfl) ?_
            refine Wl_v (r_mv (v := .bool (decide (((dec l (bits % 2048) 11).2.1) ≠ (l.getD k 0)))) rfl) ?_
            have q14 : ¬ (((dec l (bits % 2048) 11).2.1) ≠ (l.getD k 0)) := (by rw [hde]; simp)
            rw [decide_eq_false q14]
            refine Wl_guard_t rfl ?_
            refine Wl_v (r_mv (v := .int .i64 ((dec l (bits % 2048) 11).2.2)) rfl) ?_
            refine Wl_guard_t rfl ?_
            refine Wl_call (r_call1 rfl Try.call14 rfl) (num_spec _ ) ?_
            rintro v w23 ⟨rfl, hU23⟩
            have hzw23 := hU23.size
            replace hs := hs.upd0 hU23
            replace HU := HU.trans0 hU23
            replace hb1 := hb1.upd0 hU23
            replace hO6 := hO6.upd0 hU23
            replace hO7 := hO7.upd0 hU23
            replace HL11 := HL11.trans0 hU23
            replace hc16 := cell_upd0 hU23 hc16
            replace hc19 := cell_upd0 hU23 hc19
            refine Wl_guard_t rfl ?_
            refine Wl_v (r_ne rfl rfl) ?_
            refine Wl_v (r_pick_f (v := .bool (decide (((dec l (bits % 2048) 11).2.2) ≠ 0))) rfl rfl) ?_
            refine Wl_nil ?_
            have q15 : ¬ (((dec l (bits % 2048) 11).2.2) ≠ 0) := (by rw [hde]; simp)
            rw [decide_eq_false q15]
            refine W_cond_f rfl ?_
            refine W_skip ?_
            refine W_region ?_
            refine Wl_v (r_mv (v := .int .i64 ((k : Nat) : Int)) rfl) ?_
            refine Wl_v (r_add rfl rfl (wi64 (by omega) (by omega))) ?_
            refine Wl_v (r_as (v := .int .i64 (((k : Nat) : Int) + 1)) rfl) ?_
            refine Wl_nil ?_
            refine ⟨_, ?_, (k + 1), rfl, rfl, ⟨rfl, rfl, rfl, rfl, (Eq.trans (b := .int .i64 ((bg (sel l (bits % 2048)) k) + 1)) rfl (vint (by omega))), (Eq.trans (b := .int .i64 (((k : Nat) : Int) + 1)) rfl (vint (by omega))), trivial⟩, (by omega), HL11⟩
            omega
          · have hbt := beg_test hr (b := bits % 2048) (k := k) (by omega) (by omega)
            have hbm : bg (sel l (bits % 2048)) (k + 1) = bg (sel l (bits % 2048)) k := bg_miss (fun e => q12 (hbt.2 (e ▸ sel_beg hr (by omega) (by omega))))
            rw [decide_eq_false q12]
            refine W_cond_f rfl ?_
            refine W_skip ?_
            refine W_region ?_
            refine Wl_v (r_mv (v := .int .i64 ((k : Nat) : Int)) rfl) ?_
            refine Wl_v (r_add rfl rfl (wi64 (by omega) (by omega))) ?_
            refine Wl_v (r_as (v := .int .i64 (((k : Nat) : Int) + 1)) rfl) ?_
            refine Wl_nil ?_
            refine ⟨_, ?_, (k + 1), rfl, rfl, ⟨rfl, rfl, rfl, rfl, (Eq.trans (b := .int .i64 (bg (sel l (bits % 2048)) k)) rfl (vint (by omega))), (Eq.trans (b := .int .i64 (((k : Nat) : Int) + 1)) rfl (vint (by omega))), trivial⟩, (by omega), HL11⟩
            omega
      · have hsb := (sel_beg hr (b := bits % 2048) (by omega) (by omega)).1
        have hbi : bg (sel l (bits % 2048)) k = 1 := bg_in (by omega)
        rw [decide_eq_false q7]
        refine W_cond_f rfl ?_
        refine W_exit ?_
        refine W_seq ?_
        refine W_region ?_
        refine Wl_v (r_mv (v := .slice a n c) rfl) ?_
        refine Wl_call (r_call1 rfl Try.call32 rfl) (all_spec _ hs (by omega)) ?_
        rintro v w24 ⟨Bo24, Bc24, a24, m24, c24, b24, n24, d24, rfl, hBo24, hBc24, hO24, hC24, hb1_24, hb2_24, hU24⟩
        have hzw24 := hU24.size
        replace hs := hs.upd0 hU24
        replace HU := HU.trans0 hU24
        replace hb1 := hb1.upd0 hU24
        replace hO6 := hO6.upd0 hU24
        replace hO7 := hO7.upd0 hU24
        replace HL11 := HL11.trans0 hU24
        have hbl_hBo24 := hBo24.lt
        have hbl_hBc24 := hBc24.lt
        replace hO24 := hO24.tight
        have hl_hO24 := ilen hO24.sl
        have hc_hO24 := hO24.sl.cap.1
        replace hC24 := hC24.tight
        have hl_hC24 := rlen encC_len (by decide) hC24.sl
        have hc_hC24 := hC24.sl.cap.1
        replace hO24 := hO24.icong (show ordR l = ord l from if_pos q3)
        replace hC24 := hC24.rcong (show cdsR l = cds l from if_pos q3)
        have hlo := ilen hO24.sl
        have hlc := rlen encC_len (by decide) hC24.sl
        have hol := ord_len l
        have h256 := (q3).2.1
        rw [cds_len] at hlc
        refine Wl_v (r_as (v := .func (.func 49) #[] #[.pointer (some ⟨Bo24, 0, none⟩), .pointer (some ⟨Bc24, 0, none⟩)]) rfl) ?_
        refine Wl_nil ?_
        refine W_seq ?_
        refine W_seq ?_
        refine W_region ?_
        refine Wl_v (r_mv (v := .func (.func 49) #[] #[.pointer (some ⟨Bo24, 0, none⟩), .pointer (some ⟨Bc24, 0, none⟩)]) rfl) ?_
        refine Wl_v (r_eqfn_s Try.underlying60 rfl rfl) ?_
        refine Wl_v (r_mv (v := .bool false) rfl) ?_
        refine Wl_guard_t rfl ?_
        refine Wl_v (r_mv (v := .int .i64 (bg (sel l (bits % 2048)) k)) rfl) ?_
        refine Wl_guard_t rfl ?_
        refine Wl_v (r_ne rfl rfl) ?_
        refine Wl_v (r_pick_f (v := .bool (decide ((bg (sel l (bits % 2048)) k) ≠ 1))) rfl rfl) ?_
        refine Wl_nil ?_
        have q16 : ¬ ((bg (sel l (bits % 2048)) k) ≠ 1) := (by omega)
        rw [decide_eq_false q16]
        refine W_cond_f rfl ?_
        refine W_skip ?_
        refine W_seq ?_
        refine W_region ?_
        refine Wl_v (r_build (pl := #[(0, 1), (1, 1)]) (pv := []) (cs := #[.int .i64 0, .int .u32 0]) Try.zeroValue37 Try.underlying37 (fun w => by kernel_rfl) (by simp only [List.map_toArray, List.map_cons, List.map_nil] <;> rfl) (by kernel_rfl)) ?_
        refine Wl_alloc (cs := [.int .i64 0, .int .u32 0]) Try.zeroValue37 rfl ?_
        intro B25 w25 hB25 hU25 hzz25 hb25
        have hzw25 := hU25.size
        replace hs := hs.upd0 hU25
        replace HU := HU.trans0 hU25
        replace hb1 := hb1.upd0 hU25
        replace hO6 := hO6.upd0 hU25
        replace hO7 := hO7.upd0 hU25
        replace HL11 := HL11.trans0 hU25
        replace hBo24 := hBo24.upd0 hU25
        replace hBc24 := hBc24.upd0 hU25
        replace hO24 := hO24.upd0 hU25
        replace hC24 := hC24.upd0 hU25
        refine Wl_storea (off := 0) (vs := [.int .i64 0, .int .u32 0]) (cs' := [.int .i64 0, .int .u32 0]) Try.sizeOf37 rfl rfl rfl (by simp only [List.mem_cons, List.not_mem_nil, or_false, forall_eq_or_imp, forall_eq]; exact ⟨rfl, rfl⟩) hb25 (by simp) rfl ?_
        intro w26 hU26 hzz26 hb25n
        replace hb25 := hb25n; clear hb25n
        have hzw26 := hU26.size
        replace hs := hs.upd1 hU26 (by intro h1; have h3 : B25 < w.heap.size := h1; omega)
        replace HU := HU.trans1 hU26 (by show (False) ∨ w.heap.size ≤ B25; omega)
        replace hb1 := hb1.upd1 hU26 (by omega)
        replace hO6 := hO6.upd1 hU26 (by intro h1; have h3 : ((w5.heap.size ≤ B25) ∧ B25 < w6.heap.size) := h1; omega)
        replace hO7 := hO7.upd1 hU26 (by intro h1; have h3 : ((w6.heap.size ≤ B25) ∧ B25 < w7.heap.size) := h1; omega)
        replace HL11 := HL11.trans1 hU26 (by show (False) ∨ w10.heap.size ≤ B25; omega)
        replace hBo24 := hBo24.upd1 hU26 (by omega)
        replace hBc24 := hBc24.upd1 hU26 (by omega)
        replace hO24 := hO24.upd1 hU26 (by intro h1; have h3 : ((w11.heap.size ≤ B25) ∧ B25 < w24.heap.size) := h1; omega)
        replace hC24 := hC24.upd1 hU26 (by intro h1; have h3 : ((w11.heap.size ≤ B25) ∧ B25 < w24.heap.size) := h1; omega)
        refine Wl_nil ?_
        refine W_seq ?_
        refine W_seq ?_
        refine W_region ?_
        refine Wl_v (r_mv (v := .func (.func 49) #[] #[.pointer (some ⟨Bo24, 0, none⟩), .pointer (some ⟨Bc24, 0, none⟩)]) rfl) ?_
        refine Wl_nil ?_
        refine W_block ?_
        refine W_range (gf := 49) (ar := fun y => #[y, .pointer (some ⟨Bo24, 0, none⟩), .pointer (some ⟨Bc24, 0, none⟩)]) rfl Try.call49 (fun y => by simp) ?_
        intro D27 fn27 w27 hD27 hU27 hzz27 hdf27 hrc270
        have hzw27 := hU27.size
        replace hs := hs.upd0 hU27
        replace HU := HU.trans0 hU27
        replace hb1 := hb1.upd0 hU27
        replace hO6 := hO6.upd0 hU27
        replace hO7 := hO7.upd0 hU27
        replace HL11 := HL11.trans0 hU27
        replace hBo24 := hBo24.upd0 hU27
        replace hBc24 := hBc24.upd0 hU27
        replace hO24 := hO24.upd0 hU27
        replace hC24 := hC24.upd0 hU27
        replace hb25 := hb25.upd0 hU27
        obtain ⟨r27, hr27, hrc27⟩ : ∃ r, r = _ ∧ Rec w27 (D27 + 1) r := ⟨_, rfl, hrc270⟩
        clear hrc270
        obtain ⟨J27, hJ27⟩ : ∃ J : Nat → World → Prop, ∀ i w', J i w' ↔ (Rec w' (D27 + 1) r27 ∧ Dfr w' D27 ∧ Blk w' B25 [.int .i64 (lst l i).1, .int .u32 (lst l i).2] ∧ Blk w' B1 [.bool false] ∧ Own w' (fun g => ((w5.heap.size ≤ g) ∧ g < w6.heap.size)) 37 2 (.slice a6 n c6) n (rows encC (cds l)) ∧ Own w' (fun g => ((w6.heap.size ≤ g) ∧ g < w7.heap.size)) 3 1 (.slice a7 n7 c7) n7 (ints .i64 ((ofc (cds l)).1)) ∧ Blk w' Bo24 [.slice a24 m24 c24] ∧ Blk w' Bc24 [.slice b24 n24 d24] ∧ Own w' (fun g => ((w11.heap.size ≤ g) ∧ g < w24.heap.size)) 3 1 (.slice a24 m24 c24) m24 (ints .i64 (ord l)) ∧ Own w' (fun g => ((w11.heap.size ≤ g) ∧ g < w24.heap.size)) 37 2 (.slice b24 n24 d24) n24 (rows encC (cds l)) ∧ Upd No w w') := ⟨_, fun _ _ => Iff.rfl⟩
        obtain ⟨Jx27, hJx27⟩ : ∃ Jx : World → Prop, ∀ w', Jx w' ↔ (False) := ⟨_, fun _ => Iff.rfl⟩
        refine (all1_spec (ly := (D27 + 1)) (J := J27) (Jx := Jx27) (Sb := (fun g => g = B25 ∨ g = D27 + 1)) (R := fun g => ((w11.heap.size ≤ g) ∧ g < w24.heap.size)) (T := fun g => ((w11.heap.size ≤ g) ∧ g < w24.heap.size)) w27 hBo24 hO24.sl hBc24 hC24.sl (by omega) (by omega) (fun i hi => by obtain ⟨jx, e1, e2, _⟩ := ord_at (l := l) (i := i) (by omega); omega) (by intro g h1 h2; have h3 : ((w11.heap.size ≤ g) ∧ g < w24.heap.size) := h1; have h4 : g = B25 ∨ g = D27 + 1 := h2; omega) (by show ¬ (_ ∨ _); omega) (by intro g h1 h2; have h3 : ((w11.heap.size ≤ g) ∧ g < w24.heap.size) := h1; have h4 : g = B25 ∨ g = D27 + 1 := h2; omega) ?_ ?_).mono ?_
        · exact (hJ27 _ _).2 ⟨hrc27, hdf27, hb25, hb1, hO6, hO7, hBo24, hBc24, hO24, hC24, HU⟩
        · intro i28 w28 hi28 hh
          obtain ⟨hrc27, hdf27, hb25, hb1, hO6, hO7, hBo24, hBc24, hO24, hC24, HU⟩ := (hJ27 _ _).1 hh
          have hrl27 := hrc27.lt
          obtain ⟨jx, hjx, hjn, _⟩ := ord_at (l := l) (i := i28) (by omega)
          have hcb := cds_bd hr ((ord l).getD i28 0).toNat
          have hlb := lst_bd hr i28
          have hle := lst_bd hr (i28 + 1)
          rw [lst_succ] at hle
          have HB27 : Upd (fun g => g = B25 ∨ g = D27 + 1) w28 w28 := Upd.refl _ _
          refine yieldC_of_W (R := fun b c w' => (b = true ∧ Upd (fun g => g = B25 ∨ g = D27 + 1) w28 w' ∧ J27 (i28 + 1) w') ∨ (b = false ∧ Jx27 w')) hrc27 (by rw [hr27]; rfl) (by rw [hr27]; exact zip2 _ _ _ _ _ _) ?_ ?_
          · rw [hr27]
            refine W_region ?_
            refine Wl_alloc (cs := [.int .i64 0, .int .u32 0]) Try.zeroValue37 rfl ?_
            intro B29 w29 hB29 hU29 hzz29 hb29
            have hzw29 := hU29.size
            replace hrc27 := hrc27.upd0 hU29
            replace hdf27 := hdf27.upd0 hU29
            replace hb25 := hb25.upd0 hU29
            replace hb1 := hb1.upd0 hU29
            replace hO6 := hO6.upd0 hU29
            replace hO7 := hO7.upd0 hU29
            replace hBo24 := hBo24.upd0 hU29
            replace hBc24 := hBc24.upd0 hU29
            replace hO24 := hO24.upd0 hU29
            replace hC24 := hC24.upd0 hU29
            replace HU := HU.trans0 hU29
            replace HB27 := HB27.trans0 hU29
            refine Wl_storea (off := 0) (vs := [.int .i64 (((cds l).getD ((ord l).getD i28 0).toNat (0, 0)).1), .int .u32 (((cds l).getD ((ord l).getD i28 0).toNat (0, 0)).2)]) (cs' := [.int .i64 (((cds l).getD ((ord l).getD i28 0).toNat (0, 0)).1), .int .u32 (((cds l).getD ((ord l).getD i28 0).toNat (0, 0)).2)]) Try.sizeOf37 rfl rfl rfl (by simp only [List.mem_cons, List.not_mem_nil, or_false, forall_eq_or_imp, forall_eq]; exact ⟨rfl, rfl⟩) hb29 (by simp) rfl ?_
            intro w30 hU30 hzz30 hb29n
            replace hb29 := hb29n; clear hb29n
            have hzw30 := hU30.size
            replace hrc27 := hrc27.upd1 hU30 (by omega)
            replace hdf27 := hdf27.upd1 hU30 (by omega)
            replace hb25 := hb25.upd1 hU30 (by omega)
            replace hb1 := hb1.upd1 hU30 (by omega)
            replace hO6 := hO6.upd1 hU30 (by intro h1; have h3 : ((w5.heap.size ≤ B29) ∧ B29 < w6.heap.size) := h1; omega)
            replace hO7 := hO7.upd1 hU30 (by intro h1; have h3 : ((w6.heap.size ≤ B29) ∧ B29 < w7.heap.size) := h1; omega)
            replace hBo24 := hBo24.upd1 hU30 (by omega)
            replace hBc24 := hBc24.upd1 hU30 (by omega)
            replace hO24 := hO24.upd1 hU30 (by intro h1; have h3 : ((w11.heap.size ≤ B29) ∧ B29 < w24.heap.size) := h1; omega)
            replace hC24 := hC24.upd1 hU30 (by intro h1; have h3 : ((w11.heap.size ≤ B29) ∧ B29 < w24.heap.size) := h1; omega)
            replace HU := HU.trans1 hU30 (by show (False) ∨ w.heap.size ≤ B29; omega)
            replace HB27 := HB27.trans1 hU30 (by show (B29 = B25 ∨ B29 = D27 + 1) ∨ w28.heap.size ≤ B29; omega)
            refine Wl_nil ?_
            refine ⟨rfl, _, hrc27, (by rw [hr27]), ?_⟩
            intro w31 hU31 hzz31 hrc27b
            have hzw31 := hU31.size
            replace hdf27 := hdf27.upd1 hU31 (by omega)
            replace hb25 := hb25.upd1 hU31 (by omega)
            replace hb1 := hb1.upd1 hU31 (by omega)
            replace hO6 := hO6.upd1 hU31 (by intro h1; have h3 : ((w5.heap.size ≤ (D27 + 1)) ∧ (D27 + 1) < w6.heap.size) := h1; omega)
            replace hO7 := hO7.upd1 hU31 (by intro h1; have h3 : ((w6.heap.size ≤ (D27 + 1)) ∧ (D27 + 1) < w7.heap.size) := h1; omega)
            replace hBo24 := hBo24.upd1 hU31 (by omega)
            replace hBc24 := hBc24.upd1 hU31 (by omega)
            replace hO24 := hO24.upd1 hU31 (by intro h1; have h3 : ((w11.heap.size ≤ (D27 + 1)) ∧ (D27 + 1) < w24.heap.size) := h1; omega)
            replace hC24 := hC24.upd1 hU31 (by intro h1; have h3 : ((w11.heap.size ≤ (D27 + 1)) ∧ (D27 + 1) < w24.heap.size) := h1; omega)
            replace HU := HU.trans1 hU31 (by show (False) ∨ w.heap.size ≤ (D27 + 1); omega)
            replace HB27 := HB27.trans1 hU31 (by show ((D27 + 1) = B25 ∨ (D27 + 1) = D27 + 1) ∨ w28.heap.size ≤ (D27 + 1); omega)
            replace hb29 := hb29.upd1 hU31 (by omega)
            clear hrc27
            have hrc27 := hrc27b
            clear hrc27b
            refine W_block ?_
            refine W_seq ?_
            refine W_seq ?_
            refine W_drawt rfl (l0 := #[false, false, false, false, false, false, false, false, false, false, false, false, false, false, false, false, false, false, false, false, false, false, false, false, false, false, false, false]) (by kernel_rfl) ?_
            refine Wt_take (i := 0) (listed' := #[true, false, false, false, false, false, false, false, false, false, false, false, false, false, false, false, false, false, false, false, false, false, false, false, false, false, false, false]) (by kernel_rfl) rfl (by kernel_rfl) (by kernel_rfl) (by kernel_rfl) (by kernel_rfl) (YI_v (v := .pointer (some ⟨B25, 0, none⟩)) rfl (fun w' hw' => r_fld Try.underlying37 rfl Try.sizeOf3 rfl rfl)) ?_
            refine Wt_take (i := 1) (listed' := #[true, true, false, false, false, false, false, false, false, false, false, false, false, false, false, false, false, false, false, false, false, false, false, false, false, false, false, false]) (by kernel_rfl) rfl (by kernel_rfl) (by kernel_rfl) (by kernel_rfl) (by kernel_rfl) (YI_v (v := .int .i64 ((lst l i28).1)) rfl (fun w' hw' => r_load Try.isAgg3 rfl (by rw [(hb25.upd0 hw').cell]; rfl))) ?_
            refine Wt_take (i := 2) (listed' := #[true, true, true, false, false, false, false, false, false, false, false, false, false, false, false, false, false, false, false, false, false, false, false, false, false, false, false, false]) (by kernel_rfl) rfl (by kernel_rfl) (by kernel_rfl) (by kernel_rfl) (by kernel_rfl) (YI_v (v := .bool (decide (0 < ((lst l i28).1)))) rfl (fun w' hw' => r_gt rfl rfl)) ?_
            refine Wt_take (i := 3) (listed' := #[true, true, true, true, false, false, false, false, false, false, false, false, false, false, false, false, false, false, false, false, false, false, false, false, false, false, false, false]) (by kernel_rfl) rfl (by kernel_rfl) (by kernel_rfl) (by kernel_rfl) (by kernel_rfl) (YI_v (v := .bool (decide (0 < ((lst l i28).1)))) rfl (fun w' hw' => r_mv (v := .bool (decide (0 < ((lst l i28).1)))) rfl)) ?_
            by_cases q17 : 0 < ((lst l i28).1)
            · have hrs := lst_rise hr (i := i28) (by omega) hjx hjn q17
              rw [show jx = ((ord l).getD i28 0).toNat from by omega] at hrs
              rw [decide_eq_true q17]
              refine Wt_take (i := 4) (listed' := #[true, true, true, true, true, false, false, false, false, false, false, false, false, false, false, false, false, false, false, false, false, false, false, false, false, false, false, false]) (by kernel_rfl) rfl (by kernel_rfl) (by kernel_rfl) (by kernel_rfl) (by kernel_rfl) (YI_v (v := .pointer (some ⟨B25, 0, none⟩)) rfl (fun w' hw' => r_fld Try.underlying37 rfl Try.sizeOf3 rfl rfl)) ?_
              refine Wt_take (i := 5) (listed' := #[true, true, true, true, true, true, false, false, false, false, false, false, false, false, false, false, false, false, false, false, false, false, false, false, false, false, false, false]) (by kernel_rfl) rfl (by kernel_rfl) (by kernel_rfl) (by kernel_rfl) (by kernel_rfl) (YI_v (v := .int .i64 ((lst l i28).1)) rfl (fun w' hw' => r_load Try.isAgg3 rfl (by rw [(hb25.upd0 hw').cell]; rfl))) ?_
              refine Wt_take (i := 6) (listed' := #[true, true, true, true, true, true, true, false, false, false, false, false, false, false, false, false, false, false, false, false, false, false, false, false, false, false, false, false]) (by kernel_rfl) rfl (by kernel_rfl) (by kernel_rfl) (by kernel_rfl) (by kernel_rfl) (YI_v (v := .pointer (some ⟨B29, 0, none⟩)) rfl (fun w' hw' => r_fld Try.underlying37 rfl Try.sizeOf3 rfl rfl)) ?_
              refine Wt_take (i := 7) (listed' := #[true, true, true, true, true, true, true, true, false, false, false, false, false, false, false, false, false, false, false, false, false, false, false, false, false, false, false, false]) (by kernel_rfl) rfl (by kernel_rfl) (by kernel_rfl) (by kernel_rfl) (by kernel_rfl) (YI_v (v := .int .i64 (((cds l).getD ((ord l).getD i28 0).toNat (0, 0)).1)) rfl (fun w' hw' => r_load Try.isAgg3 rfl (by rw [(hb29.upd0 hw').cell]; rfl))) ?_
              refine Wt_take (i := 8) (listed' := #[true, true, true, true, true, true, true, true, true, false, false, false, false, false, false, false, false, false, false, false, false, false, false, false, false, false, false, false]) (by kernel_rfl) rfl (by kernel_rfl) (by kernel_rfl) (by kernel_rfl) (by kernel_rfl) (YI_v (v := .bool (decide ((((cds l).getD ((ord l).getD i28 0).toNat (0, 0)).1) < ((lst l i28).1)))) rfl (fun w' hw' => r_gt rfl rfl)) ?_
              refine Wt_take (i := 9) (listed' := #[true, true, true, true, true, true, true, true, true, true, false, false, false, false, false, false, false, false, false, false, false, false, false, false, false, false, false, false]) (by kernel_rfl) rfl (by kernel_rfl) (by kernel_rfl) (by kernel_rfl) (by kernel_rfl) (YI_v (v := .bool (decide ((((cds l).getD ((ord l).getD i28 0).toNat (0, 0)).1) < ((lst l i28).1)))) rfl (fun w' hw' => r_mv (v := .bool (decide ((((cds l).getD ((ord l).getD i28 0).toNat (0, 0)).1) < ((lst l i28).1)))) rfl)) ?_
              have q18 : ¬ ((((cds l).getD ((ord l).getD i28 0).toNat (0, 0)).1) < ((lst l i28).1)) := (by have := hrs.1; omega)
              rw [decide_eq_false q18]
              refine Wt_take (i := 10) (listed' := #[true, true, true, true, true, true, true, true, true, true, true, false, false, false, false, false, false, false, false, false, false, false, false, false, false, false, false, false]) (by kernel_rfl) rfl (by kernel_rfl) (by kernel_rfl) (by kernel_rfl) (by kernel_rfl) (YI_v (v := .pointer (some ⟨B29, 1, none⟩)) rfl (fun w' hw' => r_fld Try.underlying37 rfl Try.sizeOf35 rfl rfl)) ?_
              refine Wt_take (i := 11) (listed' := #[true, true, true, true, true, true, true, true, true, true, true, true, false, false, false, false, false, false, false, false, false, false, false, false, false, false, false, false]) (by kernel_rfl) rfl (by kernel_rfl) (by kernel_rfl) (by kernel_rfl) (by kernel_rfl) (YI_v (v := .int .u32 (((cds l).getD ((ord l).getD i28 0).toNat (0, 0)).2)) rfl (fun w' hw' => r_load Try.isAgg35 rfl (by rw [(hb29.upd0 hw').cell]; rfl))) ?_
              refine Wt_take (i := 12) (listed' := #[true, true, true, true, true, true, true, true, true, true, true, true, true, false, false, false, false, false, false, false, false, false, false, false, false, false, false, false]) (by kernel_rfl) rfl (by kernel_rfl) (by kernel_rfl) (by kernel_rfl) (by kernel_rfl) (YI_v (v := .pointer (some ⟨B29, 0, none⟩)) rfl (fun w' hw' => r_fld Try.underlying37 rfl Try.sizeOf3 rfl rfl)) ?_
              refine Wt_take (i := 13) (listed' := #[true, true, true, true, true, true, true, true, true, true, true, true, true, true, false, false, false, false, false, false, false, false, false, false, false, false, false, false]) (by kernel_rfl) rfl (by kernel_rfl) (by kernel_rfl) (by kernel_rfl) (by kernel_rfl) (YI_v (v := .int .i64 (((cds l).getD ((ord l).getD i28 0).toNat (0, 0)).1)) rfl (fun w' hw' => r_load Try.isAgg3 rfl (by rw [(hb29.upd0 hw').cell]; rfl))) ?_
              refine Wt_take (i := 14) (listed' := #[true, true, true, true, true, true, true, true, true, true, true, true, true, true, true, false, false, false, false, false, false, false, false, false, false, false, false, false]) (by kernel_rfl) rfl (by kernel_rfl) (by kernel_rfl) (by kernel_rfl) (by kernel_rfl) (YI_v (v := .pointer (some ⟨B25, 0, none⟩)) rfl (fun w' hw' => r_fld Try.underlying37 rfl Try.sizeOf3 rfl rfl)) ?_
              refine Wt_take (i := 15) (listed' := #[true, true, true, true, true, true, true, true, true, true, true, true, true, true, true, true, false, false, false, false, false, false, false, false, false, false, false, false]) (by kernel_rfl) rfl (by kernel_rfl) (by kernel_rfl) (by kernel_rfl) (by kernel_rfl) (YI_v (v := .int .i64 ((lst l i28).1)) rfl (fun w' hw' => r_load Try.isAgg3 rfl (by rw [(hb25.upd0 hw').cell]; rfl))) ?_
              refine Wt_take (i := 16) (listed' := #[true, true, true, true, true, true, true, true, true, true, true, true, true, true, true, true, true, false, false, false, false, false, false, false, false, false, false, false]) (by kernel_rfl) rfl (by kernel_rfl) (by kernel_rfl) (by kernel_rfl) (by kernel_rfl) (YI_v (v := .int .i64 ((((cds l).getD ((ord l).getD i28 0).toNat (0, 0)).1) - ((lst l i28).1))) rfl (fun w' hw' => r_sub rfl rfl (wi64 (by omega) (by omega)))) ?_
              refine Wt_take (i := 17) (listed' := #[true, true, true, true, true, true, true, true, true, true, true, true, true, true, true, true, true, true, false, false, false, false, false, false, false, false, false, false]) (by kernel_rfl) rfl (by kernel_rfl) (by kernel_rfl) (by kernel_rfl) (by kernel_rfl) (YI_v (v := .int .u32 ((((cds l).getD ((ord l).getD i28 0).toNat (0, 0)).2) / 2 ^ (min ((((cds l).getD ((ord l).getD i28 0).toNat (0, 0)).1) - ((lst l i28).1)).toNat IntKind.u32.bits))) rfl (fun w' hw' => r_shr rfl rfl (by omega) rfl)) ?_
              refine Wt_take (i := 18) (listed' := #[true, true, true, true, true, true, true, true, true, true, true, true, true, true, true, true, true, true, true, false, false, false, false, false, false, false, false, false]) (by kernel_rfl) rfl (by kernel_rfl) (by kernel_rfl) (by kernel_rfl) (by kernel_rfl) (YI_v (v := .pointer (some ⟨B25, 1, none⟩)) rfl (fun w' hw' => r_fld Try.underlying37 rfl Try.sizeOf35 rfl rfl)) ?_
              refine Wt_take (i := 19) (listed' := #[true, true, true, true, true, true, true, true, true, true, true, true, true, true, true, true, true, true, true, true, false, false, false, false, false, false, false, false]) (by kernel_rfl) rfl (by kernel_rfl) (by kernel_rfl) (by kernel_rfl) (by kernel_rfl) (YI_v (v := .int .u32 ((lst l i28).2)) rfl (fun w' hw' => r_load Try.isAgg35 rfl (by rw [(hb25.upd0 hw').cell]; rfl))) ?_
              refine Wt_take (i := 20) (listed' := #[true, true, true, true, true, true, true, true, true, true, true, true, true, true, true, true, true, true, true, true, true, false, false, false, false, false, false, false]) (by kernel_rfl) rfl (by kernel_rfl) (by kernel_rfl) (by kernel_rfl) (by kernel_rfl) (YI_v (v := .bool (decide (((((cds l).getD ((ord l).getD i28 0).toNat (0, 0)).2) / 2 ^ (min ((((cds l).getD ((ord l).getD i28 0).toNat (0, 0)).1) - ((lst l i28).1)).toNat IntKind.u32.bits)) ≤ ((lst l i28).2)))) rfl (fun w' hw' => r_le rfl rfl)) ?_
              refine Wt_take (i := 21) (listed' := #[true, true, true, true, true, true, true, true, true, true, true, true, true, true, true, true, true, true, true, true, true, true, false, false, false, false, false, false]) (by kernel_rfl) rfl (by kernel_rfl) (by kernel_rfl) (by kernel_rfl) (by kernel_rfl) (YI_v rfl (fun w' hw' => r_pick_f (v := .bool (decide (((((cds l).getD ((ord l).getD i28 0).toNat (0, 0)).2) / 2 ^ (min ((((cds l).getD ((ord l).getD i28 0).toNat (0, 0)).1) - ((lst l i28).1)).toNat IntKind.u32.bits)) ≤ ((lst l i28).2)))) rfl rfl)) ?_
              refine Wt_take (i := 22) (listed' := #[true, true, true, true, true, true, true, true, true, true, true, true, true, true, true, true, true, true, true, true, true, true, true, false, false, false, false, false]) (by kernel_rfl) rfl (by kernel_rfl) (by kernel_rfl) (by kernel_rfl) (by kernel_rfl) (YI_v (v := .bool (decide (((((cds l).getD ((ord l).getD i28 0).toNat (0, 0)).2) / 2 ^ (min ((((cds l).getD ((ord l).getD i28 0).toNat (0, 0)).1) - ((lst l i28).1)).toNat IntKind.u32.bits)) ≤ ((lst l i28).2)))) rfl (fun w' hw' => r_mv (v := .bool (decide (((((cds l).getD ((ord l).getD i28 0).toNat (0, 0)).2) / 2 ^ (min ((((cds l).getD ((ord l).getD i28 0).toNat (0, 0)).1) - ((lst l i28).1)).toNat IntKind.u32.bits)) ≤ ((lst l i28).2)))) rfl)) ?_
              have q19 : ¬ (((((cds l).getD ((ord l).getD i28 0).toNat (0, 0)).2) / 2 ^ (min ((((cds l).getD ((ord l).getD i28 0).toNat (0, 0)).1) - ((lst l i28).1)).toNat IntKind.u32.bits)) ≤ ((lst l i28).2)) := (by have := hrs.2.1; omega)
              rw [decide_eq_false q19]
              refine Wt_take (i := 23) (listed' := #[true, true, true, true, true, true, true, true, true, true, true, true, true, true, true, true, true, true, true, true, true, true, true, true, false, false, false, false]) (by kernel_rfl) rfl (by kernel_rfl) (by kernel_rfl) (by kernel_rfl) (by kernel_rfl) (YI_v (v := .agg #[.int .i64 ((lst l i28).1), .int .u32 ((lst l i28).2)]) rfl (fun w' hw' => r_loada (b := B25) (off := 0) (cs := [.int .i64 ((lst l i28).1), .int .u32 ((lst l i28).2)]) Try.isAgg37 Try.sizeOf37 rfl rfl (fun j hj => by rw [(hb25.upd0 hw').cell]; match j, hj with | 0, _ => rfl | 1, _ => rfl))) ?_
              refine Wt_take (i := 24) (listed' := #[true, true, true, true, true, true, true, true, true, true, true, true, true, true, true, true, true, true, true, true, true, true, true, true, true, false, false, false]) (by kernel_rfl) rfl (by kernel_rfl) (by kernel_rfl) (by kernel_rfl) (by kernel_rfl) (YI_v (v := .agg #[.int .i64 (((cds l).getD ((ord l).getD i28 0).toNat (0, 0)).1), .int .u32 (((cds l).getD ((ord l).getD i28 0).toNat (0, 0)).2)]) rfl (fun w' hw' => r_loada (b := B29) (off := 0) (cs := [.int .i64 (((cds l).getD ((ord l).getD i28 0).toNat (0, 0)).1), .int .u32 (((cds l).getD ((ord l).getD i28 0).toNat (0, 0)).2)]) Try.isAgg37 Try.sizeOf37 rfl rfl (fun j hj => by rw [(hb29.upd0 hw').cell]; match j, hj with | 0, _ => rfl | 1, _ => rfl))) ?_
              refine Wt_take (i := 25) (listed' := #[true, true, true, true, true, true, true, true, true, true, true, true, true, true, true, true, true, true, true, true, true, true, true, true, true, true, false, false]) (by kernel_rfl) rfl (by kernel_rfl) (by kernel_rfl) (by kernel_rfl) (by kernel_rfl) (YI_c (v := .bool (decide (Pfx (lst l i28) ((cds l).getD ((ord l).getD i28 0).toNat (0, 0))))) rfl (fun w' => r_call2 rfl Try.call28 rfl rfl) (fun w' hw' => isprefix_spec (b := ((cds l).getD ((ord l).getD i28 0).toNat (0, 0))) w' (by omega) (by omega))) ?_
              refine Wt_take (i := 26) (listed' := #[true, true, true, true, true, true, true, true, true, true, true, true, true, true, true, true, true, true, true, true, true, true, true, true, true, true, true, false]) (by kernel_rfl) rfl (by kernel_rfl) (by kernel_rfl) (by kernel_rfl) (by kernel_rfl) (YI_v rfl (fun w' hw' => r_pick_f (v := .bool (decide (Pfx (lst l i28) ((cds l).getD ((ord l).getD i28 0).toNat (0, 0))))) rfl rfl)) ?_
              refine Wt_take (i := 27) (listed' := #[true, true, true, true, true, true, true, true, true, true, true, true, true, true, true, true, true, true, true, true, true, true, true, true, true, true, true, true]) (by kernel_rfl) rfl (by kernel_rfl) (by kernel_rfl) (by kernel_rfl) (by kernel_rfl) (YI_v rfl (fun w' hw' => r_pick_t (v := .bool (decide (Pfx (lst l i28) ((cds l).getD ((ord l).getD i28 0).toNat (0, 0))))) rfl rfl)) ?_
              intro w32 hU32
              have hzw32 := hU32.size
              replace hrc27 := hrc27.upd0 hU32
              replace hdf27 := hdf27.upd0 hU32
              replace hb25 := hb25.upd0 hU32
              replace hb1 := hb1.upd0 hU32
              replace hO6 := hO6.upd0 hU32
              replace hO7 := hO7.upd0 hU32
              replace hBo24 := hBo24.upd0 hU32
              replace hBc24 := hBc24.upd0 hU32
              replace hO24 := hO24.upd0 hU32
              replace hC24 := hC24.upd0 hU32
              replace HU := HU.trans0 hU32
              replace HB27 := HB27.trans0 hU32
              replace hb29 := hb29.upd0 hU32
              refine Wa_done (by kernel_rfl) ?_
              have q20 : ¬ (Pfx (lst l i28) ((cds l).getD ((ord l).getD i28 0).toNat (0, 0))) := hrs.2.2
              rw [decide_eq_false q20]
              refine W_cond_f rfl ?_
              refine W_skip ?_
              refine W_region ?_
              refine Wl_v (r_loada (b := B29) (off := 0) (cs := [.int .i64 (((cds l).getD ((ord l).getD i28 0).toNat (0, 0)).1), .int .u32 (((cds l).getD ((ord l).getD i28 0).toNat (0, 0)).2)]) Try.isAgg37 Try.sizeOf37 rfl rfl (fun j hj => by rw [hb29.cell]; match j, hj with | 0, _ => rfl | 1, _ => rfl)) ?_
              refine Wl_storea (off := 0) (vs := [.int .i64 (((cds l).getD ((ord l).getD i28 0).toNat (0, 0)).1), .int .u32 (((cds l).getD ((ord l).getD i28 0).toNat (0, 0)).2)]) (cs' := [.int .i64 (((cds l).getD ((ord l).getD i28 0).toNat (0, 0)).1), .int .u32 (((cds l).getD ((ord l).getD i28 0).toNat (0, 0)).2)]) Try.sizeOf37 rfl rfl rfl (by simp only [List.mem_cons, List.not_mem_nil, or_false, forall_eq_or_imp, forall_eq]; exact ⟨rfl, rfl⟩) hb25 (by simp) rfl ?_
              intro w33 hU33 hzz33 hb25n
              replace hb25 := hb25n; clear hb25n
              have hzw33 := hU33.size
              replace hrc27 := hrc27.upd1 hU33 (by omega)
              replace hdf27 := hdf27.upd1 hU33 (by omega)
              replace hb1 := hb1.upd1 hU33 (by omega)
              replace hO6 := hO6.upd1 hU33 (by intro h1; have h3 : ((w5.heap.size ≤ B25) ∧ B25 < w6.heap.size) := h1; omega)
              replace hO7 := hO7.upd1 hU33 (by intro h1; have h3 : ((w6.heap.size ≤ B25) ∧ B25 < w7.heap.size) := h1; omega)
              replace hBo24 := hBo24.upd1 hU33 (by omega)
              replace hBc24 := hBc24.upd1 hU33 (by omega)
              replace hO24 := hO24.upd1 hU33 (by intro h1; have h3 : ((w11.heap.size ≤ B25) ∧ B25 < w24.heap.size) := h1; omega)
              replace hC24 := hC24.upd1 hU33 (by intro h1; have h3 : ((w11.heap.size ≤ B25) ∧ B25 < w24.heap.size) := h1; omega)
              replace HU := HU.trans1 hU33 (by show (False) ∨ w.heap.size ≤ B25; omega)
              replace HB27 := HB27.trans1 hU33 (by show (B25 = B25 ∨ B25 = D27 + 1) ∨ w28.heap.size ≤ B25; omega)
              replace hb29 := hb29.upd1 hU33 (by omega)
              refine Wl_nil ?_
              refine ⟨rfl, _, hrc27, ?_⟩
              intro w34 hU34 hzz34 hrz
              have hzw34 := hU34.size
              replace hdf27 := hdf27.upd1 hU34 (by omega)
              replace hb25 := hb25.upd1 hU34 (by omega)
              replace hb1 := hb1.upd1 hU34 (by omega)
              replace hO6 := hO6.upd1 hU34 (by intro h1; have h3 : ((w5.heap.size ≤ (D27 + 1)) ∧ (D27 + 1) < w6.heap.size) := h1; omega)
              replace hO7 := hO7.upd1 hU34 (by intro h1; have h3 : ((w6.heap.size ≤ (D27 + 1)) ∧ (D27 + 1) < w7.heap.size) := h1; omega)
              replace hBo24 := hBo24.upd1 hU34 (by omega)
              replace hBc24 := hBc24.upd1 hU34 (by omega)
              replace hO24 := hO24.upd1 hU34 (by intro h1; have h3 : ((w11.heap.size ≤ (D27 + 1)) ∧ (D27 + 1) < w24.heap.size) := h1; omega)
              replace hC24 := hC24.upd1 hU34 (by intro h1; have h3 : ((w11.heap.size ≤ (D27 + 1)) ∧ (D27 + 1) < w24.heap.size) := h1; omega)
              replace HU := HU.trans1 hU34 (by show (False) ∨ w.heap.size ≤ (D27 + 1); omega)
              replace HB27 := HB27.trans1 hU34 (by show ((D27 + 1) = B25 ∨ (D27 + 1) = D27 + 1) ∨ w28.heap.size ≤ (D27 + 1); omega)
              replace hb29 := hb29.upd1 hU34 (by omega)
              exact Or.inl ⟨rfl, HB27, (hJ27 _ _).2 ⟨(by rw [hr27]; rw [hr27] at hrz; exact hrz), hdf27, (by rw [lst_succ]; exact hb25), hb1, hO6, hO7, hBo24, hBc24, hO24, hC24, HU⟩⟩
            · rw [decide_eq_false q17]
              refine Wt_take (i := 4) (listed' := #[true, true, true, true, true, false, false, false, false, false, false, false, false, false, false, false, false, false, false, false, false, false, false, false, false, false, false, false]) (by kernel_rfl) rfl (by kernel_rfl) (by kernel_rfl) (by kernel_rfl) (by kernel_rfl) (YI_no rfl) ?_
              refine Wt_take (i := 5) (listed' := #[true, true, true, true, true, true, false, false, false, false, false, false, false, false, false, false, false, false, false, false, false, false, false, false, false, false, false, false]) (by kernel_rfl) rfl (by kernel_rfl) (by kernel_rfl) (by kernel_rfl) (by kernel_rfl) (YI_no rfl) ?_
              refine Wt_take (i := 6) (listed' := #[true, true, true, true, true, true, true, false, false, false, false, false, false, false, false, false, false, false, false, false, false, false, false, false, false, false, false, false]) (by kernel_rfl) rfl (by kernel_rfl) (by kernel_rfl) (by kernel_rfl) (by kernel_rfl) (YI_no rfl) ?_
              refine Wt_take (i := 7) (listed' := #[true, true, true, true, true, true, true, true, false, false, false, false, false, false, false, false, false, false, false, false, false, false, false, false, false, false, false, false]) (by kernel_rfl) rfl (by kernel_rfl) (by kernel_rfl) (by kernel_rfl) (by kernel_rfl) (YI_no rfl) ?_
              refine Wt_take (i := 8) (listed' := #[true, true, true, true, true, true, true, true, true, false, false, false, false, false, false, false, false, false, false, false, false, false, false, false, false, false, false, false]) (by kernel_rfl) rfl (by kernel_rfl) (by kernel_rfl) (by kernel_rfl) (by kernel_rfl) (YI_no rfl) ?_
              refine Wt_take (i := 9) (listed' := #[true, true, true, true, true, true, true, true, true, true, false, false, false, false, false, false, false, false, false, false, false, false, false, false, false, false, false, false]) (by kernel_rfl) rfl (by kernel_rfl) (by kernel_rfl) (by kernel_rfl) (by kernel_rfl) (YI_no rfl) ?_
              refine Wt_take (i := 10) (listed' := #[true, true, true, true, true, true, true, true, true, true, true, false, false, false, false, false, false, false, false, false, false, false, false, false, false, false, false, false]) (by kernel_rfl) rfl (by kernel_rfl) (by kernel_rfl) (by kernel_rfl) (by kernel_rfl) (YI_no rfl) ?_
              refine Wt_take (i := 11) (listed' := #[true, true, true, true, true, true, true, true, true, true, true, true, false, false, false, false, false, false, false, false, false, false, false, false, false, false, false, false]) (by kernel_rfl) rfl (by kernel_rfl) (by kernel_rfl) (by kernel_rfl) (by kernel_rfl) (YI_no rfl) ?_
              refine Wt_take (i := 12) (listed' := #[true, true, true, true, true, true, true, true, true, true, true, true, true, false, false, false, false, false, false, false, false, false, false, false, false, false, false, false]) (by kernel_rfl) rfl (by kernel_rfl) (by kernel_rfl) (by kernel_rfl) (by kernel_rfl) (YI_no rfl) ?_
              refine Wt_take (i := 13) (listed' := #[true, true, true, true, true, true, true, true, true, true, true, true, true, true, false, false, false, false, false, false, false, false, false, false, false, false, false, false]) (by kernel_rfl) rfl (by kernel_rfl) (by kernel_rfl) (by kernel_rfl) (by kernel_rfl) (YI_no rfl) ?_
              refine Wt_take (i := 14) (listed' := #[true, true, true, true, true, true, true, true, true, true, true, true, true, true, true, false, false, false, false, false, false, false, false, false, false, false, false, false]) (by kernel_rfl) rfl (by kernel_rfl) (by kernel_rfl) (by kernel_rfl) (by kernel_rfl) (YI_no rfl) ?_
              refine Wt_take (i := 15) (listed' := #[true, true, true, true, true, true, true, true, true, true, true, true, true, true, true, true, false, false, false, false, false, false, false, false, false, false, false, false]) (by kernel_rfl) rfl (by kernel_rfl) (by kernel_rfl) (by kernel_rfl) (by kernel_rfl) (YI_no rfl) ?_
              refine Wt_take (i := 16) (listed' := #[true, true, true, true, true, true, true, true, true, true, true, true, true, true, true, true, true, false, false, false, false, false, false, false, false, false, false, false]) (by kernel_rfl) rfl (by kernel_rfl) (by kernel_rfl) (by kernel_rfl) (by kernel_rfl) (YI_no rfl) ?_
              refine Wt_take (i := 17) (listed' := #[true, true, true, true, true, true, true, true, true, true, true, true, true, true, true, true, true, true, false, false, false, false, false, false, false, false, false, false]) (by kernel_rfl) rfl (by kernel_rfl) (by kernel_rfl) (by kernel_rfl) (by kernel_rfl) (YI_no rfl) ?_
              refine Wt_take (i := 18) (listed' := #[true, true, true, true, true, true, true, true, true, true, true, true, true, true, true, true, true, true, true, false, false, false, false, false, false, false, false, false]) (by kernel_rfl) rfl (by kernel_rfl) (by kernel_rfl) (by kernel_rfl) (by kernel_rfl) (YI_no rfl) ?_
              refine Wt_take (i := 19) (listed' := #[true, true, true, true, true, true, true, true, true, true, true, true, true, true, true, true, true, true, true, true, false, false, false, false, false, false, false, false]) (by kernel_rfl) rfl (by kernel_rfl) (by kernel_rfl) (by kernel_rfl) (by kernel_rfl) (YI_no rfl) ?_
              refine Wt_take (i := 20) (listed' := #[true, true, true, true, true, true, true, true, true, true, true, true, true, true, true, true, true, true, true, true, true, false, false, false, false, false, false, false]) (by kernel_rfl) rfl (by kernel_rfl) (by kernel_rfl) (by kernel_rfl) (by kernel_rfl) (YI_no rfl) ?_
              refine Wt_take (i := 21) (listed' := #[true, true, true, true, true, true, true, true, true, true, true, true, true, true, true, true, true, true, true, true, true, true, false, false, false, false, false, false]) (by kernel_rfl) rfl (by kernel_rfl) (by kernel_rfl) (by kernel_rfl) (by kernel_rfl) (YI_no rfl) ?_
              refine Wt_take (i := 22) (listed' := #[true, true, true, true, true, true, true, true, true, true, true, true, true, true, true, true, true, true, true, true, true, true, true, false, false, false, false, false]) (by kernel_rfl) rfl (by kernel_rfl) (by kernel_rfl) (by kernel_rfl) (by kernel_rfl) (YI_no rfl) ?_
              refine Wt_take (i := 23) (listed' := #[true, true, true, true, true, true, true, true, true, true, true, true, true, true, true, true, true, true, true, true, true, true, true, true, false, false, false, false]) (by kernel_rfl) rfl (by kernel_rfl) (by kernel_rfl) (by kernel_rfl) (by kernel_rfl) (YI_no rfl) ?_
              refine Wt_take (i := 24) (listed' := #[true, true, true, true, true, true, true, true, true, true, true, true, true, true, true, true, true, true, true, true, true, true, true, true, true, false, false, false]) (by kernel_rfl) rfl (by kernel_rfl) (by kernel_rfl) (by kernel_rfl) (by kernel_rfl) (YI_no rfl) ?_
              intro w35 hU35
              have hzw35 := hU35.size
              replace hrc27 := hrc27.upd0 hU35
              replace hdf27 := hdf27.upd0 hU35
              replace hb25 := hb25.upd0 hU35
              replace hb1 := hb1.upd0 hU35
              replace hO6 := hO6.upd0 hU35
              replace hO7 := hO7.upd0 hU35
              replace hBo24 := hBo24.upd0 hU35
              replace hBc24 := hBc24.upd0 hU35
              replace hO24 := hO24.upd0 hU35
              replace hC24 := hC24.upd0 hU35
              replace HU := HU.trans0 hU35
              replace HB27 := HB27.trans0 hU35
              replace hb29 := hb29.upd0 hU35
              refine Wa_one (i := 25) (listed' := #[true, true, true, true, true, true, true, true, true, true, true, true, true, true, true, true, true, true, true, true, true, true, true, true, true, true, false, false]) (by kernel_rfl) rfl (by kernel_rfl) ?_
              refine Ws_of_Wl ?_
              have hW : Upd No w31 w35 := hU35
              refine Wl_skip rfl ?_
              refine Wl_nil ?_
              intro w36 hS36
              refine ⟨fun h => absurd h (by rw [show barOp _ 25 = true from by kernel_rfl]; simp), fun _ => ⟨Upd No w36, ?_⟩⟩
              have hU36 := hS36.upd
              have hzw36 := hU36.size
              replace hrc27 := hrc27.upd0 hU36
              replace hdf27 := hdf27.upd0 hU36
              replace hb25 := hb25.upd0 hU36
              replace hb1 := hb1.upd0 hU36
              replace hO6 := hO6.upd0 hU36
              replace hO7 := hO7.upd0 hU36
              replace hBo24 := hBo24.upd0 hU36
              replace hBc24 := hBc24.upd0 hU36
              replace hO24 := hO24.upd0 hU36
              replace hC24 := hC24.upd0 hU36
              replace HU := HU.trans0 hU36
              replace HB27 := HB27.trans0 hU36
              replace hb29 := hb29.upd0 hU36
              try replace hW := hW.trans0 hU36
              refine Wt_base (Upd.refl _ _) ?_
              refine Wt_take (i := 26) (listed' := #[true, true, true, true, true, true, true, true, true, true, true, true, true, true, true, true, true, true, true, true, true, true, true, true, true, true, true, false]) (by kernel_rfl) rfl (by kernel_rfl) (by kernel_rfl) (by kernel_rfl) (by kernel_rfl) (YI_no rfl) ?_
              refine Wt_take (i := 27) (listed' := #[true, true, true, true, true, true, true, true, true, true, true, true, true, true, true, true, true, true, true, true, true, true, true, true, true, true, true, true]) (by kernel_rfl) rfl (by kernel_rfl) (by kernel_rfl) (by kernel_rfl) (by kernel_rfl) (YI_v rfl (fun w' hw' => r_pick_f (v := .bool false) rfl rfl)) ?_
              intro w37 hU37
              have hzw37 := hU37.size
              replace hrc27 := hrc27.upd0 hU37
              replace hdf27 := hdf27.upd0 hU37
              replace hb25 := hb25.upd0 hU37
              replace hb1 := hb1.upd0 hU37
              replace hO6 := hO6.upd0 hU37
              replace hO7 := hO7.upd0 hU37
              replace hBo24 := hBo24.upd0 hU37
              replace hBc24 := hBc24.upd0 hU37
              replace hO24 := hO24.upd0 hU37
              replace hC24 := hC24.upd0 hU37
              replace HU := HU.trans0 hU37
              replace HB27 := HB27.trans0 hU37
              replace hb29 := hb29.upd0 hU37
              try replace hW := hW.trans0 hU37
              refine Wa_done (by kernel_rfl) ?_
              refine W_cond_f rfl ?_
              refine W_skip ?_
              refine W_region ?_
              refine Wl_v (r_loada (b := B29) (off := 0) (cs := [.int .i64 (((cds l).getD ((ord l).getD i28 0).toNat (0, 0)).1), .int .u32 (((cds l).getD ((ord l).getD i28 0).toNat (0, 0)).2)]) Try.isAgg37 Try.sizeOf37 rfl rfl (fun j hj => by rw [hb29.cell]; match j, hj with | 0, _ => rfl | 1, _ => rfl)) ?_
              refine Wl_storea (off := 0) (vs := [.int .i64 (((cds l).getD ((ord l).getD i28 0).toNat (0, 0)).1), .int .u32 (((cds l).getD ((ord l).getD i28 0).toNat (0, 0)).2)]) (cs' := [.int .i64 (((cds l).getD ((ord l).getD i28 0).toNat (0, 0)).1), .int .u32 (((cds l).getD ((ord l).getD i28 0).toNat (0, 0)).2)]) Try.sizeOf37 rfl rfl rfl (by simp only [List.mem_cons, List.not_mem_nil, or_false, forall_eq_or_imp, forall_eq]; exact ⟨rfl, rfl⟩) hb25 (by simp) rfl ?_
              intro w38 hU38 hzz38 hb25n
              replace hb25 := hb25n; clear hb25n
              have hzw38 := hU38.size
              replace hrc27 := hrc27.upd1 hU38 (by omega)
              replace hdf27 := hdf27.upd1 hU38 (by omega)
              replace hb1 := hb1.upd1 hU38 (by omega)
              replace hO6 := hO6.upd1 hU38 (by intro h1; have h3 : ((w5.heap.size ≤ B25) ∧ B25 < w6.heap.size) := h1; omega)
              replace hO7 := hO7.upd1 hU38 (by intro h1; have h3 : ((w6.heap.size ≤ B25) ∧ B25 < w7.heap.size) := h1; omega)
              replace hBo24 := hBo24.upd1 hU38 (by omega)
              replace hBc24 := hBc24.upd1 hU38 (by omega)
              replace hO24 := hO24.upd1 hU38 (by intro h1; have h3 : ((w11.heap.size ≤ B25) ∧ B25 < w24.heap.size) := h1; omega)
              replace hC24 := hC24.upd1 hU38 (by intro h1; have h3 : ((w11.heap.size ≤ B25) ∧ B25 < w24.heap.size) := h1; omega)
              replace HU := HU.trans1 hU38 (by show (False) ∨ w.heap.size ≤ B25; omega)
              replace HB27 := HB27.trans1 hU38 (by show (B25 = B25 ∨ B25 = D27 + 1) ∨ w28.heap.size ≤ B25; omega)
              replace hb29 := hb29.upd1 hU38 (by omega)
              refine Wl_nil ?_
              refine ⟨rfl, _, hrc27, ?_⟩
              intro w39 hU39 hzz39 hrz
              have hzw39 := hU39.size
              replace hdf27 := hdf27.upd1 hU39 (by omega)
              replace hb25 := hb25.upd1 hU39 (by omega)
              replace hb1 := hb1.upd1 hU39 (by omega)
              replace hO6 := hO6.upd1 hU39 (by intro h1; have h3 : ((w5.heap.size ≤ (D27 + 1)) ∧ (D27 + 1) < w6.heap.size) := h1; omega)
              replace hO7 := hO7.upd1 hU39 (by intro h1; have h3 : ((w6.heap.size ≤ (D27 + 1)) ∧ (D27 + 1) < w7.heap.size) := h1; omega)
              replace hBo24 := hBo24.upd1 hU39 (by omega)
              replace hBc24 := hBc24.upd1 hU39 (by omega)
              replace hO24 := hO24.upd1 hU39 (by intro h1; have h3 : ((w11.heap.size ≤ (D27 + 1)) ∧ (D27 + 1) < w24.heap.size) := h1; omega)
              replace hC24 := hC24.upd1 hU39 (by intro h1; have h3 : ((w11.heap.size ≤ (D27 + 1)) ∧ (D27 + 1) < w24.heap.size) := h1; omega)
              replace HU := HU.trans1 hU39 (by show (False) ∨ w.heap.size ≤ (D27 + 1); omega)
              replace HB27 := HB27.trans1 hU39 (by show ((D27 + 1) = B25 ∨ (D27 + 1) = D27 + 1) ∨ w28.heap.size ≤ (D27 + 1); omega)
              replace hb29 := hb29.upd1 hU39 (by omega)
              exact Or.inl ⟨rfl, HB27, (hJ27 _ _).2 ⟨(by rw [hr27]; rw [hr27] at hrz; exact hrz), hdf27, (by rw [lst_succ]; exact hb25), hb1, hO6, hO7, hBo24, hBc24, hO24, hC24, HU⟩⟩
          · rintro b c w9 (⟨rfl, h1, h2⟩ | ⟨rfl, h1⟩)
            · exact Or.inl ⟨rfl, h1, h2⟩
            · exact Or.inr ⟨rfl, h1⟩
        rintro e w40 ⟨v, rfl, hh | hh⟩
        · obtain ⟨hrc27, hdf27, hb25, hb1, hO6, hO7, hBo24, hBc24, hO24, hC24, HU⟩ := (hJ27 _ _).1 hh
          have hrl27 := hrc27.lt
          refine ⟨r27, hrc27, (by rw [hr27]; simp), ?_⟩
          intro w41 hU41 hzz41
          have hzw41 := hU41.size
          replace hdf27 := hdf27.upd1 hU41 (by omega)
          replace hb25 := hb25.upd1 hU41 (by omega)
          replace hb1 := hb1.upd1 hU41 (by omega)
          replace hO6 := hO6.upd1 hU41 (by intro h1; have h3 : ((w5.heap.size ≤ (D27 + 1)) ∧ (D27 + 1) < w6.heap.size) := h1; omega)
          replace hO7 := hO7.upd1 hU41 (by intro h1; have h3 : ((w6.heap.size ≤ (D27 + 1)) ∧ (D27 + 1) < w7.heap.size) := h1; omega)
          replace hBo24 := hBo24.upd1 hU41 (by omega)
          replace hBc24 := hBc24.upd1 hU41 (by omega)
          replace hO24 := hO24.upd1 hU41 (by intro h1; have h3 : ((w11.heap.size ≤ (D27 + 1)) ∧ (D27 + 1) < w24.heap.size) := h1; omega)
          replace hC24 := hC24.upd1 hU41 (by intro h1; have h3 : ((w11.heap.size ≤ (D27 + 1)) ∧ (D27 + 1) < w24.heap.size) := h1; omega)
          replace HU := HU.trans1 hU41 (by show (False) ∨ w.heap.size ≤ (D27 + 1); omega)
          rw [hr27]
          rw [show m24 = (ord l).length from by omega] at hb25
          have hla := lst_last hr
          have hlb := lst_bd hr (ord l).length
          refine W_seq ?_
          refine W_drawt rfl (l0 := #[false, false, false, false, false, false, false, false, false, false, false]) (by kernel_rfl) ?_
          refine Wt_take (i := 0) (listed' := #[true, false, false, false, false, false, false, false, false, false, false]) (by kernel_rfl) rfl (by kernel_rfl) (by kernel_rfl) (by kernel_rfl) (by kernel_rfl) (YI_v (v := .pointer (some ⟨B25, 1, none⟩)) rfl (fun w' hw' => r_fld Try.underlying37 rfl Try.sizeOf35 rfl rfl)) ?_
          refine Wt_take (i := 1) (listed' := #[true, true, false, false, false, false, false, false, false, false, false]) (by kernel_rfl) rfl (by kernel_rfl) (by kernel_rfl) (by kernel_rfl) (by kernel_rfl) (YI_v (v := .int .u32 ((lst l (ord l).length).2)) rfl (fun w' hw' => r_load Try.isAgg35 rfl (by rw [(hb25.upd0 hw').cell]; rfl))) ?_
          refine Wt_take (i := 2) (listed' := #[true, true, true, false, false, false, false, false, false, false, false]) (by kernel_rfl) rfl (by kernel_rfl) (by kernel_rfl) (by kernel_rfl) (by kernel_rfl) (YI_v (v := .pointer (some ⟨B25, 0, none⟩)) rfl (fun w' hw' => r_fld Try.underlying37 rfl Try.sizeOf3 rfl rfl)) ?_
          refine Wt_take (i := 3) (listed' := #[true, true, true, true, false, false, false, false, false, false, false]) (by kernel_rfl) rfl (by kernel_rfl) (by kernel_rfl) (by kernel_rfl) (by kernel_rfl) (YI_v (v := .int .i64 ((lst l (ord l).length).1)) rfl (fun w' hw' => r_load Try.isAgg3 rfl (by rw [(hb25.upd0 hw').cell]; rfl))) ?_
          refine Wt_take (i := 4) (listed' := #[true, true, true, true, true, false, false, false, false, false, false]) (by kernel_rfl) rfl (by kernel_rfl) (by kernel_rfl) (by kernel_rfl) (by kernel_rfl) (YI_v (v := .int .u32 (2 ^ ((lst l (ord l).length).1).toNat)) rfl (fun w' hw' => r_shl rfl rfl (by omega) (shlc (by omega) (by omega)))) ?_
          refine Wt_take (i := 5) (listed' := #[true, true, true, true, true, true, false, false, false, false, false]) (by kernel_rfl) rfl (by kernel_rfl) (by kernel_rfl) (by kernel_rfl) (by kernel_rfl) (YI_v (v := .int .u32 ((2 ^ ((lst l (ord l).length).1).toNat) - 1)) rfl (fun w' hw' => r_sub rfl rfl (wu32 (by omega) (by omega)))) ?_
          refine Wt_take (i := 6) (listed' := #[true, true, true, true, true, true, true, false, false, false, false]) (by kernel_rfl) rfl (by kernel_rfl) (by kernel_rfl) (by kernel_rfl) (by kernel_rfl) (YI_v (v := .bool (decide (((lst l (ord l).length).2) = ((2 ^ ((lst l (ord l).length).1).toNat) - 1)))) rfl (fun w' hw' => r_eq rfl rfl)) ?_
          refine Wt_take (i := 7) (listed' := #[true, true, true, true, true, true, true, true, false, false, false]) (by kernel_rfl) rfl (by kernel_rfl) (by kernel_rfl) (by kernel_rfl) (by kernel_rfl) (YI_v (v := .bool (decide (((lst l (ord l).length).2) = ((2 ^ ((lst l (ord l).length).1).toNat) - 1)))) rfl (fun w' hw' => r_mv (v := .bool (decide (((lst l (ord l).length).2) = ((2 ^ ((lst l (ord l).length).1).toNat) - 1)))) rfl)) ?_
          have q21 : ((lst l (ord l).length).2) = ((2 ^ ((lst l (ord l).length).1).toNat) - 1) := (by omega)
          rw [decide_eq_true q21]
          refine Wt_take (i := 8) (listed' := #[true, true, true, true, true, true, true, true, true, false, false]) (by kernel_rfl) rfl (by kernel_rfl) (by kernel_rfl) (by kernel_rfl) (by kernel_rfl) (YI_c (v := .bool true) rfl (fun w' => r_call0 rfl Try.call12 ) (fun w' hw' => works_spec w' )) ?_
          refine Wt_take (i := 9) (listed' := #[true, true, true, true, true, true, true, true, true, true, false]) (by kernel_rfl) rfl (by kernel_rfl) (by kernel_rfl) (by kernel_rfl) (by kernel_rfl) (YI_v rfl (fun w' hw' => r_pick_t (v := .bool true) rfl rfl)) ?_
          intro w42 hU42
          have hzw42 := hU42.size
          replace hdf27 := hdf27.upd0 hU42
          replace hb25 := hb25.upd0 hU42
          replace hb1 := hb1.upd0 hU42
          replace hO6 := hO6.upd0 hU42
          replace hO7 := hO7.upd0 hU42
          replace hBo24 := hBo24.upd0 hU42
          replace hBc24 := hBc24.upd0 hU42
          replace hO24 := hO24.upd0 hU42
          replace hC24 := hC24.upd0 hU42
          replace HU := HU.trans0 hU42
          refine Wa_one (i := 10) (listed' := #[true, true, true, true, true, true, true, true, true, true, true]) (by kernel_rfl) rfl (by kernel_rfl) ?_
          refine Ws_of_Wl ?_
          have hW : Upd No w41 w42 := hU42
          refine Wl_store (v := .bool true) (cs' := [.bool true]) Try.sizeOf4 rfl rfl rfl rfl hb1 rfl rfl ?_
          intro w43 hU43 hzz43 hb1n
          replace hb1 := hb1n; clear hb1n
          have hzw43 := hU43.size
          replace hdf27 := hdf27.upd1 hU43 (by omega)
          replace hb25 := hb25.upd1 hU43 (by omega)
          replace hO6 := hO6.upd1 hU43 (by intro h1; have h3 : ((w5.heap.size ≤ B1) ∧ B1 < w6.heap.size) := h1; omega)
          replace hO7 := hO7.upd1 hU43 (by intro h1; have h3 : ((w6.heap.size ≤ B1) ∧ B1 < w7.heap.size) := h1; omega)
          replace hBo24 := hBo24.upd1 hU43 (by omega)
          replace hBc24 := hBc24.upd1 hU43 (by omega)
          replace hO24 := hO24.upd1 hU43 (by intro h1; have h3 : ((w11.heap.size ≤ B1) ∧ B1 < w24.heap.size) := h1; omega)
          replace hC24 := hC24.upd1 hU43 (by intro h1; have h3 : ((w11.heap.size ≤ B1) ∧ B1 < w24.heap.size) := h1; omega)
          replace HU := HU.trans1 hU43 (by show (False) ∨ w.heap.size ≤ B1; omega)
          refine Wl_nil ?_
          intro w44 hS44
          refine ⟨fun h => absurd h (by rw [show barOp _ 10 = true from by kernel_rfl]; simp), fun _ => ⟨Upd No w44, ?_⟩⟩
          have hU44 := hS44.upd
          have hzw44 := hU44.size
          replace hdf27 := hdf27.upd0 hU44
          replace hb25 := hb25.upd0 hU44
          replace hb1 := hb1.upd0 hU44
          replace hO6 := hO6.upd0 hU44
          replace hO7 := hO7.upd0 hU44
          replace hBo24 := hBo24.upd0 hU44
          replace hBc24 := hBc24.upd0 hU44
          replace hO24 := hO24.upd0 hU44
          replace hC24 := hC24.upd0 hU44
          replace HU := HU.trans0 hU44
          try replace hW := hW.trans0 hU44
          refine Wa_done (by kernel_rfl) ?_
          refine W_ret ?_
          refine ret_ds rfl ?_
          refine lv_mark (by simp) hdf27 ?_
          intro w45 hU45 hzz45
          have hzw45 := hU45.size
          replace hb25 := hb25.upd1 hU45 (by omega)
          replace hb1 := hb1.upd1 hU45 (by omega)
          replace hO6 := hO6.upd1 hU45 (by intro h1; have h3 : ((w5.heap.size ≤ D27) ∧ D27 < w6.heap.size) := h1; omega)
          replace hO7 := hO7.upd1 hU45 (by intro h1; have h3 : ((w6.heap.size ≤ D27) ∧ D27 < w7.heap.size) := h1; omega)
          replace hBo24 := hBo24.upd1 hU45 (by omega)
          replace hBc24 := hBc24.upd1 hU45 (by omega)
          replace hO24 := hO24.upd1 hU45 (by intro h1; have h3 : ((w11.heap.size ≤ D27) ∧ D27 < w24.heap.size) := h1; omega)
          replace hC24 := hC24.upd1 hU45 (by intro h1; have h3 : ((w11.heap.size ≤ D27) ∧ D27 < w24.heap.size) := h1; omega)
          replace HU := HU.trans1 hU45 (by show (False) ∨ w.heap.size ≤ D27; omega)
          refine lv_nil (v := .bool true) (rc1 Try.results11 rfl (cellIs Try.isAgg4 hb1)) ?_
          exact ⟨_, rfl, rfl, HU⟩
        · exact ((hJx27 _).1 hh).elim
    · refine Wl_call (r_call1 rfl Try.call15 rfl) (check_no _ hs (by omega) q2) ?_
      rintro v w46 ⟨rfl, hU46⟩
      have hzw46 := hU46.size
      replace hs := hs.upd0 hU46
      replace HU := HU.trans0 hU46
      replace hb1 := hb1.upd0 hU46
      refine Wl_guard_t rfl ?_
      refine Wl_call (r_call1 rfl Try.call14 rfl) (num_spec _ ) ?_
      rintro v w47 ⟨rfl, hU47⟩
      have hzw47 := hU47.size
      replace hs := hs.upd0 hU47
      replace HU := HU.trans0 hU47
      replace hb1 := hb1.upd0 hU47
      refine Wl_guard_t rfl ?_
      refine Wl_v (v := .bool true) (r_ne (a := 12) (b := 0) rfl rfl) ?_
      refine Wl_v (r_pick_f (v := .bool true) rfl rfl) ?_
      refine Wl_nil ?_
      refine W_cond_t rfl ?_
      refine W_seq ?_
      refine W_region ?_
      refine Wl_call (r_call0 rfl Try.call12 ) (works_spec _ ) ?_
      rintro v w48 ⟨rfl, hU48⟩
      have hzw48 := hU48.size
      replace hs := hs.upd0 hU48
      replace HU := HU.trans0 hU48
      replace hb1 := hb1.upd0 hU48
      refine Wl_store (v := .bool true) (cs' := [.bool true]) Try.sizeOf4 rfl rfl rfl rfl hb1 rfl rfl ?_
      intro w49 hU49 hzz49 hb1n
      replace hb1 := hb1n; clear hb1n
      have hzw49 := hU49.size
      replace hs := hs.upd1 hU49 (by intro h1; have h3 : B1 < w.heap.size := h1; omega)
      replace HU := HU.trans1 hU49 (by show (False) ∨ w.heap.size ≤ B1; omega)
      refine Wl_nil ?_
      refine W_ret ?_
      refine ret_end (v := .bool true) rfl (rc1 Try.results11 rfl (cellIs Try.isAgg4 hb1)) ?_
      exact ⟨_, rfl, rfl, HU⟩

end Go.Proofs.Ytakbopikohghmaa
