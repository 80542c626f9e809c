/-
  Walks, printed by a small program of this project (gen.py).
-/
import Derived.Test.YtakbopikohghmaaXe
set_option linter.unusedVariables false
set_option linter.unusedSimpArgs false
namespace Go.Proofs.Ytakbopikohghmaa
open Go.Fw

theorem tk1g {α : Type} (d : α) {l : List α} {k : Nat} (h : k < l.length) : l.take (k + 1) = l.take k ++ [l.getD k d] := by
  rw [List.take_add_one, List.getElem?_eq_getElem h, List.getD_eq_getElem?_getD, List.getElem?_eq_getElem h]; rfl
theorem leq_step {α : Type} (d : α) {x y : List α} {k : Nat} (h : x.take k = y.take k) (h1 : k < x.length) (h2 : k < y.length) (e : x.getD k d = y.getD k d) : x.take (k + 1) = y.take (k + 1) := by
  rw [tk1g d h1, tk1g d h2, h, e]
theorem leq_ne {α : Type} (d : α) {x y : List α} {k : Nat} (e : x.getD k d ≠ y.getD k d) : ¬ x = y := fun h => e (by rw [h])
theorem leq_end {α : Type} {x y : List α} {k : Nat} (h : x.take k = y.take k) (h1 : x.length ≤ k) (h2 : y.length ≤ k) : x = y := by
  rwa [List.take_of_length_le h1, List.take_of_length_le h2] at h
theorem leq_len {α : Type} {x y : List α} (h : x.length ≠ y.length) : ¬ x = y := fun e => h (by rw [e])

theorem equal_spec {a b : Option Addr} {n c m e : Nat} {x y : List (Int × Int)} {R T : Nat → Prop} (w : World) (hx : Sl w R 2 (.slice a n c) n (rows encC x)) (hy : Sl w T 2 (.slice b m e) m (rows encC y)) (hn : n ≤ 17592186044415) :
    Calls Try.prog 46 #[.slice a n c, .slice b m e] w (Ret fun v w' => v = .bool (decide (x = y)) ∧ Upd No w w') := by
  have HU : Upd (fun b => False) w w := Upd.refl _ _
  have hl_hx := rlen encC_len (by decide) hx
  have hc_hx := hx.cap.1
  replace hx := hx.tight
  have hl_hy := rlen encC_len (by decide) hy
  have hc_hy := hy.cap.1
  replace hy := hy.tight
  refine calls_of_W Try.func46 rfl Try.ntmps46 (by simp) ?_
  refine W_seq ?_
  refine W_region ?_
  refine Wl_v (r_as (v := .bool false) rfl) ?_
  refine Wl_nil ?_
  refine W_seq ?_
  refine W_seq ?_
  refine W_region ?_
  refine Wl_v (r_mv (v := .slice a n c) rfl) ?_
  refine Wl_v (r_len Try.underlying28 rfl) ?_
  refine Wl_v (r_mv (v := .slice b m e) rfl) ?_
  refine Wl_v (r_len Try.underlying28 rfl) ?_
  refine Wl_v (r_ne rfl rfl) ?_
  refine Wl_nil ?_
  by_cases q1 : ((n : Nat) : Int) ≠ ((m : Nat) : Int)
  · rw [decide_eq_true q1]
    refine W_cond_t rfl ?_
    refine W_seq ?_
    refine W_region ?_
    refine Wl_v (r_as (v := .bool false) rfl) ?_
    refine Wl_nil ?_
    refine W_ret ?_
    refine ret_end (v := .bool false) rfl (res1 Try.results46 rfl) ?_
    exact ⟨_, rfl, (vboolf (leq_len (by omega))), HU⟩
  · rw [decide_eq_false q1]
    refine W_cond_f rfl ?_
    refine W_skip ?_
    refine W_seq ?_
    refine W_seq ?_
    refine W_region ?_
    refine Wl_v (r_mv (v := .slice a n c) rfl) ?_
    refine Wl_v (r_len Try.underlying28 rfl) ?_
    refine Wl_v (r_mv (v := .int .i64 0) rfl) ?_
    refine Wl_nil ?_
    refine W_block ?_
    refine W_loop (fun mu ρ ds w' => ∃ (k : Nat), n - k = mu ∧ ds = [] ∧ Liv ρ [(0, .slice a n c), (1, .slice b m e), (12, .int .i64 ((n : Nat) : Int)), (13, .int .i64 ((k : Nat) : Int))] ∧ k ≤ n ∧ x.take k = y.take k ∧ Upd No w w') _ ⟨0, rfl, rfl, ⟨rfl, rfl, rfl, (by first | rfl | exact vint (by omega) | exact vint (by simp)), trivial⟩, (by omega), (by simp), Upd.refl _ _⟩ ?_
    rintro m1 ρ1 ds1 w1 ⟨k, rfl, rfl, hl1, hk, htk, hU1⟩
    obtain ⟨ρ1x, rfl⟩ : ∃ ρx, ρ1 = upds ρx [(0, .slice a n c), (1, .slice b m e), (12, .int .i64 ((n : Nat) : Int)), (13, .int .i64 ((k : Nat) : Int))] := ⟨_, upds_self hl1⟩
    clear hl1
    have hzw1 := hU1.size
    replace hx := hx.upd0 hU1
    replace hy := hy.upd0 hU1
    replace HU := HU.trans0 hU1
    have HL1 := hU1
    refine W_seq ?_
    refine W_region ?_
    refine Wl_v (r_lt rfl rfl) ?_
    refine Wl_nil ?_
    refine W_seq ?_
    by_cases q2 : ((k : Nat) : Int) < ((n : Nat) : Int)
    · rw [decide_eq_true q2]
      refine W_cond_t rfl ?_
      refine W_skip ?_
      refine W_seq ?_
      refine W_block ?_
      refine W_seq ?_
      refine W_region ?_
      refine Wl_v (r_mv (v := .int .i64 ((k : Nat) : Int)) rfl) ?_
      refine Wl_v (r_as (v := .int .i64 ((k : Nat) : Int)) rfl) ?_
      refine Wl_nil ?_
      refine W_seq ?_
      refine W_drawt rfl (l0 := #[false, false, false, false, false, false, false, false, false]) (by kernel_rfl) ?_
      refine Wt_take (i := 0) (listed' := #[true, false, false, false, false, false, false, false, false]) (by kernel_rfl) rfl (by kernel_rfl) (by kernel_rfl) (by kernel_rfl) (by kernel_rfl) (YI_v (v := .slice a n c) rfl (fun w' hw' => r_mv (v := .slice a n c) rfl)) ?_
      refine Wt_take (i := 1) (listed' := #[true, true, false, false, false, false, false, false, false]) (by kernel_rfl) rfl (by kernel_rfl) (by kernel_rfl) (by kernel_rfl) (by kernel_rfl) (YI_v (v := .int .i64 ((k : Nat) : Int)) rfl (fun w' hw' => r_mv (v := .int .i64 ((k : Nat) : Int)) rfl)) ?_
      obtain ⟨ib2, io2, ha2, hib2, hc2⟩ := Sl.rat (0, 0) encC_len (by decide) (hx) (i := k) (by omega)
      refine Wt_take (i := 2) (listed' := #[true, true, true, false, false, false, false, false, false]) (by kernel_rfl) rfl (by kernel_rfl) (by kernel_rfl) (by kernel_rfl) (by kernel_rfl) (YI_v (v := .pointer (some ⟨ib2, io2 + k * 2, none⟩)) rfl (fun w' hw' => r_idx (b := ib2) (off := io2) (m := n) (c := c) (o' := io2 + k * 2) Try.underlying28 Try.sizeOf37 (by rw [← ha2]; rfl) rfl (by omega) (by omega) (by omega))) ?_
      refine Wt_take (i := 3) (listed' := #[true, true, true, true, false, false, false, false, false]) (by kernel_rfl) rfl (by kernel_rfl) (by kernel_rfl) (by kernel_rfl) (by kernel_rfl) (YI_v (v := .agg #[.int .i64 ((x.getD k (0, 0)).1), .int .u32 ((x.getD k (0, 0)).2)]) rfl (fun w' hw' => r_loada (cs := [.int .i64 ((x.getD k (0, 0)).1), .int .u32 ((x.getD k (0, 0)).2)]) Try.isAgg37 Try.sizeOf37 rfl rfl (hw'.cellsk rfl hc2))) ?_
      refine Wt_take (i := 4) (listed' := #[true, true, true, true, true, false, false, false, false]) (by kernel_rfl) rfl (by kernel_rfl) (by kernel_rfl) (by kernel_rfl) (by kernel_rfl) (YI_v (v := .slice b m e) rfl (fun w' hw' => r_mv (v := .slice b m e) rfl)) ?_
      refine Wt_take (i := 5) (listed' := #[true, true, true, true, true, true, false, false, false]) (by kernel_rfl) rfl (by kernel_rfl) (by kernel_rfl) (by kernel_rfl) (by kernel_rfl) (YI_v (v := .int .i64 ((k : Nat) : Int)) rfl (fun w' hw' => r_mv (v := .int .i64 ((k : Nat) : Int)) rfl)) ?_
      obtain ⟨ib3, io3, ha3, hib3, hc3⟩ := Sl.rat (0, 0) encC_len (by decide) (hy) (i := k) (by omega)
      refine Wt_take (i := 6) (listed' := #[true, true, true, true, true, true, true, false, false]) (by kernel_rfl) rfl (by kernel_rfl) (by kernel_rfl) (by kernel_rfl) (by kernel_rfl) (YI_v (v := .pointer (some ⟨ib3, io3 + k * 2, none⟩)) rfl (fun w' hw' => r_idx (b := ib3) (off := io3) (m := m) (c := e) (o' := io3 + k * 2) Try.underlying28 Try.sizeOf37 (by rw [← ha3]; rfl) rfl (by omega) (by omega) (by omega))) ?_
      refine Wt_take (i := 7) (listed' := #[true, true, true, true, true, true, true, true, false]) (by kernel_rfl) rfl (by kernel_rfl) (by kernel_rfl) (by kernel_rfl) (by kernel_rfl) (YI_v (v := .agg #[.int .i64 ((y.getD k (0, 0)).1), .int .u32 ((y.getD k (0, 0)).2)]) rfl (fun w' hw' => r_loada (cs := [.int .i64 ((y.getD k (0, 0)).1), .int .u32 ((y.getD k (0, 0)).2)]) Try.isAgg37 Try.sizeOf37 rfl rfl (hw'.cellsk rfl hc3))) ?_
      refine Wt_take (i := 8) (listed' := #[true, true, true, true, true, true, true, true, true]) (by kernel_rfl) rfl (by kernel_rfl) (by kernel_rfl) (by kernel_rfl) (by kernel_rfl) (YI_v (v := .bool (!decide (((x.getD k (0, 0)).1) = ((y.getD k (0, 0)).1) ∧ ((x.getD k (0, 0)).2) = ((y.getD k (0, 0)).2)))) rfl (fun w' hw' => r_neag (pp := ((x.getD k (0, 0)).1) = ((y.getD k (0, 0)).1) ∧ ((x.getD k (0, 0)).2) = ((y.getD k (0, 0)).2)) Try.underlying37 (by kernel_rfl) (by kernel_rfl) rfl rfl (fun w => eqf_int (by decide) Try.underlying3 Try.isAgg3 rfl rfl (fun w => eqf_int (by decide) Try.underlying35 Try.isAgg35 rfl rfl (fun w => eqf_nil))) (by simp [Bool.decide_and]))) ?_
      intro w4 hU4
      have hzw4 := hU4.size
      replace hx := hx.upd0 hU4
      replace hy := hy.upd0 hU4
      replace HU := HU.trans0 hU4
      replace HL1 := HL1.trans0 hU4
      refine Wa_done (by kernel_rfl) ?_
      by_cases q3 : ((x.getD k (0, 0)).1) = ((y.getD k (0, 0)).1) ∧ ((x.getD k (0, 0)).2) = ((y.getD k (0, 0)).2)
      · rw [decide_eq_true q3]
        simp only [Bool.not_true, Bool.not_false]
        refine W_cond_f rfl ?_
        refine W_skip ?_
        refine W_region ?_
        refine Wl_v (r_add rfl rfl (wi64 (by omega) (by omega))) ?_
        refine Wl_v (r_mv (v := .int .i64 (((k : Nat) : Int) + 1)) rfl) ?_
        refine Wl_nil ?_
        refine ⟨_, ?_, (k + 1), rfl, rfl, ⟨rfl, rfl, rfl, (by first | rfl | exact vint (by omega) | exact vint (by simp)), trivial⟩, (by omega), (leq_step (0, 0) htk (by omega) (by omega) (Prod.ext (q3).1 (q3).2)), HL1⟩
        omega
      · rw [decide_eq_false q3]
        simp only [Bool.not_true, Bool.not_false]
        refine W_cond_t rfl ?_
        refine W_seq ?_
        refine W_region ?_
        refine Wl_v (r_as (v := .bool false) rfl) ?_
        refine Wl_nil ?_
        refine W_ret ?_
        refine ret_end (v := .bool false) rfl (res1 Try.results46 rfl) ?_
        exact ⟨_, rfl, (vboolf (leq_ne (0, 0) (fun h9 => q3 ⟨congrArg Prod.fst h9, congrArg Prod.snd h9⟩))), HU⟩
    · rw [decide_eq_false q2]
      refine W_cond_f rfl ?_
      refine W_exit ?_
      refine W_seq ?_
      refine W_region ?_
      refine Wl_v (r_as (v := .bool true) rfl) ?_
      refine Wl_nil ?_
      refine W_ret ?_
      refine ret_end (v := .bool true) rfl (res1 Try.results46 rfl) ?_
      exact ⟨_, rfl, (vboolt (leq_end htk (by omega) (by omega))), HU⟩

theorem lcodes_spec {a b : Option Addr} {n c m e : Nat} {x y : List (Int × Int)} {R T : Nat → Prop} (w : World) (hx : Sl w R 2 (.slice a n c) n (rows encC x)) (hy : Sl w T 2 (.slice b m e) m (rows encC y)) (hn : n ≤ 17592186044415) :
    Calls Try.prog 18 #[.slice a n c, .slice b m e] w (Ret fun v w' => v = .bool (decide (x = y)) ∧ Upd No w w') := by
  have HU : Upd (fun b => False) w w := Upd.refl _ _
  have hl_hx := rlen encC_len (by decide) hx
  have hc_hx := hx.cap.1
  replace hx := hx.tight
  have hl_hy := rlen encC_len (by decide) hy
  have hc_hy := hy.cap.1
  replace hy := hy.tight
  refine calls_of_W Try.func18 rfl Try.ntmps18 (by simp) ?_
  refine W_seq ?_
  refine W_region ?_
  refine Wl_v (r_as (v := .bool false) rfl) ?_
  refine Wl_nil ?_
  refine W_seq ?_
  refine W_seq ?_
  refine W_region ?_
  refine Wl_v (r_mv (v := .slice a n c) rfl) ?_
  refine Wl_v (r_len Try.underlying28 rfl) ?_
  refine Wl_v (r_mv (v := .slice b m e) rfl) ?_
  refine Wl_v (r_len Try.underlying28 rfl) ?_
  refine Wl_v (r_ne rfl rfl) ?_
  refine Wl_nil ?_
  by_cases q1 : ((n : Nat) : Int) ≠ ((m : Nat) : Int)
  · rw [decide_eq_true q1]
    refine W_cond_t rfl ?_
    refine W_seq ?_
    refine W_region ?_
    refine Wl_v (r_as (v := .bool false) rfl) ?_
    refine Wl_nil ?_
    refine W_ret ?_
    refine ret_end (v := .bool false) rfl (res1 Try.results18 rfl) ?_
    exact ⟨_, rfl, (vboolf (leq_len (by omega))), HU⟩
  · rw [decide_eq_false q1]
    refine W_cond_f rfl ?_
    refine W_skip ?_
    refine W_seq ?_
    refine W_seq ?_
    refine W_region ?_
    refine Wl_v (r_as (v := .int .i64 0) rfl) ?_
    refine Wl_nil ?_
    refine W_block ?_
    refine W_loop (fun mu ρ ds w' => ∃ (k : Nat), n - k = mu ∧ ds = [] ∧ Liv ρ [(0, .slice a n c), (1, .slice b m e), (5, .int .i64 ((k : Nat) : Int))] ∧ k ≤ n ∧ x.take k = y.take k ∧ Upd No w w') _ ⟨0, rfl, rfl, ⟨rfl, rfl, (by first | rfl | exact vint (by omega) | exact vint (by simp)), trivial⟩, (by omega), (by simp), Upd.refl _ _⟩ ?_
    rintro m1 ρ1 ds1 w1 ⟨k, rfl, rfl, hl1, hk, htk, hU1⟩
    obtain ⟨ρ1x, rfl⟩ : ∃ ρx, ρ1 = upds ρx [(0, .slice a n c), (1, .slice b m e), (5, .int .i64 ((k : Nat) : Int))] := ⟨_, upds_self hl1⟩
    clear hl1
    have hzw1 := hU1.size
    replace hx := hx.upd0 hU1
    replace hy := hy.upd0 hU1
    replace HU := HU.trans0 hU1
    have HL1 := hU1
    refine W_seq ?_
    refine W_seq ?_
    refine W_region ?_
    refine Wl_v (r_mv (v := .int .i64 ((k : Nat) : Int)) rfl) ?_
    refine Wl_v (r_mv (v := .slice a n c) rfl) ?_
    refine Wl_v (r_len Try.underlying28 rfl) ?_
    refine Wl_v (r_lt rfl rfl) ?_
    refine Wl_nil ?_
    by_cases q2 : ((k : Nat) : Int) < ((n : Nat) : Int)
    · rw [decide_eq_true q2]
      refine W_cond_t rfl ?_
      refine W_skip ?_
      refine W_seq ?_
      refine W_block ?_
      refine W_seq ?_
      refine W_drawt rfl (l0 := #[false, false, false, false, false, false, false, false, false]) (by kernel_rfl) ?_
      refine Wt_take (i := 0) (listed' := #[true, false, false, false, false, false, false, false, false]) (by kernel_rfl) rfl (by kernel_rfl) (by kernel_rfl) (by kernel_rfl) (by kernel_rfl) (YI_v (v := .slice a n c) rfl (fun w' hw' => r_mv (v := .slice a n c) rfl)) ?_
      refine Wt_take (i := 1) (listed' := #[true, true, false, false, false, false, false, false, false]) (by kernel_rfl) rfl (by kernel_rfl) (by kernel_rfl) (by kernel_rfl) (by kernel_rfl) (YI_v (v := .int .i64 ((k : Nat) : Int)) rfl (fun w' hw' => r_mv (v := .int .i64 ((k : Nat) : Int)) rfl)) ?_
      obtain ⟨ib2, io2, ha2, hib2, hc2⟩ := Sl.rat (0, 0) encC_len (by decide) (hx) (i := k) (by omega)
      refine Wt_take (i := 2) (listed' := #[true, true, true, false, false, false, false, false, false]) (by kernel_rfl) rfl (by kernel_rfl) (by kernel_rfl) (by kernel_rfl) (by kernel_rfl) (YI_v (v := .pointer (some ⟨ib2, io2 + k * 2, none⟩)) rfl (fun w' hw' => r_idx (b := ib2) (off := io2) (m := n) (c := c) (o' := io2 + k * 2) Try.underlying28 Try.sizeOf37 (by rw [← ha2]; rfl) rfl (by omega) (by omega) (by omega))) ?_
      refine Wt_take (i := 3) (listed' := #[true, true, true, true, false, false, false, false, false]) (by kernel_rfl) rfl (by kernel_rfl) (by kernel_rfl) (by kernel_rfl) (by kernel_rfl) (YI_v (v := .agg #[.int .i64 ((x.getD k (0, 0)).1), .int .u32 ((x.getD k (0, 0)).2)]) rfl (fun w' hw' => r_loada (cs := [.int .i64 ((x.getD k (0, 0)).1), .int .u32 ((x.getD k (0, 0)).2)]) Try.isAgg37 Try.sizeOf37 rfl rfl (hw'.cellsk rfl hc2))) ?_
      refine Wt_take (i := 4) (listed' := #[true, true, true, true, true, false, false, false, false]) (by kernel_rfl) rfl (by kernel_rfl) (by kernel_rfl) (by kernel_rfl) (by kernel_rfl) (YI_v (v := .slice b m e) rfl (fun w' hw' => r_mv (v := .slice b m e) rfl)) ?_
      refine Wt_take (i := 5) (listed' := #[true, true, true, true, true, true, false, false, false]) (by kernel_rfl) rfl (by kernel_rfl) (by kernel_rfl) (by kernel_rfl) (by kernel_rfl) (YI_v (v := .int .i64 ((k : Nat) : Int)) rfl (fun w' hw' => r_mv (v := .int .i64 ((k : Nat) : Int)) rfl)) ?_
      obtain ⟨ib3, io3, ha3, hib3, hc3⟩ := Sl.rat (0, 0) encC_len (by decide) (hy) (i := k) (by omega)
      refine Wt_take (i := 6) (listed' := #[true, true, true, true, true, true, true, false, false]) (by kernel_rfl) rfl (by kernel_rfl) (by kernel_rfl) (by kernel_rfl) (by kernel_rfl) (YI_v (v := .pointer (some ⟨ib3, io3 + k * 2, none⟩)) rfl (fun w' hw' => r_idx (b := ib3) (off := io3) (m := m) (c := e) (o' := io3 + k * 2) Try.underlying28 Try.sizeOf37 (by rw [← ha3]; rfl) rfl (by omega) (by omega) (by omega))) ?_
      refine Wt_take (i := 7) (listed' := #[true, true, true, true, true, true, true, true, false]) (by kernel_rfl) rfl (by kernel_rfl) (by kernel_rfl) (by kernel_rfl) (by kernel_rfl) (YI_v (v := .agg #[.int .i64 ((y.getD k (0, 0)).1), .int .u32 ((y.getD k (0, 0)).2)]) rfl (fun w' hw' => r_loada (cs := [.int .i64 ((y.getD k (0, 0)).1), .int .u32 ((y.getD k (0, 0)).2)]) Try.isAgg37 Try.sizeOf37 rfl rfl (hw'.cellsk rfl hc3))) ?_
      refine Wt_take (i := 8) (listed' := #[true, true, true, true, true, true, true, true, true]) (by kernel_rfl) rfl (by kernel_rfl) (by kernel_rfl) (by kernel_rfl) (by kernel_rfl) (YI_v (v := .bool (!decide (((x.getD k (0, 0)).1) = ((y.getD k (0, 0)).1) ∧ ((x.getD k (0, 0)).2) = ((y.getD k (0, 0)).2)))) rfl (fun w' hw' => r_neag (pp := ((x.getD k (0, 0)).1) = ((y.getD k (0, 0)).1) ∧ ((x.getD k (0, 0)).2) = ((y.getD k (0, 0)).2)) Try.underlying37 (by kernel_rfl) (by kernel_rfl) rfl rfl (fun w => eqf_int (by decide) Try.underlying3 Try.isAgg3 rfl rfl (fun w => eqf_int (by decide) Try.underlying35 Try.isAgg35 rfl rfl (fun w => eqf_nil))) (by simp [Bool.decide_and]))) ?_
      intro w4 hU4
      have hzw4 := hU4.size
      replace hx := hx.upd0 hU4
      replace hy := hy.upd0 hU4
      replace HU := HU.trans0 hU4
      replace HL1 := HL1.trans0 hU4
      refine Wa_done (by kernel_rfl) ?_
      by_cases q3 : ((x.getD k (0, 0)).1) = ((y.getD k (0, 0)).1) ∧ ((x.getD k (0, 0)).2) = ((y.getD k (0, 0)).2)
      · rw [decide_eq_true q3]
        simp only [Bool.not_true, Bool.not_false]
        refine W_cond_f rfl ?_
        refine W_skip ?_
        refine W_region ?_
        refine Wl_v (r_mv (v := .int .i64 ((k : Nat) : Int)) rfl) ?_
        refine Wl_v (r_add rfl rfl (wi64 (by omega) (by omega))) ?_
        refine Wl_v (r_as (v := .int .i64 (((k : Nat) : Int) + 1)) rfl) ?_
        refine Wl_nil ?_
        refine ⟨_, ?_, (k + 1), rfl, rfl, ⟨rfl, rfl, (by first | rfl | exact vint (by omega) | exact vint (by simp)), trivial⟩, (by omega), (leq_step (0, 0) htk (by omega) (by omega) (Prod.ext (q3).1 (q3).2)), HL1⟩
        omega
      · rw [decide_eq_false q3]
        simp only [Bool.not_true, Bool.not_false]
        refine W_cond_t rfl ?_
        refine W_seq ?_
        refine W_region ?_
        refine Wl_v (r_as (v := .bool false) rfl) ?_
        refine Wl_nil ?_
        refine W_ret ?_
        refine ret_end (v := .bool false) rfl (res1 Try.results18 rfl) ?_
        exact ⟨_, rfl, (vboolf (leq_ne (0, 0) (fun h9 => q3 ⟨congrArg Prod.fst h9, congrArg Prod.snd h9⟩))), HU⟩
    · rw [decide_eq_false q2]
      refine W_cond_f rfl ?_
      refine W_exit ?_
      refine W_seq ?_
      refine W_region ?_
      refine Wl_v (r_as (v := .bool true) rfl) ?_
      refine Wl_nil ?_
      refine W_ret ?_
      refine ret_end (v := .bool true) rfl (res1 Try.results18 rfl) ?_
      exact ⟨_, rfl, (vboolt (leq_end htk (by omega) (by omega))), HU⟩

theorem lints_spec {a b : Option Addr} {n c m e : Nat} {x y : List Int} {R T : Nat → Prop} (w : World) (hx : Sl w R 1 (.slice a n c) n (ints .i64 x)) (hy : Sl w T 1 (.slice b m e) m (ints .i64 y)) (hn : n ≤ 17592186044415) :
    Calls Try.prog 19 #[.slice a n c, .slice b m e] w (Ret fun v w' => v = .bool (decide (x = y)) ∧ Upd No w w') := by
  have HU : Upd (fun b => False) w w := Upd.refl _ _
  have hl_hx := ilen hx
  have hc_hx := hx.cap.1
  replace hx := hx.tight
  have hl_hy := ilen hy
  have hc_hy := hy.cap.1
  replace hy := hy.tight
  refine calls_of_W Try.func19 rfl Try.ntmps19 (by simp) ?_
  refine W_seq ?_
  refine W_region ?_
  refine Wl_v (r_as (v := .bool false) rfl) ?_
  refine Wl_nil ?_
  refine W_seq ?_
  refine W_seq ?_
  refine W_region ?_
  refine Wl_v (r_mv (v := .slice a n c) rfl) ?_
  refine Wl_v (r_len Try.underlying22 rfl) ?_
  refine Wl_v (r_mv (v := .slice b m e) rfl) ?_
  refine Wl_v (r_len Try.underlying22 rfl) ?_
  refine Wl_v (r_ne rfl rfl) ?_
  refine Wl_nil ?_
  by_cases q1 : ((n : Nat) : Int) ≠ ((m : Nat) : Int)
  · rw [decide_eq_true q1]
    refine W_cond_t rfl ?_
    refine W_seq ?_
    refine W_region ?_
    refine Wl_v (r_as (v := .bool false) rfl) ?_
    refine Wl_nil ?_
    refine W_ret ?_
    refine ret_end (v := .bool false) rfl (res1 Try.results19 rfl) ?_
    exact ⟨_, rfl, (vboolf (leq_len (by omega))), HU⟩
  · rw [decide_eq_false q1]
    refine W_cond_f rfl ?_
    refine W_skip ?_
    refine W_seq ?_
    refine W_seq ?_
    refine W_region ?_
    refine Wl_v (r_as (v := .int .i64 0) rfl) ?_
    refine Wl_nil ?_
    refine W_block ?_
    refine W_loop (fun mu ρ ds w' => ∃ (k : Nat), n - k = mu ∧ ds = [] ∧ Liv ρ [(0, .slice a n c), (1, .slice b m e), (5, .int .i64 ((k : Nat) : Int))] ∧ k ≤ n ∧ x.take k = y.take k ∧ Upd No w w') _ ⟨0, rfl, rfl, ⟨rfl, rfl, (by first | rfl | exact vint (by omega) | exact vint (by simp)), trivial⟩, (by omega), (by simp), Upd.refl _ _⟩ ?_
    rintro m1 ρ1 ds1 w1 ⟨k, rfl, rfl, hl1, hk, htk, hU1⟩
    obtain ⟨ρ1x, rfl⟩ : ∃ ρx, ρ1 = upds ρx [(0, .slice a n c), (1, .slice b m e), (5, .int .i64 ((k : Nat) : Int))] := ⟨_, upds_self hl1⟩
    clear hl1
    have hzw1 := hU1.size
    replace hx := hx.upd0 hU1
    replace hy := hy.upd0 hU1
    replace HU := HU.trans0 hU1
    have HL1 := hU1
    refine W_seq ?_
    refine W_seq ?_
    refine W_region ?_
    refine Wl_v (r_mv (v := .int .i64 ((k : Nat) : Int)) rfl) ?_
    refine Wl_v (r_mv (v := .slice a n c) rfl) ?_
    refine Wl_v (r_len Try.underlying22 rfl) ?_
    refine Wl_v (r_lt rfl rfl) ?_
    refine Wl_nil ?_
    by_cases q2 : ((k : Nat) : Int) < ((n : Nat) : Int)
    · rw [decide_eq_true q2]
      refine W_cond_t rfl ?_
      refine W_skip ?_
      refine W_seq ?_
      refine W_block ?_
      refine W_seq ?_
      refine W_drawt rfl (l0 := #[false, false, false, false, false, false, false, false, false]) (by kernel_rfl) ?_
      refine Wt_take (i := 0) (listed' := #[true, false, false, false, false, false, false, false, false]) (by kernel_rfl) rfl (by kernel_rfl) (by kernel_rfl) (by kernel_rfl) (by kernel_rfl) (YI_v (v := .slice a n c) rfl (fun w' hw' => r_mv (v := .slice a n c) rfl)) ?_
      refine Wt_take (i := 1) (listed' := #[true, true, false, false, false, false, false, false, false]) (by kernel_rfl) rfl (by kernel_rfl) (by kernel_rfl) (by kernel_rfl) (by kernel_rfl) (YI_v (v := .int .i64 ((k : Nat) : Int)) rfl (fun w' hw' => r_mv (v := .int .i64 ((k : Nat) : Int)) rfl)) ?_
      obtain ⟨ib2, io2, ha2, hib2, hc2⟩ := (hx).iat (i := k) (by omega)
      replace hib2 : ((R ib2) ∧ ib2 < w.heap.size) := hib2
      refine Wt_take (i := 2) (listed' := #[true, true, true, false, false, false, false, false, false]) (by kernel_rfl) rfl (by kernel_rfl) (by kernel_rfl) (by kernel_rfl) (by kernel_rfl) (YI_v (v := .pointer (some ⟨ib2, io2 + k, none⟩)) rfl (fun w' hw' => r_idx (b := ib2) (off := io2) (m := n) (c := c) (o' := io2 + k) Try.underlying22 Try.sizeOf3 (by rw [← ha2]; rfl) rfl (by omega) (by omega) (by omega))) ?_
      refine Wt_take (i := 3) (listed' := #[true, true, true, true, false, false, false, false, false]) (by kernel_rfl) rfl (by kernel_rfl) (by kernel_rfl) (by kernel_rfl) (by kernel_rfl) (YI_v (v := .int .i64 (x.getD k 0)) rfl (fun w' hw' => r_load Try.isAgg3 rfl (hw'.cellk hc2))) ?_
      refine Wt_take (i := 4) (listed' := #[true, true, true, true, true, false, false, false, false]) (by kernel_rfl) rfl (by kernel_rfl) (by kernel_rfl) (by kernel_rfl) (by kernel_rfl) (YI_v (v := .slice b m e) rfl (fun w' hw' => r_mv (v := .slice b m e) rfl)) ?_
      refine Wt_take (i := 5) (listed' := #[true, true, true, true, true, true, false, false, false]) (by kernel_rfl) rfl (by kernel_rfl) (by kernel_rfl) (by kernel_rfl) (by kernel_rfl) (YI_v (v := .int .i64 ((k : Nat) : Int)) rfl (fun w' hw' => r_mv (v := .int .i64 ((k : Nat) : Int)) rfl)) ?_
      obtain ⟨ib3, io3, ha3, hib3, hc3⟩ := (hy).iat (i := k) (by omega)
      replace hib3 : ((T ib3) ∧ ib3 < w.heap.size) := hib3
      refine Wt_take (i := 6) (listed' := #[true, true, true, true, true, true, true, false, false]) (by kernel_rfl) rfl (by kernel_rfl) (by kernel_rfl) (by kernel_rfl) (by kernel_rfl) (YI_v (v := .pointer (some ⟨ib3, io3 + k, none⟩)) rfl (fun w' hw' => r_idx (b := ib3) (off := io3) (m := m) (c := e) (o' := io3 + k) Try.underlying22 Try.sizeOf3 (by rw [← ha3]; rfl) rfl (by omega) (by omega) (by omega))) ?_
      refine Wt_take (i := 7) (listed' := #[true, true, true, true, true, true, true, true, false]) (by kernel_rfl) rfl (by kernel_rfl) (by kernel_rfl) (by kernel_rfl) (by kernel_rfl) (YI_v (v := .int .i64 (y.getD k 0)) rfl (fun w' hw' => r_load Try.isAgg3 rfl (hw'.cellk hc3))) ?_
      refine Wt_take (i := 8) (listed' := #[true, true, true, true, true, true, true, true, true]) (by kernel_rfl) rfl (by kernel_rfl) (by kernel_rfl) (by kernel_rfl) (by kernel_rfl) (YI_v (v := .bool (decide ((x.getD k 0) ≠ (y.getD k 0)))) rfl (fun w' hw' => r_ne rfl rfl)) ?_
      intro w4 hU4
      have hzw4 := hU4.size
      replace hx := hx.upd0 hU4
      replace hy := hy.upd0 hU4
      replace HU := HU.trans0 hU4
      replace HL1 := HL1.trans0 hU4
      replace hc2 := cell_upd0 hU4 hc2
      replace hc3 := cell_upd0 hU4 hc3
      refine Wa_done (by kernel_rfl) ?_
      by_cases q3 : (x.getD k 0) ≠ (y.getD k 0)
      · rw [decide_eq_true q3]
        refine W_cond_t rfl ?_
        refine W_seq ?_
        refine W_region ?_
        refine Wl_v (r_as (v := .bool false) rfl) ?_
        refine Wl_nil ?_
        refine W_ret ?_
        refine ret_end (v := .bool false) rfl (res1 Try.results19 rfl) ?_
        exact ⟨_, rfl, (vboolf (leq_ne 0 q3)), HU⟩
      · rw [decide_eq_false q3]
        refine W_cond_f rfl ?_
        refine W_skip ?_
        refine W_region ?_
        refine Wl_v (r_mv (v := .int .i64 ((k : Nat) : Int)) rfl) ?_
        refine Wl_v (r_add rfl rfl (wi64 (by omega) (by omega))) ?_
        refine Wl_v (r_as (v := .int .i64 (((k : Nat) : Int) + 1)) rfl) ?_
        refine Wl_nil ?_
        refine ⟨_, ?_, (k + 1), rfl, rfl, ⟨rfl, rfl, (by first | rfl | exact vint (by omega) | exact vint (by simp)), trivial⟩, (by omega), (leq_step 0 htk (by omega) (by omega) (Classical.not_not.1 q3)), HL1⟩
        omega
    · rw [decide_eq_false q2]
      refine W_cond_f rfl ?_
      refine W_exit ?_
      refine W_seq ?_
      refine W_region ?_
      refine Wl_v (r_as (v := .bool true) rfl) ?_
      refine Wl_nil ?_
      refine W_ret ?_
      refine ret_end (v := .bool true) rfl (res1 Try.results19 rfl) ?_
      exact ⟨_, rfl, (vboolt (leq_end htk (by omega) (by omega))), HU⟩

theorem num_spec {x : Int} (w : World)  :
    Calls Try.prog 14 #[.int .i64 x] w (Ret fun v w' => v = .int .i64 x ∧ Upd No w w') := by
  have HU : Upd (fun b => False) w w := Upd.refl _ _
  refine calls_of_W Try.func14 rfl Try.ntmps14 (by simp) ?_
  refine W_seq ?_
  refine W_region ?_
  refine Wl_v (r_as (v := .int .i64 0) rfl) ?_
  refine Wl_nil ?_
  refine W_seq ?_
  refine W_region ?_
  refine Wl_v (r_mv (v := .int .i64 x) rfl) ?_
  refine Wl_v (r_as (v := .int .i64 x) rfl) ?_
  refine Wl_nil ?_
  refine W_ret ?_
  refine ret_end (v := .int .i64 x) rfl (res1 Try.results14 rfl) ?_
  exact ⟨_, rfl, rfl, HU⟩

end Go.Proofs.Ytakbopikohghmaa
