/-
  Walks, printed by a small program of this project (gen.py).
-/
import Derived.Test.YtakbopikohghmaaXh
set_option linter.unusedVariables false
set_option linter.unusedSimpArgs false
namespace Go.Proofs.Ytakbopikohghmaa
open Go.Fw

theorem longest_spec {a : Option Addr} {n c : Nat} {l : List Int} {R : Nat → Prop} (w : World) (hs : Sl w R 1 (.slice a n c) n (ints .i64 l)) (hn : n ≤ 17592186044415) :
    Calls Try.prog 27 #[.slice a n c] w (Ret fun v w' => v = .tuple #[.int .i64 (if Rt l then mx l else 0), .int .i64 (if Rt l then (0 : Int) else 12)] ∧ Upd No w w') := by
  have HU : Upd (fun b => False) w w := Upd.refl _ _
  have hl_hs := ilen hs
  have hc_hs := hs.cap.1
  replace hs := hs.tight
  refine calls_of_W Try.func27 rfl Try.ntmps27 (by simp) ?_
  refine W_seq ?_
  refine W_region ?_
  refine Wl_v (r_as (v := .int .i64 0) rfl) ?_
  refine Wl_v (r_as (v := .int .i64 0) rfl) ?_
  refine Wl_nil ?_
  refine W_seq ?_
  refine W_seq ?_
  refine W_region ?_
  refine Wl_v (r_mv (v := .slice a n c) rfl) ?_
  refine Wl_call (r_call1 rfl Try.call13 rfl) (rright_spec _ hs (by omega)) ?_
  rintro v w1 ⟨rfl, hU1⟩
  have hzw1 := hU1.size
  replace hs := hs.upd0 hU1
  replace HU := HU.trans0 hU1
  refine Wl_v (r_not rfl) ?_
  refine Wl_nil ?_
  by_cases q1 : Rt l
  · have hB := (q1).1
    rw [decide_eq_true q1]
    simp only [Bool.not_true, Bool.not_false]
    refine W_cond_f rfl ?_
    refine W_skip ?_
    refine W_seq ?_
    refine W_region ?_
    refine Wl_v (r_as (v := .int .i64 0) rfl) ?_
    refine Wl_nil ?_
    refine W_seq ?_
    refine W_seq ?_
    refine W_region ?_
    refine Wl_v (r_as (v := .int .i64 0) rfl) ?_
    refine Wl_nil ?_
    refine W_block ?_
    refine W_loop (fun mu ρ ds w' => ∃ (k : Nat), n - k = mu ∧ ds = [] ∧ Liv ρ [(0, .slice a n c), (4, .int .i64 (mx (l.take k))), (5, .int .i64 ((k : Nat) : Int))] ∧ k ≤ n ∧ Upd No w1 w') _ ⟨0, rfl, rfl, ⟨rfl, (Eq.trans (b := .int .i64 0) rfl (vint (by simp [mx]))), (by first | rfl | exact vint (by omega) | exact vint (by simp)), trivial⟩, (by omega), Upd.refl _ _⟩ ?_
    rintro m2 ρ2 ds2 w2 ⟨k, rfl, rfl, hl2, hk, hU2⟩
    obtain ⟨ρ2x, rfl⟩ : ∃ ρx, ρ2 = upds ρx [(0, .slice a n c), (4, .int .i64 (mx (l.take k))), (5, .int .i64 ((k : Nat) : Int))] := ⟨_, upds_self hl2⟩
    clear hl2
    have hzw2 := hU2.size
    replace hs := hs.upd0 hU2
    replace HU := HU.trans0 hU2
    have HL2 := hU2
    refine W_seq ?_
    refine W_seq ?_
    refine W_region ?_
    refine Wl_v (r_mv (v := .int .i64 ((k : Nat) : Int)) rfl) ?_
    refine Wl_v (r_mv (v := .slice a n c) rfl) ?_
    refine Wl_v (r_len Try.underlying22 rfl) ?_
    refine Wl_v (r_lt rfl rfl) ?_
    refine Wl_nil ?_
    by_cases q2 : ((k : Nat) : Int) < ((n : Nat) : Int)
    · rw [decide_eq_true q2]
      refine W_cond_t rfl ?_
      refine W_skip ?_
      refine W_seq ?_
      refine W_block ?_
      refine W_region ?_
      refine Wl_v (r_mv (v := .int .i64 (mx (l.take k))) rfl) ?_
      refine Wl_v (r_mv (v := .slice a n c) rfl) ?_
      refine Wl_v (r_mv (v := .int .i64 ((k : Nat) : Int)) rfl) ?_
      refine Wl_idxi Try.underlying22 Try.sizeOf3 rfl rfl hs (by omega) (by omega) ?_
      intro ib3 io3 hc3
      rw [Int.toNat_natCast] at hc3
      refine Wl_loadc Try.isAgg3 rfl hc3 ?_
      refine Wl_v (r_max rfl rfl) ?_
      refine Wl_v (r_as (v := .int .i64 (max (mx (l.take k)) (l.getD k 0))) rfl) ?_
      refine Wl_nil ?_
      refine W_region ?_
      refine Wl_v (r_mv (v := .int .i64 ((k : Nat) : Int)) rfl) ?_
      refine Wl_v (r_add rfl rfl (wi64 (by omega) (by omega))) ?_
      refine Wl_v (r_as (v := .int .i64 (((k : Nat) : Int) + 1)) rfl) ?_
      refine Wl_nil ?_
      refine ⟨_, ?_, (k + 1), rfl, rfl, ⟨rfl, (Eq.trans (b := .int .i64 (max (mx (l.take k)) (l.getD k 0))) rfl (vint (mx_take hB (by omega)).symm)), (Eq.trans (b := .int .i64 (((k : Nat) : Int) + 1)) rfl (vint (by omega))), trivial⟩, (by omega), HL2⟩
      omega
    · rw [decide_eq_false q2]
      refine W_cond_f rfl ?_
      refine W_exit ?_
      refine W_seq ?_
      refine W_region ?_
      refine Wl_v (r_mv (v := .int .i64 (mx (l.take k))) rfl) ?_
      refine Wl_v (r_as (v := .int .i64 (mx (l.take k))) rfl) ?_
      refine Wl_v (r_as (v := .int .i64 0) rfl) ?_
      refine Wl_nil ?_
      refine W_ret ?_
      refine ret_end (v := .tuple #[.int .i64 (mx (l.take k)), .int .i64 0]) rfl (res2 Try.results27 rfl rfl) ?_
      rw [if_pos q1, if_pos q1]
      exact ⟨_, rfl, (vtup2 (vint (by rw [show l.take k = l from List.take_of_length_le (by omega)])) rfl), HU⟩
  · rw [decide_eq_false q1]
    simp only [Bool.not_true, Bool.not_false]
    refine W_cond_t rfl ?_
    refine W_seq ?_
    refine W_region ?_
    refine Wl_v (r_as (v := .int .i64 0) rfl) ?_
    refine Wl_v (r_as (v := .int .i64 12) rfl) ?_
    refine Wl_nil ?_
    refine W_ret ?_
    refine ret_end (v := .tuple #[.int .i64 0, .int .i64 12]) rfl (res2 Try.results27 rfl rfl) ?_
    rw [if_neg q1, if_neg q1]
    exact ⟨_, rfl, rfl, HU⟩

theorem qsym_t {l : List Int} {c : Int × Int} {k : Nat} (hb : Bd l) (hk : k < l.length) (h : 0 < l.getD k 0) (e : ((cds l).getD k (0, 0)).1 = c.1 ∧ ((cds l).getD k (0, 0)).2 = c.2) : qsym c ((cds l).getD k (0, 0)) = true := by
  unfold qsym
  rw [decide_eq_true_iff]
  refine ⟨Prod.ext e.1 e.2, ?_⟩
  rw [← e.1, cds_get hk, cd_fst hb]; exact h
theorem qsym_f1 {l : List Int} {c : Int × Int} {k : Nat} (hk : k < l.length) (h : ¬ 0 < l.getD k 0) : qsym c ((cds l).getD k (0, 0)) = false := by
  rw [cds_get hk, cd_zero h]
  unfold qsym
  rw [decide_eq_false_iff_not]
  rintro ⟨e, h2⟩
  rw [← e] at h2
  exact absurd h2 (by decide)
theorem qsym_f2 {l : List Int} {c : Int × Int} {k : Nat} (e : ¬ (((cds l).getD k (0, 0)).1 = c.1 ∧ ((cds l).getD k (0, 0)).2 = c.2)) : qsym c ((cds l).getD k (0, 0)) = false := by
  unfold qsym
  rw [decide_eq_false_iff_not]
  rintro ⟨e2, _⟩
  exact e ⟨by rw [e2], by rw [e2]⟩

theorem rsymbol_spec {a : Option Addr} {n kc : Nat} {l : List Int} {c : Int × Int} {R : Nat → Prop} (w : World) (hs : Sl w R 1 (.slice a n kc) n (ints .i64 l)) (hn : n ≤ 17592186044415) :
    Calls Try.prog 21 #[.slice a n kc, .agg #[.int .i64 c.1, .int .u32 c.2]] w (Ret fun v w' => v = .tuple #[.int .i64 (if 0 ≤ sy l c then sy l c else 0), .bool (decide (0 ≤ sy l c))] ∧ Upd No w w') := by
  have HU : Upd (fun b => False) w w := Upd.refl _ _
  have hl_hs := ilen hs
  have hc_hs := hs.cap.1
  replace hs := hs.tight
  refine calls_of_W Try.func21 rfl Try.ntmps21 (by simp) ?_
  refine W_seq ?_
  refine W_region ?_
  refine Wl_box (v := .agg #[.int .i64 c.1, .int .u32 c.2]) (cs := [.int .i64 c.1, .int .u32 c.2]) rfl rfl ?_
  intro B1 w1 hB1 hU1 hzz1 hb1
  have hzw1 := hU1.size
  replace hs := hs.upd0 hU1
  replace HU := HU.trans0 hU1
  refine Wl_v (r_as (v := .int .i64 0) rfl) ?_
  refine Wl_v (r_as (v := .bool false) rfl) ?_
  refine Wl_nil ?_
  refine W_seq ?_
  refine W_region ?_
  refine Wl_v (r_mv (v := .slice a n kc) rfl) ?_
  by_cases q1 : Rt l
  · refine Wl_call (r_call1 rfl Try.call17 rfl) (rcodes_ok _ hs (by omega) q1) ?_
    rintro v w2 ⟨a2, c2, rfl, hO2, hU2⟩
    have hzw2 := hU2.size
    replace hs := hs.upd0 hU2
    replace HU := HU.trans0 hU2
    replace hb1 := hb1.upd0 hU2
    replace hO2 := hO2.tight
    have hl_hO2 := rlen encC_len (by decide) hO2.sl
    have hc_hO2 := hO2.sl.cap.1
    have hr := q1
    have h256 := hr.2.1
    refine Wl_v (r_mv (v := .tuple #[.slice a2 n c2, .int .i64 0]) rfl) ?_
    refine Wl_v (r_ext (v := .slice a2 n c2) rfl rfl) ?_
    refine Wl_v (r_ext (v := .int .i64 0) rfl rfl) ?_
    refine Wl_v (r_as (v := .slice a2 n c2) rfl) ?_
    refine Wl_v (r_as (v := .int .i64 0) rfl) ?_
    refine Wl_nil ?_
    refine W_seq ?_
    refine W_seq ?_
    refine W_region ?_
    refine Wl_v (r_as (v := .int .i64 0) rfl) ?_
    refine Wl_nil ?_
    refine W_block ?_
    refine W_loop (fun mu ρ ds w' => ∃ (k : Nat), n - k = mu ∧ ds = [] ∧ Liv ρ [(0, .slice a n kc), (3, .pointer (some ⟨B1, 0, none⟩)), (6, .slice a2 n c2), (8, .int .i64 ((k : Nat) : Int))] ∧ k ≤ n ∧ (∀ i, i < k → qsym c ((cds l).getD i (0, 0)) = false) ∧ Upd No w2 w') _ ⟨0, rfl, rfl, ⟨rfl, rfl, rfl, (by first | rfl | exact vint (by omega) | exact vint (by simp)), trivial⟩, (by omega), (fun i hi => absurd hi (by omega)), Upd.refl _ _⟩ ?_
    rintro m3 ρ3 ds3 w3 ⟨k, rfl, rfl, hl3, hk, hall, hU3⟩
    obtain ⟨ρ3x, rfl⟩ : ∃ ρx, ρ3 = upds ρx [(0, .slice a n kc), (3, .pointer (some ⟨B1, 0, none⟩)), (6, .slice a2 n c2), (8, .int .i64 ((k : Nat) : Int))] := ⟨_, upds_self hl3⟩
    clear hl3
    have hzw3 := hU3.size
    replace hs := hs.upd0 hU3
    replace HU := HU.trans0 hU3
    replace hb1 := hb1.upd0 hU3
    replace hO2 := hO2.upd0 hU3
    have HL3 := hU3
    refine W_seq ?_
    refine W_seq ?_
    refine W_region ?_
    refine Wl_v (r_mv (v := .int .i64 ((k : Nat) : Int)) rfl) ?_
    refine Wl_v (r_mv (v := .slice a2 n c2) rfl) ?_
    refine Wl_v (r_len Try.underlying28 rfl) ?_
    refine Wl_v (r_lt rfl rfl) ?_
    refine Wl_nil ?_
    by_cases q2 : ((k : Nat) : Int) < ((n : Nat) : Int)
    · rw [decide_eq_true q2]
      refine W_cond_t rfl ?_
      refine W_skip ?_
      refine W_seq ?_
      refine W_block ?_
      refine W_seq ?_
      refine W_drawt rfl (l0 := #[false, false, false, false, false, false, false, false, false, false, false, false, false]) (by kernel_rfl) ?_
      refine Wt_take (i := 0) (listed' := #[true, false, false, false, false, false, false, false, false, false, false, false, false]) (by kernel_rfl) rfl (by kernel_rfl) (by kernel_rfl) (by kernel_rfl) (by kernel_rfl) (YI_v (v := .slice a n kc) rfl (fun w' hw' => r_mv (v := .slice a n kc) rfl)) ?_
      refine Wt_take (i := 1) (listed' := #[true, true, false, false, false, false, false, false, false, false, false, false, false]) (by kernel_rfl) rfl (by kernel_rfl) (by kernel_rfl) (by kernel_rfl) (by kernel_rfl) (YI_v (v := .int .i64 ((k : Nat) : Int)) rfl (fun w' hw' => r_mv (v := .int .i64 ((k : Nat) : Int)) rfl)) ?_
      obtain ⟨ib4, io4, ha4, hib4, hc4⟩ := (hs).iat (i := k) (by omega)
      replace hib4 : ((R ib4) ∧ ib4 < w.heap.size) := hib4
      refine Wt_take (i := 2) (listed' := #[true, true, true, false, false, false, false, false, false, false, false, false, false]) (by kernel_rfl) rfl (by kernel_rfl) (by kernel_rfl) (by kernel_rfl) (by kernel_rfl) (YI_v (v := .pointer (some ⟨ib4, io4 + k, none⟩)) rfl (fun w' hw' => r_idx (b := ib4) (off := io4) (m := n) (c := kc) (o' := io4 + k) Try.underlying22 Try.sizeOf3 (by rw [← ha4]; rfl) rfl (by omega) (by omega) (by omega))) ?_
      refine Wt_take (i := 3) (listed' := #[true, true, true, true, false, false, false, false, false, false, false, false, false]) (by kernel_rfl) rfl (by kernel_rfl) (by kernel_rfl) (by kernel_rfl) (by kernel_rfl) (YI_v (v := .int .i64 (l.getD k 0)) rfl (fun w' hw' => r_load Try.isAgg3 rfl (hw'.cellk hc4))) ?_
      refine Wt_take (i := 4) (listed' := #[true, true, true, true, true, false, false, false, false, false, false, false, false]) (by kernel_rfl) rfl (by kernel_rfl) (by kernel_rfl) (by kernel_rfl) (by kernel_rfl) (YI_v (v := .bool (decide (0 < (l.getD k 0)))) rfl (fun w' hw' => r_gt rfl rfl)) ?_
      refine Wt_take (i := 5) (listed' := #[true, true, true, true, true, true, false, false, false, false, false, false, false]) (by kernel_rfl) rfl (by kernel_rfl) (by kernel_rfl) (by kernel_rfl) (by kernel_rfl) (YI_v (v := .bool (decide (0 < (l.getD k 0)))) rfl (fun w' hw' => r_mv (v := .bool (decide (0 < (l.getD k 0)))) rfl)) ?_
      by_cases q3 : 0 < (l.getD k 0)
      · rw [decide_eq_true q3]
        refine Wt_take (i := 6) (listed' := #[true, true, true, true, true, true, true, false, false, false, false, false, false]) (by kernel_rfl) rfl (by kernel_rfl) (by kernel_rfl) (by kernel_rfl) (by kernel_rfl) (YI_v (v := .slice a2 n c2) rfl (fun w' hw' => r_mv (v := .slice a2 n c2) rfl)) ?_
        refine Wt_take (i := 7) (listed' := #[true, true, true, true, true, true, true, true, false, false, false, false, false]) (by kernel_rfl) rfl (by kernel_rfl) (by kernel_rfl) (by kernel_rfl) (by kernel_rfl) (YI_v (v := .int .i64 ((k : Nat) : Int)) rfl (fun w' hw' => r_mv (v := .int .i64 ((k : Nat) : Int)) rfl)) ?_
        obtain ⟨ib5, io5, ha5, hib5, hc5⟩ := Sl.rat (0, 0) encC_len (by decide) (hO2.sl) (i := k) (by omega)
        refine Wt_take (i := 8) (listed' := #[true, true, true, true, true, true, true, true, true, false, false, false, false]) (by kernel_rfl) rfl (by kernel_rfl) (by kernel_rfl) (by kernel_rfl) (by kernel_rfl) (YI_v (v := .pointer (some ⟨ib5, io5 + k * 2, none⟩)) rfl (fun w' hw' => r_idx (b := ib5) (off := io5) (m := n) (c := c2) (o' := io5 + k * 2) Try.underlying28 Try.sizeOf37 (by rw [← ha5]; rfl) rfl (by omega) (by omega) (by omega))) ?_
        refine Wt_take (i := 9) (listed' := #[true, true, true, true, true, true, true, true, true, true, false, false, false]) (by kernel_rfl) rfl (by kernel_rfl) (by kernel_rfl) (by kernel_rfl) (by kernel_rfl) (YI_v (v := .agg #[.int .i64 (((cds l).getD k (0, 0)).1), .int .u32 (((cds l).getD k (0, 0)).2)]) rfl (fun w' hw' => r_loada (cs := [.int .i64 (((cds l).getD k (0, 0)).1), .int .u32 (((cds l).getD k (0, 0)).2)]) Try.isAgg37 Try.sizeOf37 rfl rfl (hw'.cellsk rfl hc5))) ?_
        refine Wt_take (i := 10) (listed' := #[true, true, true, true, true, true, true, true, true, true, true, false, false]) (by kernel_rfl) rfl (by kernel_rfl) (by kernel_rfl) (by kernel_rfl) (by kernel_rfl) (YI_v (v := .agg #[.int .i64 c.1, .int .u32 c.2]) rfl (fun w' hw' => r_loada (b := B1) (off := 0) (cs := [.int .i64 c.1, .int .u32 c.2]) Try.isAgg37 Try.sizeOf37 rfl rfl (fun j hj => by rw [(hb1.upd0 hw').cell]; match j, hj with | 0, _ => rfl | 1, _ => rfl))) ?_
        refine Wt_take (i := 11) (listed' := #[true, true, true, true, true, true, true, true, true, true, true, true, false]) (by kernel_rfl) rfl (by kernel_rfl) (by kernel_rfl) (by kernel_rfl) (by kernel_rfl) (YI_v (v := .bool (decide ((((cds l).getD k (0, 0)).1) = c.1 ∧ (((cds l).getD k (0, 0)).2) = c.2))) rfl (fun w' hw' => r_eqag (pp := (((cds l).getD k (0, 0)).1) = c.1 ∧ (((cds l).getD k (0, 0)).2) = c.2) Try.underlying37 (by kernel_rfl) (by kernel_rfl) rfl rfl (fun w => eqf_int (by decide) Try.underlying3 Try.isAgg3 rfl rfl (fun w => eqf_int (by decide) Try.underlying35 Try.isAgg35 rfl rfl (fun w => eqf_nil))) (by simp [Bool.decide_and]))) ?_
        refine Wt_take (i := 12) (listed' := #[true, true, true, true, true, true, true, true, true, true, true, true, true]) (by kernel_rfl) rfl (by kernel_rfl) (by kernel_rfl) (by kernel_rfl) (by kernel_rfl) (YI_v rfl (fun w' hw' => r_pick_t (v := .bool (decide ((((cds l).getD k (0, 0)).1) = c.1 ∧ (((cds l).getD k (0, 0)).2) = c.2))) rfl rfl)) ?_
        intro w6 hU6
        have hzw6 := hU6.size
        replace hs := hs.upd0 hU6
        replace HU := HU.trans0 hU6
        replace hb1 := hb1.upd0 hU6
        replace hO2 := hO2.upd0 hU6
        replace HL3 := HL3.trans0 hU6
        replace hc4 := cell_upd0 hU6 hc4
        refine Wa_done (by kernel_rfl) ?_
        by_cases q4 : (((cds l).getD k (0, 0)).1) = c.1 ∧ (((cds l).getD k (0, 0)).2) = c.2
        · rw [decide_eq_true q4]
          refine W_cond_t rfl ?_
          refine W_seq ?_
          refine W_region ?_
          refine Wl_v (r_mv (v := .int .i64 ((k : Nat) : Int)) rfl) ?_
          refine Wl_v (r_as (v := .int .i64 ((k : Nat) : Int)) rfl) ?_
          refine Wl_v (r_as (v := .bool true) rfl) ?_
          refine Wl_nil ?_
          refine W_ret ?_
          refine ret_end (v := .tuple #[.int .i64 ((k : Nat) : Int), .bool true]) rfl (res2 Try.results21 rfl rfl) ?_
          rw [sy_t q1]
          have hfx := fidx_at (0, 0) (q := qsym c) (l := cds l) (k := k) (by rw [cds_len]; omega) hall (qsym_t hr.1 (by omega) q3 q4)
          rw [hfx]
          exact ⟨_, rfl, (by first | rfl | exact vtup2 (vint (by split <;> omega)) (by first | exact vboolt (by omega) | exact vboolf (by omega))), HU⟩
        · rw [decide_eq_false q4]
          refine W_cond_f rfl ?_
          refine W_skip ?_
          refine W_region ?_
          refine Wl_v (r_mv (v := .int .i64 ((k : Nat) : Int)) rfl) ?_
          refine Wl_v (r_add rfl rfl (wi64 (by omega) (by omega))) ?_
          refine Wl_v (r_as (v := .int .i64 (((k : Nat) : Int) + 1)) rfl) ?_
          refine Wl_nil ?_
          refine ⟨_, ?_, (k + 1), rfl, rfl, ⟨rfl, rfl, rfl, (by first | rfl | exact vint (by omega) | exact vint (by simp)), trivial⟩, (by omega), (fun i hi => by rcases Nat.lt_or_ge i k with h | h; exact hall i h; rw [show i = k from by omega]; exact (qsym_f2 q4)), HL3⟩
          omega
      · rw [decide_eq_false q3]
        refine Wt_take (i := 6) (listed' := #[true, true, true, true, true, true, true, false, false, false, false, false, false]) (by kernel_rfl) rfl (by kernel_rfl) (by kernel_rfl) (by kernel_rfl) (by kernel_rfl) (YI_no rfl) ?_
        refine Wt_take (i := 7) (listed' := #[true, true, true, true, true, true, true, true, false, false, false, false, false]) (by kernel_rfl) rfl (by kernel_rfl) (by kernel_rfl) (by kernel_rfl) (by kernel_rfl) (YI_no rfl) ?_
        refine Wt_take (i := 8) (listed' := #[true, true, true, true, true, true, true, true, true, false, false, false, false]) (by kernel_rfl) rfl (by kernel_rfl) (by kernel_rfl) (by kernel_rfl) (by kernel_rfl) (YI_no rfl) ?_
        refine Wt_take (i := 9) (listed' := #[true, true, true, true, true, true, true, true, true, true, false, false, false]) (by kernel_rfl) rfl (by kernel_rfl) (by kernel_rfl) (by kernel_rfl) (by kernel_rfl) (YI_no rfl) ?_
        refine Wt_take (i := 10) (listed' := #[true, true, true, true, true, true, true, true, true, true, true, false, false]) (by kernel_rfl) rfl (by kernel_rfl) (by kernel_rfl) (by kernel_rfl) (by kernel_rfl) (YI_no rfl) ?_
        refine Wt_take (i := 11) (listed' := #[true, true, true, true, true, true, true, true, true, true, true, true, false]) (by kernel_rfl) rfl (by kernel_rfl) (by kernel_rfl) (by kernel_rfl) (by kernel_rfl) (YI_no rfl) ?_
        refine Wt_take (i := 12) (listed' := #[true, true, true, true, true, true, true, true, true, true, true, true, true]) (by kernel_rfl) rfl (by kernel_rfl) (by kernel_rfl) (by kernel_rfl) (by kernel_rfl) (YI_v rfl (fun w' hw' => r_pick_f (v := .bool false) rfl rfl)) ?_
        intro w7 hU7
        have hzw7 := hU7.size
        replace hs := hs.upd0 hU7
        replace HU := HU.trans0 hU7
        replace hb1 := hb1.upd0 hU7
        replace hO2 := hO2.upd0 hU7
        replace HL3 := HL3.trans0 hU7
        replace hc4 := cell_upd0 hU7 hc4
        refine Wa_done (by kernel_rfl) ?_
        refine W_cond_f rfl ?_
        refine W_skip ?_
        refine W_region ?_
        refine Wl_v (r_mv (v := .int .i64 ((k : Nat) : Int)) rfl) ?_
        refine Wl_v (r_add rfl rfl (wi64 (by omega) (by omega))) ?_
        refine Wl_v (r_as (v := .int .i64 (((k : Nat) : Int) + 1)) rfl) ?_
        refine Wl_nil ?_
        refine ⟨_, ?_, (k + 1), rfl, rfl, ⟨rfl, rfl, rfl, (by first | rfl | exact vint (by omega) | exact vint (by simp)), trivial⟩, (by omega), (fun i hi => by rcases Nat.lt_or_ge i k with h | h; exact hall i h; rw [show i = k from by omega]; exact (qsym_f1 (by omega) q3)), HL3⟩
        omega
    · rw [decide_eq_false q2]
      refine W_cond_f rfl ?_
      refine W_exit ?_
      refine W_seq ?_
      refine W_region ?_
      refine Wl_v (r_as (v := .int .i64 0) rfl) ?_
      refine Wl_v (r_as (v := .bool false) rfl) ?_
      refine Wl_nil ?_
      refine W_ret ?_
      refine ret_end (v := .tuple #[.int .i64 0, .bool false]) rfl (res2 Try.results21 rfl rfl) ?_
      rw [sy_t q1]
      have hfx := fidx_none (0, 0) (q := qsym c) (l := cds l) (fun i hi => hall i (by rw [cds_len] at hi; omega))
      rw [hfx]
      exact ⟨_, rfl, (by first | rfl | exact vtup2 (vint (by split <;> omega)) (by first | exact vboolt (by omega) | exact vboolf (by omega))), HU⟩
  · refine Wl_call (r_call1 rfl Try.call17 rfl) (rcodes_no _ hs (by omega) q1) ?_
    rintro v w8 ⟨rfl, hU8⟩
    have hzw8 := hU8.size
    replace hs := hs.upd0 hU8
    replace HU := HU.trans0 hU8
    replace hb1 := hb1.upd0 hU8
    refine Wl_v (r_mv (v := .tuple #[.slice none 0 0, .int .i64 12]) rfl) ?_
    refine Wl_v (r_ext (v := .slice none 0 0) rfl rfl) ?_
    refine Wl_v (r_ext (v := .int .i64 12) rfl rfl) ?_
    refine Wl_v (r_as (v := .slice none 0 0) rfl) ?_
    refine Wl_v (r_as (v := .int .i64 12) rfl) ?_
    refine Wl_nil ?_
    refine W_seq ?_
    refine W_seq ?_
    refine W_region ?_
    refine Wl_v (r_as (v := .int .i64 0) rfl) ?_
    refine Wl_nil ?_
    refine W_block ?_
    refine W_loop (fun mu ρ ds w' => ∃ (k : Nat), 0 - k = mu ∧ ds = [] ∧ Liv ρ [(0, .slice a n kc), (3, .pointer (some ⟨B1, 0, none⟩)), (6, .slice none 0 0), (8, .int .i64 ((k : Nat) : Int))] ∧ k ≤ 0 ∧ (∀ i, i < k → qsym c ((cds l).getD i (0, 0)) = false) ∧ Upd No w8 w') _ ⟨0, rfl, rfl, ⟨rfl, rfl, rfl, (by first | rfl | exact vint (by omega) | exact vint (by simp)), trivial⟩, (by omega), (fun i hi => absurd hi (by omega)), Upd.refl _ _⟩ ?_
    rintro m9 ρ9 ds9 w9 ⟨k, rfl, rfl, hl9, hk, hall, hU9⟩
    obtain ⟨ρ9x, rfl⟩ : ∃ ρx, ρ9 = upds ρx [(0, .slice a n kc), (3, .pointer (some ⟨B1, 0, none⟩)), (6, .slice none 0 0), (8, .int .i64 ((k : Nat) : Int))] := ⟨_, upds_self hl9⟩
    clear hl9
    have hzw9 := hU9.size
    replace hs := hs.upd0 hU9
    replace HU := HU.trans0 hU9
    replace hb1 := hb1.upd0 hU9
    have HL9 := hU9
    refine W_seq ?_
    refine W_seq ?_
    refine W_region ?_
    refine Wl_v (r_mv (v := .int .i64 ((k : Nat) : Int)) rfl) ?_
    refine Wl_v (r_mv (v := .slice none 0 0) rfl) ?_
    refine Wl_v (r_len Try.underlying28 rfl) ?_
    refine Wl_v (r_lt rfl rfl) ?_
    refine Wl_nil ?_
    have q5 : ¬ (((k : Nat) : Int) < ((0 : Nat) : Int)) := (by omega)
    rw [decide_eq_false q5]
    refine W_cond_f rfl ?_
    refine W_exit ?_
    refine W_seq ?_
    refine W_region ?_
    refine Wl_v (r_as (v := .int .i64 0) rfl) ?_
    refine Wl_v (r_as (v := .bool false) rfl) ?_
    refine Wl_nil ?_
    refine W_ret ?_
    refine ret_end (v := .tuple #[.int .i64 0, .bool false]) rfl (res2 Try.results21 rfl rfl) ?_
    rw [sy_f q1]
    exact ⟨_, rfl, (by first | rfl | exact vtup2 (vint (by split <;> omega)) (by first | exact vboolt (by omega) | exact vboolf (by omega))), HU⟩

theorem pdiv0 (b m : Int) (h : 0 ≤ b) : 0 ≤ b / 2 ^ (min m.toNat IntKind.u64.bits) := Int.ediv_nonneg h (Int.le_of_lt (Int.pow_pos (by decide)))

set_option maxRecDepth 100000 in
theorem read_spec {a : Option Addr} {n c : Nat} {l : List Int} {bits m : Int} {R : Nat → Prop} (w : World) (hs : Sl w R 1 (.slice a n c) n (ints .i64 l)) (hn : n ≤ 17592186044415) (hbits : 0 ≤ bits ∧ bits < 18446744073709551616) (hm : -9223372036854775808 ≤ m ∧ m ≤ 9223372036854775807) :
    Calls Try.prog 23 #[.slice a n c, .int .u64 bits, .int .i64 m] w (Ret fun v w' => v = .tuple #[.int .i64 ((dec l bits m).1), .int .i64 ((dec l bits m).2.1), .int .i64 ((dec l bits m).2.2)] ∧ Upd No w w') := by
  have HU : Upd (fun b => False) w w := Upd.refl _ _
  have hl_hs := ilen hs
  have hc_hs := hs.cap.1
  replace hs := hs.tight
  refine calls_of_W Try.func23 rfl Try.ntmps23 (by simp) ?_
  refine W_seq ?_
  refine W_region ?_
  refine Wl_v (r_as (v := .int .i64 0) rfl) ?_
  refine Wl_v (r_as (v := .int .i64 0) rfl) ?_
  refine Wl_v (r_as (v := .int .i64 0) rfl) ?_
  refine Wl_nil ?_
  refine W_seq ?_
  refine W_region ?_
  refine Wl_v (r_mv (v := .slice a n c) rfl) ?_
  by_cases q1 : Rt l
  · refine Wl_call (r_call1 rfl Try.call17 rfl) (rcodes_ok _ hs (by omega) q1) ?_
    rintro v w1 ⟨a1, c1, rfl, hO1, hU1⟩
    have hzw1 := hU1.size
    replace hs := hs.upd0 hU1
    replace HU := HU.trans0 hU1
    replace hO1 := hO1.tight
    have hl_hO1 := rlen encC_len (by decide) hO1.sl
    have hc_hO1 := hO1.sl.cap.1
    have hr := q1
    have h256 := hr.2.1
    refine Wl_v (r_mv (v := .tuple #[.slice a1 n c1, .int .i64 0]) rfl) ?_
    refine Wl_v (r_ext (v := .slice a1 n c1) rfl rfl) ?_
    refine Wl_v (r_ext (v := .int .i64 0) rfl rfl) ?_
    refine Wl_v (r_as (v := .slice a1 n c1) rfl) ?_
    refine Wl_v (r_as (v := .int .i64 0) rfl) ?_
    refine Wl_nil ?_
    refine W_seq ?_
    refine W_seq ?_
    refine W_region ?_
    refine Wl_v (r_mv (v := .int .i64 0) rfl) ?_
    refine Wl_v (v := .bool false) (r_ne (a := 0) (b := 0) rfl rfl) ?_
    refine Wl_nil ?_
    refine W_cond_f rfl ?_
    refine W_skip ?_
    refine W_seq ?_
    refine W_seq ?_
    refine W_region ?_
    refine Wl_v (r_mv (v := .int .i64 m) rfl) ?_
    refine Wl_v (r_lt rfl rfl) ?_
    refine Wl_v (r_mv (v := .bool (decide (m < 0))) rfl) ?_
    by_cases q2 : m < 0
    · rw [decide_eq_true q2]
      refine Wl_guard_f rfl ?_
      refine Wl_guard_f rfl ?_
      refine Wl_v (r_pick_t (v := .bool true) rfl rfl) ?_
      refine Wl_v (r_mv (v := .bool true) rfl) ?_
      refine Wl_guard_f rfl ?_
      refine Wl_guard_f rfl ?_
      refine Wl_guard_f rfl ?_
      refine Wl_skip rfl ?_
      refine Wl_skip rfl ?_
      refine Wl_skip rfl ?_
      refine Wl_skip rfl ?_
      refine Wl_guard_f rfl ?_
      refine Wl_v (r_pick_t (v := .bool true) rfl rfl) ?_
      refine Wl_nil ?_
      refine W_cond_t rfl ?_
      refine W_seq ?_
      refine W_region ?_
      refine Wl_v (r_as (v := .int .i64 0) rfl) ?_
      refine Wl_v (r_as (v := .int .i64 0) rfl) ?_
      refine Wl_v (r_as (v := .int .i64 2) rfl) ?_
      refine Wl_nil ?_
      refine W_ret ?_
      refine ret_end (v := .tuple #[.int .i64 0, .int .i64 0, .int .i64 2]) rfl (res3 Try.results23 rfl rfl rfl) ?_
      rw [dec_arg q1 (fun h => by unfold Va at h; omega)]
      exact ⟨_, rfl, (vtup3 (by first | rfl | exact vint (by omega)) (by first | rfl | exact vint (by omega)) (by first | rfl | exact vint (by omega))), HU⟩
    · rw [decide_eq_false q2]
      refine Wl_guard_t rfl ?_
      refine Wl_v (r_mv (v := .int .i64 m) rfl) ?_
      refine Wl_guard_t rfl ?_
      refine Wl_v (r_gt rfl rfl) ?_
      refine Wl_v (r_pick_f (v := .bool (decide (64 < m))) rfl rfl) ?_
      refine Wl_v (r_mv (v := .bool (decide (64 < m))) rfl) ?_
      by_cases q3 : 64 < m
      · rw [decide_eq_true q3]
        refine Wl_guard_f rfl ?_
        refine Wl_guard_f rfl ?_
        refine Wl_guard_f rfl ?_
        refine Wl_skip rfl ?_
        refine Wl_skip rfl ?_
        refine Wl_skip rfl ?_
        refine Wl_skip rfl ?_
        refine Wl_guard_f rfl ?_
        refine Wl_v (r_pick_t (v := .bool true) rfl rfl) ?_
        refine Wl_nil ?_
        refine W_cond_t rfl ?_
        refine W_seq ?_
        refine W_region ?_
        refine Wl_v (r_as (v := .int .i64 0) rfl) ?_
        refine Wl_v (r_as (v := .int .i64 0) rfl) ?_
        refine Wl_v (r_as (v := .int .i64 2) rfl) ?_
        refine Wl_nil ?_
        refine W_ret ?_
        refine ret_end (v := .tuple #[.int .i64 0, .int .i64 0, .int .i64 2]) rfl (res3 Try.results23 rfl rfl rfl) ?_
        rw [dec_arg q1 (fun h => by unfold Va at h; omega)]
        exact ⟨_, rfl, (vtup3 (by first | rfl | exact vint (by omega)) (by first | rfl | exact vint (by omega)) (by first | rfl | exact vint (by omega))), HU⟩
      · rw [decide_eq_false q3]
        refine Wl_guard_t rfl ?_
        refine Wl_v (r_mv (v := .int .i64 m) rfl) ?_
        refine Wl_guard_t rfl ?_
        refine Wl_v (r_lt rfl rfl) ?_
        refine Wl_guard_t rfl ?_
        refine Wl_v (r_mv (v := .bool (decide (m < 64))) rfl) ?_
        by_cases q4 : m < 64
        · rw [decide_eq_true q4]
          refine Wl_guard_t rfl ?_
          refine Wl_v (r_mv (v := .int .u64 bits) rfl) ?_
          refine Wl_guard_t rfl ?_
          refine Wl_v (r_mv (v := .int .i64 m) rfl) ?_
          refine Wl_guard_t rfl ?_
          refine Wl_v (r_shr rfl rfl (by omega) rfl) ?_
          refine Wl_guard_t rfl ?_
          refine Wl_v (r_gt rfl rfl) ?_
          refine Wl_guard_t rfl ?_
          refine Wl_v (r_pick_t (v := .bool (decide (0 < (bits / 2 ^ (min (m).toNat IntKind.u64.bits))))) rfl rfl) ?_
          refine Wl_v (r_pick_f (v := .bool (decide (0 < (bits / 2 ^ (min (m).toNat IntKind.u64.bits))))) rfl rfl) ?_
          refine Wl_nil ?_
          by_cases q5 : 0 < (bits / 2 ^ (min (m).toNat IntKind.u64.bits))
          · rw [decide_eq_true q5]
            refine W_cond_t rfl ?_
            refine W_seq ?_
            refine W_region ?_
            refine Wl_v (r_as (v := .int .i64 0) rfl) ?_
            refine Wl_v (r_as (v := .int .i64 0) rfl) ?_
            refine Wl_v (r_as (v := .int .i64 2) rfl) ?_
            refine Wl_nil ?_
            refine W_ret ?_
            refine ret_end (v := .tuple #[.int .i64 0, .int .i64 0, .int .i64 2]) rfl (res3 Try.results23 rfl rfl rfl) ?_
            rw [dec_arg q1 (fun h => by unfold Va at h; omega)]
            exact ⟨_, rfl, (vtup3 (by first | rfl | exact vint (by omega)) (by first | rfl | exact vint (by omega)) (by first | rfl | exact vint (by omega))), HU⟩
          · rw [decide_eq_false q5]
            refine W_cond_f rfl ?_
            refine W_skip ?_
            refine W_seq ?_
            refine W_seq ?_
            refine W_region ?_
            refine Wl_v (r_as (v := .int .i64 0) rfl) ?_
            refine Wl_nil ?_
            refine W_block ?_
            refine W_loop (fun mu ρ ds w' => ∃ (k : Nat), n - k = mu ∧ ds = [] ∧ Liv ρ [(1, .int .u64 bits), (2, .int .i64 m), (9, .slice a1 n c1), (11, .int .i64 ((k : Nat) : Int))] ∧ k ≤ n ∧ (∀ i, i < k → qrd bits m ((cds l).getD i (0, 0)) = false) ∧ Upd No w1 w') _ ⟨0, rfl, rfl, ⟨rfl, rfl, rfl, (by first | rfl | exact vint (by omega) | exact vint (by simp)), trivial⟩, (by omega), (fun i hi => absurd hi (by omega)), Upd.refl _ _⟩ ?_
            rintro m2 ρ2 ds2 w2 ⟨k, rfl, rfl, hl2, hk, hall, hU2⟩
            obtain ⟨ρ2x, rfl⟩ : ∃ ρx, ρ2 = upds ρx [(1, .int .u64 bits), (2, .int .i64 m), (9, .slice a1 n c1), (11, .int .i64 ((k : Nat) : Int))] := ⟨_, upds_self hl2⟩
            clear hl2
            have hzw2 := hU2.size
            replace hs := hs.upd0 hU2
            replace HU := HU.trans0 hU2
            replace hO1 := hO1.upd0 hU2
            have HL2 := hU2
            refine W_seq ?_
            refine W_seq ?_
            refine W_region ?_
            refine Wl_v (r_mv (v := .int .i64 ((k : Nat) : Int)) rfl) ?_
            refine Wl_v (r_mv (v := .slice a1 n c1) rfl) ?_
            refine Wl_v (r_len Try.underlying28 rfl) ?_
            refine Wl_v (r_lt rfl rfl) ?_
            refine Wl_nil ?_
            by_cases q6 : ((k : Nat) : Int) < ((n : Nat) : Int)
            · rw [decide_eq_true q6]
              refine W_cond_t rfl ?_
              refine W_skip ?_
              refine W_seq ?_
              refine W_block ?_
              refine W_seq ?_
              refine W_region ?_
              refine Wl_v (r_mv (v := .slice a1 n c1) rfl) ?_
              refine Wl_v (r_mv (v := .int .i64 ((k : Nat) : Int)) rfl) ?_
              refine Wl_idxr (0, 0) encC_len (by decide) Try.underlying28 Try.sizeOf37 rfl rfl hO1.sl (by omega) (by omega) ?_
              intro ib3 io3 hc3
              try rw [Int.toNat_natCast] at hc3
              refine Wl_v (r_fld Try.underlying37 rfl Try.sizeOf3 rfl rfl) ?_
              refine Wl_loadc (v := .int .i64 (((cds l).getD k (0, 0)).1)) Try.isAgg3 rfl (hc3 0 (by decide)) ?_
              refine Wl_v (r_as (v := .int .i64 (((cds l).getD k (0, 0)).1)) rfl) ?_
              refine Wl_nil ?_
              refine W_seq ?_
              refine W_drawt rfl (l0 := #[false, false, false, false, false, false, false, false, false, false, false, false, false, false, false, false, false, false, false, false, false]) (by kernel_rfl) ?_
              refine Wt_take (i := 0) (listed' := #[true, false, false, false, false, false, false, false, false, false, false, false, false, false, false, false, false, false, false, false, false]) (by kernel_rfl) rfl (by kernel_rfl) (by kernel_rfl) (by kernel_rfl) (by kernel_rfl) (YI_v (v := .int .i64 (((cds l).getD k (0, 0)).1)) rfl (fun w' hw' => r_mv (v := .int .i64 (((cds l).getD k (0, 0)).1)) rfl)) ?_
              refine Wt_take (i := 1) (listed' := #[true, true, false, false, false, false, false, false, false, false, false, false, false, false, false, false, false, false, false, false, false]) (by kernel_rfl) rfl (by kernel_rfl) (by kernel_rfl) (by kernel_rfl) (by kernel_rfl) (YI_v (v := .bool (decide (0 < (((cds l).getD k (0, 0)).1)))) rfl (fun w' hw' => r_gt rfl rfl)) ?_
              refine Wt_take (i := 2) (listed' := #[true, true, true, false, false, false, false, false, false, false, false, false, false, false, false, false, false, false, false, false, false]) (by kernel_rfl) rfl (by kernel_rfl) (by kernel_rfl) (by kernel_rfl) (by kernel_rfl) (YI_v (v := .bool (decide (0 < (((cds l).getD k (0, 0)).1)))) rfl (fun w' hw' => r_mv (v := .bool (decide (0 < (((cds l).getD k (0, 0)).1)))) rfl)) ?_
              by_cases q7 : 0 < (((cds l).getD k (0, 0)).1)
              · have hcb := cds_bd hr k
                rw [decide_eq_true q7]
                refine Wt_take (i := 3) (listed' := #[true, true, true, true, false, false, false, false, false, false, false, false, false, false, false, false, false, false, false, false, false]) (by kernel_rfl) rfl (by kernel_rfl) (by kernel_rfl) (by kernel_rfl) (by kernel_rfl) (YI_v (v := .int .i64 (((cds l).getD k (0, 0)).1)) rfl (fun w' hw' => r_mv (v := .int .i64 (((cds l).getD k (0, 0)).1)) rfl)) ?_
                refine Wt_take (i := 4) (listed' := #[true, true, true, true, true, false, false, false, false, false, false, false, false, false, false, false, false, false, false, false, false]) (by kernel_rfl) rfl (by kernel_rfl) (by kernel_rfl) (by kernel_rfl) (by kernel_rfl) (YI_v (v := .int .i64 m) rfl (fun w' hw' => r_mv (v := .int .i64 m) rfl)) ?_
                refine Wt_take (i := 5) (listed' := #[true, true, true, true, true, true, false, false, false, false, false, false, false, false, false, false, false, false, false, false, false]) (by kernel_rfl) rfl (by kernel_rfl) (by kernel_rfl) (by kernel_rfl) (by kernel_rfl) (YI_v (v := .bool (decide ((((cds l).getD k (0, 0)).1) ≤ m))) rfl (fun w' hw' => r_le rfl rfl)) ?_
                refine Wt_take (i := 6) (listed' := #[true, true, true, true, true, true, true, false, false, false, false, false, false, false, false, false, false, false, false, false, false]) (by kernel_rfl) rfl (by kernel_rfl) (by kernel_rfl) (by kernel_rfl) (by kernel_rfl) (YI_v rfl (fun w' hw' => r_pick_t (v := .bool (decide ((((cds l).getD k (0, 0)).1) ≤ m))) rfl rfl)) ?_
                refine Wt_take (i := 7) (listed' := #[true, true, true, true, true, true, true, true, false, false, false, false, false, false, false, false, false, false, false, false, false]) (by kernel_rfl) rfl (by kernel_rfl) (by kernel_rfl) (by kernel_rfl) (by kernel_rfl) (YI_v (v := .bool (decide ((((cds l).getD k (0, 0)).1) ≤ m))) rfl (fun w' hw' => r_mv (v := .bool (decide ((((cds l).getD k (0, 0)).1) ≤ m))) rfl)) ?_
                by_cases q8 : (((cds l).getD k (0, 0)).1) ≤ m
                · have hcb := cds_bd hr k
                  rw [decide_eq_true q8]
                  refine Wt_take (i := 8) (listed' := #[true, true, true, true, true, true, true, true, true, false, false, false, false, false, false, false, false, false, false, false, false]) (by kernel_rfl) rfl (by kernel_rfl) (by kernel_rfl) (by kernel_rfl) (by kernel_rfl) (YI_v (v := .int .u64 bits) rfl (fun w' hw' => r_mv (v := .int .u64 bits) rfl)) ?_
                  refine Wt_take (i := 9) (listed' := #[true, true, true, true, true, true, true, true, true, true, false, false, false, false, false, false, false, false, false, false, false]) (by kernel_rfl) rfl (by kernel_rfl) (by kernel_rfl) (by kernel_rfl) (by kernel_rfl) (YI_v (v := .int .i64 m) rfl (fun w' hw' => r_mv (v := .int .i64 m) rfl)) ?_
                  refine Wt_take (i := 10) (listed' := #[true, true, true, true, true, true, true, true, true, true, true, false, false, false, false, false, false, false, false, false, false]) (by kernel_rfl) rfl (by kernel_rfl) (by kernel_rfl) (by kernel_rfl) (by kernel_rfl) (YI_v (v := .int .i64 (((cds l).getD k (0, 0)).1)) rfl (fun w' hw' => r_mv (v := .int .i64 (((cds l).getD k (0, 0)).1)) rfl)) ?_
                  refine Wt_take (i := 11) (listed' := #[true, true, true, true, true, true, true, true, true, true, true, true, false, false, false, false, false, false, false, false, false]) (by kernel_rfl) rfl (by kernel_rfl) (by kernel_rfl) (by kernel_rfl) (by kernel_rfl) (YI_v (v := .int .i64 (m - (((cds l).getD k (0, 0)).1))) rfl (fun w' hw' => r_sub rfl rfl (wi64 (by omega) (by omega)))) ?_
                  refine Wt_take (i := 12) (listed' := #[true, true, true, true, true, true, true, true, true, true, true, true, true, false, false, false, false, false, false, false, false]) (by kernel_rfl) rfl (by kernel_rfl) (by kernel_rfl) (by kernel_rfl) (by kernel_rfl) (YI_v (v := .int .u64 (bits / 2 ^ (min (m - (((cds l).getD k (0, 0)).1)).toNat IntKind.u64.bits))) rfl (fun w' hw' => r_shr rfl rfl (by omega) rfl)) ?_
                  refine Wt_take (i := 13) (listed' := #[true, true, true, true, true, true, true, true, true, true, true, true, true, true, false, false, false, false, false, false, false]) (by kernel_rfl) rfl (by kernel_rfl) (by kernel_rfl) (by kernel_rfl) (by kernel_rfl) (YI_v (v := .slice a1 n c1) rfl (fun w' hw' => r_mv (v := .slice a1 n c1) rfl)) ?_
                  refine Wt_take (i := 14) (listed' := #[true, true, true, true, true, true, true, true, true, true, true, true, true, true, true, false, false, false, false, false, false]) (by kernel_rfl) rfl (by kernel_rfl) (by kernel_rfl) (by kernel_rfl) (by kernel_rfl) (YI_v (v := .int .i64 ((k : Nat) : Int)) rfl (fun w' hw' => r_mv (v := .int .i64 ((k : Nat) : Int)) rfl)) ?_
                  obtain ⟨ib4, io4, ha4, hib4, hc4⟩ := Sl.rat (0, 0) encC_len (by decide) (hO1.sl) (i := k) (by omega)
                  refine Wt_take (i := 15) (listed' := #[true, true, true, true, true, true, true, true, true, true, true, true, true, true, true, true, false, false, false, false, false]) (by kernel_rfl) rfl (by kernel_rfl) (by kernel_rfl) (by kernel_rfl) (by kernel_rfl) (YI_v (v := .pointer (some ⟨ib4, io4 + k * 2, none⟩)) rfl (fun w' hw' => r_idx (b := ib4) (off := io4) (m := n) (c := c1) (o' := io4 + k * 2) Try.underlying28 Try.sizeOf37 (by rw [← ha4]; rfl) rfl (by omega) (by omega) (by omega))) ?_
                  refine Wt_take (i := 16) (listed' := #[true, true, true, true, true, true, true, true, true, true, true, true, true, true, true, true, true, false, false, false, false]) (by kernel_rfl) rfl (by kernel_rfl) (by kernel_rfl) (by kernel_rfl) (by kernel_rfl) (YI_v (v := .pointer (some ⟨ib4, io4 + k * 2 + 1, none⟩)) rfl (fun w' hw' => r_fld Try.underlying37 rfl Try.sizeOf35 rfl rfl)) ?_
                  refine Wt_take (i := 17) (listed' := #[true, true, true, true, true, true, true, true, true, true, true, true, true, true, true, true, true, true, false, false, false]) (by kernel_rfl) rfl (by kernel_rfl) (by kernel_rfl) (by kernel_rfl) (by kernel_rfl) (YI_v (v := .int .u32 (((cds l).getD k (0, 0)).2)) rfl (fun w' hw' => r_load (v := .int .u32 (((cds l).getD k (0, 0)).2)) Try.isAgg35 rfl (hw'.cellk (hc4 1 (by decide))))) ?_
                  refine Wt_take (i := 18) (listed' := #[true, true, true, true, true, true, true, true, true, true, true, true, true, true, true, true, true, true, true, false, false]) (by kernel_rfl) rfl (by kernel_rfl) (by kernel_rfl) (by kernel_rfl) (by kernel_rfl) (YI_v (v := .int .u64 (((cds l).getD k (0, 0)).2)) rfl (fun w' hw' => r_cvt Try.underlying35 Try.underlying41 rfl (wu64 (by omega) (by omega)))) ?_
                  refine Wt_take (i := 19) (listed' := #[true, true, true, true, true, true, true, true, true, true, true, true, true, true, true, true, true, true, true, true, false]) (by kernel_rfl) rfl (by kernel_rfl) (by kernel_rfl) (by kernel_rfl) (by kernel_rfl) (YI_v (v := .bool (decide ((bits / 2 ^ (min (m - (((cds l).getD k (0, 0)).1)).toNat IntKind.u64.bits)) = (((cds l).getD k (0, 0)).2)))) rfl (fun w' hw' => r_eq rfl rfl)) ?_
                  refine Wt_take (i := 20) (listed' := #[true, true, true, true, true, true, true, true, true, true, true, true, true, true, true, true, true, true, true, true, true]) (by kernel_rfl) rfl (by kernel_rfl) (by kernel_rfl) (by kernel_rfl) (by kernel_rfl) (YI_v rfl (fun w' hw' => r_pick_t (v := .bool (decide ((bits / 2 ^ (min (m - (((cds l).getD k (0, 0)).1)).toNat IntKind.u64.bits)) = (((cds l).getD k (0, 0)).2)))) rfl rfl)) ?_
                  intro w5 hU5
                  have hzw5 := hU5.size
                  replace hs := hs.upd0 hU5
                  replace HU := HU.trans0 hU5
                  replace hO1 := hO1.upd0 hU5
                  replace HL2 := HL2.trans0 hU5
                  refine Wa_done (by kernel_rfl) ?_
                  by_cases q9 : (bits / 2 ^ (min (m - (((cds l).getD k (0, 0)).1)).toNat IntKind.u64.bits)) = (((cds l).getD k (0, 0)).2)
                  · have hcb := cds_bd hr k
                    rw [decide_eq_true q9]
                    refine W_cond_t rfl ?_
                    refine W_seq ?_
                    refine W_region ?_
                    refine Wl_v (r_mv (v := .int .i64 ((k : Nat) : Int)) rfl) ?_
                    refine Wl_v (r_mv (v := .int .i64 (((cds l).getD k (0, 0)).1)) rfl) ?_
                    refine Wl_v (r_as (v := .int .i64 ((k : Nat) : Int)) rfl) ?_
                    refine Wl_v (r_as (v := .int .i64 (((cds l).getD k (0, 0)).1)) rfl) ?_
                    refine Wl_v (r_as (v := .int .i64 0) rfl) ?_
                    refine Wl_nil ?_
                    refine W_ret ?_
                    refine ret_end (v := .tuple #[.int .i64 ((k : Nat) : Int), .int .i64 (((cds l).getD k (0, 0)).1), .int .i64 0]) rfl (res3 Try.results23 rfl rfl rfl) ?_
                    have hfx := fidx_at (0, 0) (q := qrd bits m) (l := cds l) (k := k) (by rw [cds_len]; omega) hall (show qrd bits m ((cds l).getD k (0, 0)) = true by unfold qrd; rw [decide_eq_true_iff]; exact ⟨by omega, by omega, q9⟩)
                    rw [dec_ok q1 (show Va bits m from ⟨by omega, by have hp0 := pdiv0 bits m (by omega); omega⟩) (by omega), hfx]
                    exact ⟨_, rfl, (vtup3 (by first | rfl | exact vint (by omega)) (by first | rfl | exact vint (by omega)) (by first | rfl | exact vint (by omega))), HU⟩
                  · have hcb := cds_bd hr k
                    rw [decide_eq_false q9]
                    refine W_cond_f rfl ?_
                    refine W_skip ?_
                    refine W_region ?_
                    refine Wl_v (r_mv (v := .int .i64 ((k : Nat) : Int)) rfl) ?_
                    refine Wl_v (r_add rfl rfl (wi64 (by omega) (by omega))) ?_
                    refine Wl_v (r_as (v := .int .i64 (((k : Nat) : Int) + 1)) rfl) ?_
                    refine Wl_nil ?_
                    refine ⟨_, ?_, (k + 1), rfl, rfl, ⟨rfl, rfl, rfl, (by first | rfl | exact vint (by omega) | exact vint (by simp)), trivial⟩, (by omega), (fun i hi => by rcases Nat.lt_or_ge i k with h | h; exact hall i h; rw [show i = k from by omega]; exact (show qrd bits m ((cds l).getD k (0, 0)) = false by unfold qrd; rw [decide_eq_false_iff_not]; exact fun h => q9 h.2.2)), HL2⟩
                    omega
                · have hcb := cds_bd hr k
                  rw [decide_eq_false q8]
                  refine Wt_take (i := 8) (listed' := #[true, true, true, true, true, true, true, true, true, false, false, false, false, false, false, false, false, false, false, false, false]) (by kernel_rfl) rfl (by kernel_rfl) (by kernel_rfl) (by kernel_rfl) (by kernel_rfl) (YI_no rfl) ?_
                  refine Wt_take (i := 9) (listed' := #[true, true, true, true, true, true, true, true, true, true, false, false, false, false, false, false, false, false, false, false, false]) (by kernel_rfl) rfl (by kernel_rfl) (by kernel_rfl) (by kernel_rfl) (by kernel_rfl) (YI_no rfl) ?_
                  refine Wt_take (i := 10) (listed' := #[true, true, true, true, true, true, true, true, true, true, true, false, false, false, false, false, false, false, false, false, false]) (by kernel_rfl) rfl (by kernel_rfl) (by kernel_rfl) (by kernel_rfl) (by kernel_rfl) (YI_no rfl) ?_
                  refine Wt_take (i := 11) (listed' := #[true, true, true, true, true, true, true, true, true, true, true, true, false, false, false, false, false, false, false, false, false]) (by kernel_rfl) rfl (by kernel_rfl) (by kernel_rfl) (by kernel_rfl) (by kernel_rfl) (YI_no rfl) ?_
                  refine Wt_take (i := 12) (listed' := #[true, true, true, true, true, true, true, true, true, true, true, true, true, false, false, false, false, false, false, false, false]) (by kernel_rfl) rfl (by kernel_rfl) (by kernel_rfl) (by kernel_rfl) (by kernel_rfl) (YI_no rfl) ?_
                  refine Wt_take (i := 13) (listed' := #[true, true, true, true, true, true, true, true, true, true, true, true, true, true, false, false, false, false, false, false, false]) (by kernel_rfl) rfl (by kernel_rfl) (by kernel_rfl) (by kernel_rfl) (by kernel_rfl) (YI_no rfl) ?_
                  refine Wt_take (i := 14) (listed' := #[true, true, true, true, true, true, true, true, true, true, true, true, true, true, true, false, false, false, false, false, false]) (by kernel_rfl) rfl (by kernel_rfl) (by kernel_rfl) (by kernel_rfl) (by kernel_rfl) (YI_no rfl) ?_
                  refine Wt_take (i := 15) (listed' := #[true, true, true, true, true, true, true, true, true, true, true, true, true, true, true, true, false, false, false, false, false]) (by kernel_rfl) rfl (by kernel_rfl) (by kernel_rfl) (by kernel_rfl) (by kernel_rfl) (YI_no rfl) ?_
                  refine Wt_take (i := 16) (listed' := #[true, true, true, true, true, true, true, true, true, true, true, true, true, true, true, true, true, false, false, false, false]) (by kernel_rfl) rfl (by kernel_rfl) (by kernel_rfl) (by kernel_rfl) (by kernel_rfl) (YI_no rfl) ?_
                  refine Wt_take (i := 17) (listed' := #[true, true, true, true, true, true, true, true, true, true, true, true, true, true, true, true, true, true, false, false, false]) (by kernel_rfl) rfl (by kernel_rfl) (by kernel_rfl) (by kernel_rfl) (by kernel_rfl) (YI_no rfl) ?_
                  refine Wt_take (i := 18) (listed' := #[true, true, true, true, true, true, true, true, true, true, true, true, true, true, true, true, true, true, true, false, false]) (by kernel_rfl) rfl (by kernel_rfl) (by kernel_rfl) (by kernel_rfl) (by kernel_rfl) (YI_no rfl) ?_
                  refine Wt_take (i := 19) (listed' := #[true, true, true, true, true, true, true, true, true, true, true, true, true, true, true, true, true, true, true, true, false]) (by kernel_rfl) rfl (by kernel_rfl) (by kernel_rfl) (by kernel_rfl) (by kernel_rfl) (YI_no rfl) ?_
                  refine Wt_take (i := 20) (listed' := #[true, true, true, true, true, true, true, true, true, true, true, true, true, true, true, true, true, true, true, true, true]) (by kernel_rfl) rfl (by kernel_rfl) (by kernel_rfl) (by kernel_rfl) (by kernel_rfl) (YI_v rfl (fun w' hw' => r_pick_f (v := .bool false) rfl rfl)) ?_
                  intro w6 hU6
                  have hzw6 := hU6.size
                  replace hs := hs.upd0 hU6
                  replace HU := HU.trans0 hU6
                  replace hO1 := hO1.upd0 hU6
                  replace HL2 := HL2.trans0 hU6
                  refine Wa_done (by kernel_rfl) ?_
                  refine W_cond_f rfl ?_
                  refine W_skip ?_
                  refine W_region ?_
                  refine Wl_v (r_mv (v := .int .i64 ((k : Nat) : Int)) rfl) ?_
                  refine Wl_v (r_add rfl rfl (wi64 (by omega) (by omega))) ?_
                  refine Wl_v (r_as (v := .int .i64 (((k : Nat) : Int) + 1)) rfl) ?_
                  refine Wl_nil ?_
                  refine ⟨_, ?_, (k + 1), rfl, rfl, ⟨rfl, rfl, rfl, (by first | rfl | exact vint (by omega) | exact vint (by simp)), trivial⟩, (by omega), (fun i hi => by rcases Nat.lt_or_ge i k with h | h; exact hall i h; rw [show i = k from by omega]; exact (show qrd bits m ((cds l).getD k (0, 0)) = false by unfold qrd; rw [decide_eq_false_iff_not]; exact fun h => by omega)), HL2⟩
                  omega
              · have hcb := cds_bd hr k
                rw [decide_eq_false q7]
                refine Wt_take (i := 3) (listed' := #[true, true, true, true, false, false, false, false, false, false, false, false, false, false, false, false, false, false, false, false, false]) (by kernel_rfl) rfl (by kernel_rfl) (by kernel_rfl) (by kernel_rfl) (by kernel_rfl) (YI_no rfl) ?_
                refine Wt_take (i := 4) (listed' := #[true, true, true, true, true, false, false, false, false, false, false, false, false, false, false, false, false, false, false, false, false]) (by kernel_rfl) rfl (by kernel_rfl) (by kernel_rfl) (by kernel_rfl) (by kernel_rfl) (YI_no rfl) ?_
                refine Wt_take (i := 5) (listed' := #[true, true, true, true, true, true, false, false, false, false, false, false, false, false, false, false, false, false, false, false, false]) (by kernel_rfl) rfl (by kernel_rfl) (by kernel_rfl) (by kernel_rfl) (by kernel_rfl) (YI_no rfl) ?_
                refine Wt_take (i := 6) (listed' := #[true, true, true, true, true, true, true, false, false, false, false, false, false, false, false, false, false, false, false, false, false]) (by kernel_rfl) rfl (by kernel_rfl) (by kernel_rfl) (by kernel_rfl) (by kernel_rfl) (YI_v rfl (fun w' hw' => r_pick_f (v := .bool false) rfl rfl)) ?_
                refine Wt_take (i := 7) (listed' := #[true, true, true, true, true, true, true, true, false, false, false, false, false, false, false, false, false, false, false, false, false]) (by kernel_rfl) rfl (by kernel_rfl) (by kernel_rfl) (by kernel_rfl) (by kernel_rfl) (YI_v (v := .bool false) rfl (fun w' hw' => r_mv (v := .bool false) rfl)) ?_
                refine Wt_take (i := 8) (listed' := #[true, true, true, true, true, true, true, true, true, false, false, false, false, false, false, false, false, false, false, false, false]) (by kernel_rfl) rfl (by kernel_rfl) (by kernel_rfl) (by kernel_rfl) (by kernel_rfl) (YI_no rfl) ?_
                refine Wt_take (i := 9) (listed' := #[true, true, true, true, true, true, true, true, true, true, false, false, false, false, false, false, false, false, false, false, false]) (by kernel_rfl) rfl (by kernel_rfl) (by kernel_rfl) (by kernel_rfl) (by kernel_rfl) (YI_no rfl) ?_
                refine Wt_take (i := 10) (listed' := #[true, true, true, true, true, true, true, true, true, true, true, false, false, false, false, false, false, false, false, false, false]) (by kernel_rfl) rfl (by kernel_rfl) (by kernel_rfl) (by kernel_rfl) (by kernel_rfl) (YI_no rfl) ?_
                refine Wt_take (i := 11) (listed' := #[true, true, true, true, true, true, true, true, true, true, true, true, false, false, false, false, false, false, false, false, false]) (by kernel_rfl) rfl (by kernel_rfl) (by kernel_rfl) (by kernel_rfl) (by kernel_rfl) (YI_no rfl) ?_
                refine Wt_take (i := 12) (listed' := #[true, true, true, true, true, true, true, true, true, true, true, true, true, false, false, false, false, false, false, false, false]) (by kernel_rfl) rfl (by kernel_rfl) (by kernel_rfl) (by kernel_rfl) (by kernel_rfl) (YI_no rfl) ?_
                refine Wt_take (i := 13) (listed' := #[true, true, true, true, true, true, true, true, true, true, true, true, true, true, false, false, false, false, false, false, false]) (by kernel_rfl) rfl (by kernel_rfl) (by kernel_rfl) (by kernel_rfl) (by kernel_rfl) (YI_no rfl) ?_
                refine Wt_take (i := 14) (listed' := #[true, true, true, true, true, true, true, true, true, true, true, true, true, true, true, false, false, false, false, false, false]) (by kernel_rfl) rfl (by kernel_rfl) (by kernel_rfl) (by kernel_rfl) (by kernel_rfl) (YI_no rfl) ?_
                refine Wt_take (i := 15) (listed' := #[true, true, true, true, true, true, true, true, true, true, true, true, true, true, true, true, false, false, false, false, false]) (by kernel_rfl) rfl (by kernel_rfl) (by kernel_rfl) (by kernel_rfl) (by kernel_rfl) (YI_no rfl) ?_
                refine Wt_take (i := 16) (listed' := #[true, true, true, true, true, true, true, true, true, true, true, true, true, true, true, true, true, false, false, false, false]) (by kernel_rfl) rfl (by kernel_rfl) (by kernel_rfl) (by kernel_rfl) (by kernel_rfl) (YI_no rfl) ?_
                refine Wt_take (i := 17) (listed' := #[true, true, true, true, true, true, true, true, true, true, true, true, true, true, true, true, true, true, false, false, false]) (by kernel_rfl) rfl (by kernel_rfl) (by kernel_rfl) (by kernel_rfl) (by kernel_rfl) (YI_no rfl) ?_
                refine Wt_take (i := 18) (listed' := #[true, true, true, true, true, true, true, true, true, true, true, true, true, true, true, true, true, true, true, false, false]) (by kernel_rfl) rfl (by kernel_rfl) (by kernel_rfl) (by kernel_rfl) (by kernel_rfl) (YI_no rfl) ?_
                refine Wt_take (i := 19) (listed' := #[true, true, true, true, true, true, true, true, true, true, true, true, true, true, true, true, true, true, true, true, false]) (by kernel_rfl) rfl (by kernel_rfl) (by kernel_rfl) (by kernel_rfl) (by kernel_rfl) (YI_no rfl) ?_
                refine Wt_take (i := 20) (listed' := #[true, true, true, true, true, true, true, true, true, true, true, true, true, true, true, true, true, true, true, true, true]) (by kernel_rfl) rfl (by kernel_rfl) (by kernel_rfl) (by kernel_rfl) (by kernel_rfl) (YI_v rfl (fun w' hw' => r_pick_f (v := .bool false) rfl rfl)) ?_
                intro w7 hU7
                have hzw7 := hU7.size
                replace hs := hs.upd0 hU7
                replace HU := HU.trans0 hU7
                replace hO1 := hO1.upd0 hU7
                replace HL2 := HL2.trans0 hU7
                refine Wa_done (by kernel_rfl) ?_
                refine W_cond_f rfl ?_
                refine W_skip ?_
                refine W_region ?_
                refine Wl_v (r_mv (v := .int .i64 ((k : Nat) : Int)) rfl) ?_
                refine Wl_v (r_add rfl rfl (wi64 (by omega) (by omega))) ?_
                refine Wl_v (r_as (v := .int .i64 (((k : Nat) : Int) + 1)) rfl) ?_
                refine Wl_nil ?_
                refine ⟨_, ?_, (k + 1), rfl, rfl, ⟨rfl, rfl, rfl, (by first | rfl | exact vint (by omega) | exact vint (by simp)), trivial⟩, (by omega), (fun i hi => by rcases Nat.lt_or_ge i k with h | h; exact hall i h; rw [show i = k from by omega]; exact (show qrd bits m ((cds l).getD k (0, 0)) = false by unfold qrd; rw [decide_eq_false_iff_not]; exact fun h => by omega)), HL2⟩
                omega
            · rw [decide_eq_false q6]
              refine W_cond_f rfl ?_
              refine W_exit ?_
              refine W_seq ?_
              refine W_region ?_
              refine Wl_v (r_as (v := .int .i64 0) rfl) ?_
              refine Wl_v (r_as (v := .int .i64 0) rfl) ?_
              refine Wl_v (r_as (v := .int .i64 3) rfl) ?_
              refine Wl_nil ?_
              refine W_ret ?_
              refine ret_end (v := .tuple #[.int .i64 0, .int .i64 0, .int .i64 3]) rfl (res3 Try.results23 rfl rfl rfl) ?_
              have hfx := fidx_none (0, 0) (q := qrd bits m) (l := cds l) (fun i hi => hall i (by rw [cds_len] at hi; omega))
              rw [dec_short q1 (show Va bits m from ⟨by omega, by have hp0 := pdiv0 bits m (by omega); omega⟩) (by omega)]
              exact ⟨_, rfl, (vtup3 (by first | rfl | exact vint (by omega)) (by first | rfl | exact vint (by omega)) (by first | rfl | exact vint (by omega))), HU⟩
        · rw [decide_eq_false q4]
          refine Wl_guard_f rfl ?_
          refine Wl_guard_f rfl ?_
          refine Wl_guard_f rfl ?_
          refine Wl_guard_f rfl ?_
          refine Wl_guard_t rfl ?_
          refine Wl_v (r_pick_f (v := .bool false) rfl rfl) ?_
          refine Wl_v (r_pick_f (v := .bool false) rfl rfl) ?_
          refine Wl_nil ?_
          refine W_cond_f rfl ?_
          refine W_skip ?_
          refine W_seq ?_
          refine W_seq ?_
          refine W_region ?_
          refine Wl_v (r_as (v := .int .i64 0) rfl) ?_
          refine Wl_nil ?_
          refine W_block ?_
          refine W_loop (fun mu ρ ds w' => ∃ (k : Nat), n - k = mu ∧ ds = [] ∧ Liv ρ [(1, .int .u64 bits), (2, .int .i64 m), (9, .slice a1 n c1), (11, .int .i64 ((k : Nat) : Int))] ∧ k ≤ n ∧ (∀ i, i < k → qrd bits m ((cds l).getD i (0, 0)) = false) ∧ Upd No w1 w') _ ⟨0, rfl, rfl, ⟨rfl, rfl, rfl, (by first | rfl | exact vint (by omega) | exact vint (by simp)), trivial⟩, (by omega), (fun i hi => absurd hi (by omega)), Upd.refl _ _⟩ ?_
          rintro m8 ρ8 ds8 w8 ⟨k, rfl, rfl, hl8, hk, hall, hU8⟩
          obtain ⟨ρ8x, rfl⟩ : ∃ ρx, ρ8 = upds ρx [(1, .int .u64 bits), (2, .int .i64 m), (9, .slice a1 n c1), (11, .int .i64 ((k : Nat) : Int))] := ⟨_, upds_self hl8⟩
          clear hl8
          have hzw8 := hU8.size
          replace hs := hs.upd0 hU8
          replace HU := HU.trans0 hU8
          replace hO1 := hO1.upd0 hU8
          have HL8 := hU8
          refine W_seq ?_
          refine W_seq ?_
          refine W_region ?_
          refine Wl_v (r_mv (v := .int .i64 ((k : Nat) : Int)) rfl) ?_
          refine Wl_v (r_mv (v := .slice a1 n c1) rfl) ?_
          refine Wl_v (r_len Try.underlying28 rfl) ?_
          refine Wl_v (r_lt rfl rfl) ?_
          refine Wl_nil ?_
          by_cases q10 : ((k : Nat) : Int) < ((n : Nat) : Int)
          · rw [decide_eq_true q10]
            refine W_cond_t rfl ?_
            refine W_skip ?_
            refine W_seq ?_
            refine W_block ?_
            refine W_seq ?_
            refine W_region ?_
            refine Wl_v (r_mv (v := .slice a1 n c1) rfl) ?_
            refine Wl_v (r_mv (v := .int .i64 ((k : Nat) : Int)) rfl) ?_
            refine Wl_idxr (0, 0) encC_len (by decide) Try.underlying28 Try.sizeOf37 rfl rfl hO1.sl (by omega) (by omega) ?_
            intro ib9 io9 hc9
            try rw [Int.toNat_natCast] at hc9
            refine Wl_v (r_fld Try.underlying37 rfl Try.sizeOf3 rfl rfl) ?_
            refine Wl_loadc (v := .int .i64 (((cds l).getD k (0, 0)).1)) Try.isAgg3 rfl (hc9 0 (by decide)) ?_
            refine Wl_v (r_as (v := .int .i64 (((cds l).getD k (0, 0)).1)) rfl) ?_
            refine Wl_nil ?_
            refine W_seq ?_
            refine W_drawt rfl (l0 := #[false, false, false, false, false, false, false, false, false, false, false, false, false, false, false, false, false, false, false, false, false]) (by kernel_rfl) ?_
            refine Wt_take (i := 0) (listed' := #[true, false, false, false, false, false, false, false, false, false, false, false, false, false, false, false, false, false, false, false, false]) (by kernel_rfl) rfl (by kernel_rfl) (by kernel_rfl) (by kernel_rfl) (by kernel_rfl) (YI_v (v := .int .i64 (((cds l).getD k (0, 0)).1)) rfl (fun w' hw' => r_mv (v := .int .i64 (((cds l).getD k (0, 0)).1)) rfl)) ?_
            refine Wt_take (i := 1) (listed' := #[true, true, false, false, false, false, false, false, false, false, false, false, false, false, false, false, false, false, false, false, false]) (by kernel_rfl) rfl (by kernel_rfl) (by kernel_rfl) (by kernel_rfl) (by kernel_rfl) (YI_v (v := .bool (decide (0 < (((cds l).getD k (0, 0)).1)))) rfl (fun w' hw' => r_gt rfl rfl)) ?_
            refine Wt_take (i := 2) (listed' := #[true, true, true, false, false, false, false, false, false, false, false, false, false, false, false, false, false, false, false, false, false]) (by kernel_rfl) rfl (by kernel_rfl) (by kernel_rfl) (by kernel_rfl) (by kernel_rfl) (YI_v (v := .bool (decide (0 < (((cds l).getD k (0, 0)).1)))) rfl (fun w' hw' => r_mv (v := .bool (decide (0 < (((cds l).getD k (0, 0)).1)))) rfl)) ?_
            by_cases q11 : 0 < (((cds l).getD k (0, 0)).1)
            · have hcb := cds_bd hr k
              rw [decide_eq_true q11]
              refine Wt_take (i := 3) (listed' := #[true, true, true, true, false, false, false, false, false, false, false, false, false, false, false, false, false, false, false, false, false]) (by kernel_rfl) rfl (by kernel_rfl) (by kernel_rfl) (by kernel_rfl) (by kernel_rfl) (YI_v (v := .int .i64 (((cds l).getD k (0, 0)).1)) rfl (fun w' hw' => r_mv (v := .int .i64 (((cds l).getD k (0, 0)).1)) rfl)) ?_
              refine Wt_take (i := 4) (listed' := #[true, true, true, true, true, false, false, false, false, false, false, false, false, false, false, false, false, false, false, false, false]) (by kernel_rfl) rfl (by kernel_rfl) (by kernel_rfl) (by kernel_rfl) (by kernel_rfl) (YI_v (v := .int .i64 m) rfl (fun w' hw' => r_mv (v := .int .i64 m) rfl)) ?_
              refine Wt_take (i := 5) (listed' := #[true, true, true, true, true, true, false, false, false, false, false, false, false, false, false, false, false, false, false, false, false]) (by kernel_rfl) rfl (by kernel_rfl) (by kernel_rfl) (by kernel_rfl) (by kernel_rfl) (YI_v (v := .bool (decide ((((cds l).getD k (0, 0)).1) ≤ m))) rfl (fun w' hw' => r_le rfl rfl)) ?_
              refine Wt_take (i := 6) (listed' := #[true, true, true, true, true, true, true, false, false, false, false, false, false, false, false, false, false, false, false, false, false]) (by kernel_rfl) rfl (by kernel_rfl) (by kernel_rfl) (by kernel_rfl) (by kernel_rfl) (YI_v rfl (fun w' hw' => r_pick_t (v := .bool (decide ((((cds l).getD k (0, 0)).1) ≤ m))) rfl rfl)) ?_
              refine Wt_take (i := 7) (listed' := #[true, true, true, true, true, true, true, true, false, false, false, false, false, false, false, false, false, false, false, false, false]) (by kernel_rfl) rfl (by kernel_rfl) (by kernel_rfl) (by kernel_rfl) (by kernel_rfl) (YI_v (v := .bool (decide ((((cds l).getD k (0, 0)).1) ≤ m))) rfl (fun w' hw' => r_mv (v := .bool (decide ((((cds l).getD k (0, 0)).1) ≤ m))) rfl)) ?_
              by_cases q12 : (((cds l).getD k (0, 0)).1) ≤ m
              · have hcb := cds_bd hr k
                rw [decide_eq_true q12]
                refine Wt_take (i := 8) (listed' := #[true, true, true, true, true, true, true, true, true, false, false, false, false, false, false, false, false, false, false, false, false]) (by kernel_rfl) rfl (by kernel_rfl) (by kernel_rfl) (by kernel_rfl) (by kernel_rfl) (YI_v (v := .int .u64 bits) rfl (fun w' hw' => r_mv (v := .int .u64 bits) rfl)) ?_
                refine Wt_take (i := 9) (listed' := #[true, true, true, true, true, true, true, true, true, true, false, false, false, false, false, false, false, false, false, false, false]) (by kernel_rfl) rfl (by kernel_rfl) (by kernel_rfl) (by kernel_rfl) (by kernel_rfl) (YI_v (v := .int .i64 m) rfl (fun w' hw' => r_mv (v := .int .i64 m) rfl)) ?_
                refine Wt_take (i := 10) (listed' := #[true, true, true, true, true, true, true, true, true, true, true, false, false, false, false, false, false, false, false, false, false]) (by kernel_rfl) rfl (by kernel_rfl) (by kernel_rfl) (by kernel_rfl) (by kernel_rfl) (YI_v (v := .int .i64 (((cds l).getD k (0, 0)).1)) rfl (fun w' hw' => r_mv (v := .int .i64 (((cds l).getD k (0, 0)).1)) rfl)) ?_
                refine Wt_take (i := 11) (listed' := #[true, true, true, true, true, true, true, true, true, true, true, true, false, false, false, false, false, false, false, false, false]) (by kernel_rfl) rfl (by kernel_rfl) (by kernel_rfl) (by kernel_rfl) (by kernel_rfl) (YI_v (v := .int .i64 (m - (((cds l).getD k (0, 0)).1))) rfl (fun w' hw' => r_sub rfl rfl (wi64 (by omega) (by omega)))) ?_
                refine Wt_take (i := 12) (listed' := #[true, true, true, true, true, true, true, true, true, true, true, true, true, false, false, false, false, false, false, false, false]) (by kernel_rfl) rfl (by kernel_rfl) (by kernel_rfl) (by kernel_rfl) (by kernel_rfl) (YI_v (v := .int .u64 (bits / 2 ^ (min (m - (((cds l).getD k (0, 0)).1)).toNat IntKind.u64.bits))) rfl (fun w' hw' => r_shr rfl rfl (by omega) rfl)) ?_
                refine Wt_take (i := 13) (listed' := #[true, true, true, true, true, true, true, true, true, true, true, true, true, true, false, false, false, false, false, false, false]) (by kernel_rfl) rfl (by kernel_rfl) (by kernel_rfl) (by kernel_rfl) (by kernel_rfl) (YI_v (v := .slice a1 n c1) rfl (fun w' hw' => r_mv (v := .slice a1 n c1) rfl)) ?_
                refine Wt_take (i := 14) (listed' := #[true, true, true, true, true, true, true, true, true, true, true, true, true, true, true, false, false, false, false, false, false]) (by kernel_rfl) rfl (by kernel_rfl) (by kernel_rfl) (by kernel_rfl) (by kernel_rfl) (YI_v (v := .int .i64 ((k : Nat) : Int)) rfl (fun w' hw' => r_mv (v := .int .i64 ((k : Nat) : Int)) rfl)) ?_
                obtain ⟨ib10, io10, ha10, hib10, hc10⟩ := Sl.rat (0, 0) encC_len (by decide) (hO1.sl) (i := k) (by omega)
                refine Wt_take (i := 15) (listed' := #[true, true, true, true, true, true, true, true, true, true, true, true, true, true, true, true, false, false, false, false, false]) (by kernel_rfl) rfl (by kernel_rfl) (by kernel_rfl) (by kernel_rfl) (by kernel_rfl) (YI_v (v := .pointer (some ⟨ib10, io10 + k * 2, none⟩)) rfl (fun w' hw' => r_idx (b := ib10) (off := io10) (m := n) (c := c1) (o' := io10 + k * 2) Try.underlying28 Try.sizeOf37 (by rw [← ha10]; rfl) rfl (by omega) (by omega) (by omega))) ?_
                refine Wt_take (i := 16) (listed' := #[true, true, true, true, true, true, true, true, true, true, true, true, true, true, true, true, true, false, false, false, false]) (by kernel_rfl) rfl (by kernel_rfl) (by kernel_rfl) (by kernel_rfl) (by kernel_rfl) (YI_v (v := .pointer (some ⟨ib10, io10 + k * 2 + 1, none⟩)) rfl (fun w' hw' => r_fld Try.underlying37 rfl Try.sizeOf35 rfl rfl)) ?_
                refine Wt_take (i := 17) (listed' := #[true, true, true, true, true, true, true, true, true, true, true, true, true, true, true, true, true, true, false, false, false]) (by kernel_rfl) rfl (by kernel_rfl) (by kernel_rfl) (by kernel_rfl) (by kernel_rfl) (YI_v (v := .int .u32 (((cds l).getD k (0, 0)).2)) rfl (fun w' hw' => r_load (v := .int .u32 (((cds l).getD k (0, 0)).2)) Try.isAgg35 rfl (hw'.cellk (hc10 1 (by decide))))) ?_
                refine Wt_take (i := 18) (listed' := #[true, true, true, true, true, true, true, true, true, true, true, true, true, true, true, true, true, true, true, false, false]) (by kernel_rfl) rfl (by kernel_rfl) (by kernel_rfl) (by kernel_rfl) (by kernel_rfl) (YI_v (v := .int .u64 (((cds l).getD k (0, 0)).2)) rfl (fun w' hw' => r_cvt Try.underlying35 Try.underlying41 rfl (wu64 (by omega) (by omega)))) ?_
                refine Wt_take (i := 19) (listed' := #[true, true, true, true, true, true, true, true, true, true, true, true, true, true, true, true, true, true, true, true, false]) (by kernel_rfl) rfl (by kernel_rfl) (by kernel_rfl) (by kernel_rfl) (by kernel_rfl) (YI_v (v := .bool (decide ((bits / 2 ^ (min (m - (((cds l).getD k (0, 0)).1)).toNat IntKind.u64.bits)) = (((cds l).getD k (0, 0)).2)))) rfl (fun w' hw' => r_eq rfl rfl)) ?_
                refine Wt_take (i := 20) (listed' := #[true, true, true, true, true, true, true, true, true, true, true, true, true, true, true, true, true, true, true, true, true]) (by kernel_rfl) rfl (by kernel_rfl) (by kernel_rfl) (by kernel_rfl) (by kernel_rfl) (YI_v rfl (fun w' hw' => r_pick_t (v := .bool (decide ((bits / 2 ^ (min (m - (((cds l).getD k (0, 0)).1)).toNat IntKind.u64.bits)) = (((cds l).getD k (0, 0)).2)))) rfl rfl)) ?_
                intro w11 hU11
                have hzw11 := hU11.size
                replace hs := hs.upd0 hU11
                replace HU := HU.trans0 hU11
                replace hO1 := hO1.upd0 hU11
                replace HL8 := HL8.trans0 hU11
                refine Wa_done (by kernel_rfl) ?_
                by_cases q13 : (bits / 2 ^ (min (m - (((cds l).getD k (0, 0)).1)).toNat IntKind.u64.bits)) = (((cds l).getD k (0, 0)).2)
                · have hcb := cds_bd hr k
                  rw [decide_eq_true q13]
                  refine W_cond_t rfl ?_
                  refine W_seq ?_
                  refine W_region ?_
                  refine Wl_v (r_mv (v := .int .i64 ((k : Nat) : Int)) rfl) ?_
                  refine Wl_v (r_mv (v := .int .i64 (((cds l).getD k (0, 0)).1)) rfl) ?_
                  refine Wl_v (r_as (v := .int .i64 ((k : Nat) : Int)) rfl) ?_
                  refine Wl_v (r_as (v := .int .i64 (((cds l).getD k (0, 0)).1)) rfl) ?_
                  refine Wl_v (r_as (v := .int .i64 0) rfl) ?_
                  refine Wl_nil ?_
                  refine W_ret ?_
                  refine ret_end (v := .tuple #[.int .i64 ((k : Nat) : Int), .int .i64 (((cds l).getD k (0, 0)).1), .int .i64 0]) rfl (res3 Try.results23 rfl rfl rfl) ?_
                  have hfx := fidx_at (0, 0) (q := qrd bits m) (l := cds l) (k := k) (by rw [cds_len]; omega) hall (show qrd bits m ((cds l).getD k (0, 0)) = true by unfold qrd; rw [decide_eq_true_iff]; exact ⟨by omega, by omega, q13⟩)
                  rw [dec_ok q1 (show Va bits m from ⟨by omega, by have hp0 := pdiv0 bits m (by omega); omega⟩) (by omega), hfx]
                  exact ⟨_, rfl, (vtup3 (by first | rfl | exact vint (by omega)) (by first | rfl | exact vint (by omega)) (by first | rfl | exact vint (by omega))), HU⟩
                · have hcb := cds_bd hr k
                  rw [decide_eq_false q13]
                  refine W_cond_f rfl ?_
                  refine W_skip ?_
                  refine W_region ?_
                  refine Wl_v (r_mv (v := .int .i64 ((k : Nat) : Int)) rfl) ?_
                  refine Wl_v (r_add rfl rfl (wi64 (by omega) (by omega))) ?_
                  refine Wl_v (r_as (v := .int .i64 (((k : Nat) : Int) + 1)) rfl) ?_
                  refine Wl_nil ?_
                  refine ⟨_, ?_, (k + 1), rfl, rfl, ⟨rfl, rfl, rfl, (by first | rfl | exact vint (by omega) | exact vint (by simp)), trivial⟩, (by omega), (fun i hi => by rcases Nat.lt_or_ge i k with h | h; exact hall i h; rw [show i = k from by omega]; exact (show qrd bits m ((cds l).getD k (0, 0)) = false by unfold qrd; rw [decide_eq_false_iff_not]; exact fun h => q13 h.2.2)), HL8⟩
                  omega
              · have hcb := cds_bd hr k
                rw [decide_eq_false q12]
                refine Wt_take (i := 8) (listed' := #[true, true, true, true, true, true, true, true, true, false, false, false, false, false, false, false, false, false, false, false, false]) (by kernel_rfl) rfl (by kernel_rfl) (by kernel_rfl) (by kernel_rfl) (by kernel_rfl) (YI_no rfl) ?_
                refine Wt_take (i := 9) (listed' := #[true, true, true, true, true, true, true, true, true, true, false, false, false, false, false, false, false, false, false, false, false]) (by kernel_rfl) rfl (by kernel_rfl) (by kernel_rfl) (by kernel_rfl) (by kernel_rfl) (YI_no rfl) ?_
                refine Wt_take (i := 10) (listed' := #[true, true, true, true, true, true, true, true, true, true, true, false, false, false, false, false, false, false, false, false, false]) (by kernel_rfl) rfl (by kernel_rfl) (by kernel_rfl) (by kernel_rfl) (by kernel_rfl) (YI_no rfl) ?_
                refine Wt_take (i := 11) (listed' := #[true, true, true, true, true, true, true, true, true, true, true, true, false, false, false, false, false, false, false, false, false]) (by kernel_rfl) rfl (by kernel_rfl) (by kernel_rfl) (by kernel_rfl) (by kernel_rfl) (YI_no rfl) ?_
                refine Wt_take (i := 12) (listed' := #[true, true, true, true, true, true, true, true, true, true, true, true, true, false, false, false, false, false, false, false, false]) (by kernel_rfl) rfl (by kernel_rfl) (by kernel_rfl) (by kernel_rfl) (by kernel_rfl) (YI_no rfl) ?_
                refine Wt_take (i := 13) (listed' := #[true, true, true, true, true, true, true, true, true, true, true, true, true, true, false, false, false, false, false, false, false]) (by kernel_rfl) rfl (by kernel_rfl) (by kernel_rfl) (by kernel_rfl) (by kernel_rfl) (YI_no rfl) ?_
                refine Wt_take (i := 14) (listed' := #[true, true, true, true, true, true, true, true, true, true, true, true, true, true, true, false, false, false, false, false, false]) (by kernel_rfl) rfl (by kernel_rfl) (by kernel_rfl) (by kernel_rfl) (by kernel_rfl) (YI_no rfl) ?_
                refine Wt_take (i := 15) (listed' := #[true, true, true, true, true, true, true, true, true, true, true, true, true, true, true, true, false, false, false, false, false]) (by kernel_rfl) rfl (by kernel_rfl) (by kernel_rfl) (by kernel_rfl) (by kernel_rfl) (YI_no rfl) ?_
                refine Wt_take (i := 16) (listed' := #[true, true, true, true, true, true, true, true, true, true, true, true, true, true, true, true, true, false, false, false, false]) (by kernel_rfl) rfl (by kernel_rfl) (by kernel_rfl) (by kernel_rfl) (by kernel_rfl) (YI_no rfl) ?_
                refine Wt_take (i := 17) (listed' := #[true, true, true, true, true, true, true, true, true, true, true, true, true, true, true, true, true, true, false, false, false]) (by kernel_rfl) rfl (by kernel_rfl) (by kernel_rfl) (by kernel_rfl) (by kernel_rfl) (YI_no rfl) ?_
                refine Wt_take (i := 18) (listed' := #[true, true, true, true, true, true, true, true, true, true, true, true, true, true, true, true, true, true, true, false, false]) (by kernel_rfl) rfl (by kernel_rfl) (by kernel_rfl) (by kernel_rfl) (by kernel_rfl) (YI_no rfl) ?_
                refine Wt_take (i := 19) (listed' := #[true, true, true, true, true, true, true, true, true, true, true, true, true, true, true, true, true, true, true, true, false]) (by kernel_rfl) rfl (by kernel_rfl) (by kernel_rfl) (by kernel_rfl) (by kernel_rfl) (YI_no rfl) ?_
                refine Wt_take (i := 20) (listed' := #[true, true, true, true, true, true, true, true, true, true, true, true, true, true, true, true, true, true, true, true, true]) (by kernel_rfl) rfl (by kernel_rfl) (by kernel_rfl) (by kernel_rfl) (by kernel_rfl) (YI_v rfl (fun w' hw' => r_pick_f (v := .bool false) rfl rfl)) ?_
                intro w12 hU12
                have hzw12 := hU12.size
                replace hs := hs.upd0 hU12
                replace HU := HU.trans0 hU12
                replace hO1 := hO1.upd0 hU12
                replace HL8 := HL8.trans0 hU12
                refine Wa_done (by kernel_rfl) ?_
                refine W_cond_f rfl ?_
                refine W_skip ?_
                refine W_region ?_
                refine Wl_v (r_mv (v := .int .i64 ((k : Nat) : Int)) rfl) ?_
                refine Wl_v (r_add rfl rfl (wi64 (by omega) (by omega))) ?_
                refine Wl_v (r_as (v := .int .i64 (((k : Nat) : Int) + 1)) rfl) ?_
                refine Wl_nil ?_
                refine ⟨_, ?_, (k + 1), rfl, rfl, ⟨rfl, rfl, rfl, (by first | rfl | exact vint (by omega) | exact vint (by simp)), trivial⟩, (by omega), (fun i hi => by rcases Nat.lt_or_ge i k with h | h; exact hall i h; rw [show i = k from by omega]; exact (show qrd bits m ((cds l).getD k (0, 0)) = false by unfold qrd; rw [decide_eq_false_iff_not]; exact fun h => by omega)), HL8⟩
                omega
            · have hcb := cds_bd hr k
              rw [decide_eq_false q11]
              refine Wt_take (i := 3) (listed' := #[true, true, true, true, false, false, false, false, false, false, false, false, false, false, false, false, false, false, false, false, false]) (by kernel_rfl) rfl (by kernel_rfl) (by kernel_rfl) (by kernel_rfl) (by kernel_rfl) (YI_no rfl) ?_
              refine Wt_take (i := 4) (listed' := #[true, true, true, true, true, false, false, false, false, false, false, false, false, false, false, false, false, false, false, false, false]) (by kernel_rfl) rfl (by kernel_rfl) (by kernel_rfl) (by kernel_rfl) (by kernel_rfl) (YI_no rfl) ?_
              refine Wt_take (i := 5) (listed' := #[true, true, true, true, true, true, false, false, false, false, false, false, false, false, false, false, false, false, false, false, false]) (by kernel_rfl) rfl (by kernel_rfl) (by kernel_rfl) (by kernel_rfl) (by kernel_rfl) (YI_no rfl) ?_
              refine Wt_take (i := 6) (listed' := #[true, true, true, true, true, true, true, false, false, false, false, false, false, false, false, false, false, false, false, false, false]) (by kernel_rfl) rfl (by kernel_rfl) (by kernel_rfl) (by kernel_rfl) (by kernel_rfl) (YI_v rfl (fun w' hw' => r_pick_f (v := .bool false) rfl rfl)) ?_
              refine Wt_take (i := 7) (listed' := #[true, true, true, true, true, true, true, true, false, false, false, false, false, false, false, false, false, false, false, false, false]) (by kernel_rfl) rfl (by kernel_rfl) (by kernel_rfl) (by kernel_rfl) (by kernel_rfl) (YI_v (v := .bool false) rfl (fun w' hw' => r_mv (v := .bool false) rfl)) ?_
              refine Wt_take (i := 8) (listed' := #[true, true, true, true, true, true, true, true, true, false, false, false, false, false, false, false, false, false, false, false, false]) (by kernel_rfl) rfl (by kernel_rfl) (by kernel_rfl) (by kernel_rfl) (by kernel_rfl) (YI_no rfl) ?_
              refine Wt_take (i := 9) (listed' := #[true, true, true, true, true, true, true, true, true, true, false, false, false, false, false, false, false, false, false, false, false]) (by kernel_rfl) rfl (by kernel_rfl) (by kernel_rfl) (by kernel_rfl) (by kernel_rfl) (YI_no rfl) ?_
              refine Wt_take (i := 10) (listed' := #[true, true, true, true, true, true, true, true, true, true, true, false, false, false, false, false, false, false, false, false, false]) (by kernel_rfl) rfl (by kernel_rfl) (by kernel_rfl) (by kernel_rfl) (by kernel_rfl) (YI_no rfl) ?_
              refine Wt_take (i := 11) (listed' := #[true, true, true, true, true, true, true, true, true, true, true, true, false, false, false, false, false, false, false, false, false]) (by kernel_rfl) rfl (by kernel_rfl) (by kernel_rfl) (by kernel_rfl) (by kernel_rfl) (YI_no rfl) ?_
              refine Wt_take (i := 12) (listed' := #[true, true, true, true, true, true, true, true, true, true, true, true, true, false, false, false, false, false, false, false, false]) (by kernel_rfl) rfl (by kernel_rfl) (by kernel_rfl) (by kernel_rfl) (by kernel_rfl) (YI_no rfl) ?_
              refine Wt_take (i := 13) (listed' := #[true, true, true, true, true, true, true, true, true, true, true, true, true, true, false, false, false, false, false, false, false]) (by kernel_rfl) rfl (by kernel_rfl) (by kernel_rfl) (by kernel_rfl) (by kernel_rfl) (YI_no rfl) ?_
              refine Wt_take (i := 14) (listed' := #[true, true, true, true, true, true, true, true, true, true, true, true, true, true, true, false, false, false, false, false, false]) (by kernel_rfl) rfl (by kernel_rfl) (by kernel_rfl) (by kernel_rfl) (by kernel_rfl) (YI_no rfl) ?_
              refine Wt_take (i := 15) (listed' := #[true, true, true, true, true, true, true, true, true, true, true, true, true, true, true, true, false, false, false, false, false]) (by kernel_rfl) rfl (by kernel_rfl) (by kernel_rfl) (by kernel_rfl) (by kernel_rfl) (YI_no rfl) ?_
              refine Wt_take (i := 16) (listed' := #[true, true, true, true, true, true, true, true, true, true, true, true, true, true, true, true, true, false, false, false, false]) (by kernel_rfl) rfl (by kernel_rfl) (by kernel_rfl) (by kernel_rfl) (by kernel_rfl) (YI_no rfl) ?_
              refine Wt_take (i := 17) (listed' := #[true, true, true, true, true, true, true, true, true, true, true, true, true, true, true, true, true, true, false, false, false]) (by kernel_rfl) rfl (by kernel_rfl) (by kernel_rfl) (by kernel_rfl) (by kernel_rfl) (YI_no rfl) ?_
              refine Wt_take (i := 18) (listed' := #[true, true, true, true, true, true, true, true, true, true, true, true, true, true, true, true, true, true, true, false, false]) (by kernel_rfl) rfl (by kernel_rfl) (by kernel_rfl) (by kernel_rfl) (by kernel_rfl) (YI_no rfl) ?_
              refine Wt_take (i := 19) (listed' := #[true, true, true, true, true, true, true, true, true, true, true, true, true, true, true, true, true, true, true, true, false]) (by kernel_rfl) rfl (by kernel_rfl) (by kernel_rfl) (by kernel_rfl) (by kernel_rfl) (YI_no rfl) ?_
              refine Wt_take (i := 20) (listed' := #[true, true, true, true, true, true, true, true, true, true, true, true, true, true, true, true, true, true, true, true, true]) (by kernel_rfl) rfl (by kernel_rfl) (by kernel_rfl) (by kernel_rfl) (by kernel_rfl) (YI_v rfl (fun w' hw' => r_pick_f (v := .bool false) rfl rfl)) ?_
              intro w13 hU13
              have hzw13 := hU13.size
              replace hs := hs.upd0 hU13
              replace HU := HU.trans0 hU13
              replace hO1 := hO1.upd0 hU13
              replace HL8 := HL8.trans0 hU13
              refine Wa_done (by kernel_rfl) ?_
              refine W_cond_f rfl ?_
              refine W_skip ?_
              refine W_region ?_
              refine Wl_v (r_mv (v := .int .i64 ((k : Nat) : Int)) rfl) ?_
              refine Wl_v (r_add rfl rfl (wi64 (by omega) (by omega))) ?_
              refine Wl_v (r_as (v := .int .i64 (((k : Nat) : Int) + 1)) rfl) ?_
              refine Wl_nil ?_
              refine ⟨_, ?_, (k + 1), rfl, rfl, ⟨rfl, rfl, rfl, (by first | rfl | exact vint (by omega) | exact vint (by simp)), trivial⟩, (by omega), (fun i hi => by rcases Nat.lt_or_ge i k with h | h; exact hall i h; rw [show i = k from by omega]; exact (show qrd bits m ((cds l).getD k (0, 0)) = false by unfold qrd; rw [decide_eq_false_iff_not]; exact fun h => by omega)), HL8⟩
              omega
          · rw [decide_eq_false q10]
            refine W_cond_f rfl ?_
            refine W_exit ?_
            refine W_seq ?_
            refine W_region ?_
            refine Wl_v (r_as (v := .int .i64 0) rfl) ?_
            refine Wl_v (r_as (v := .int .i64 0) rfl) ?_
            refine Wl_v (r_as (v := .int .i64 3) rfl) ?_
            refine Wl_nil ?_
            refine W_ret ?_
            refine ret_end (v := .tuple #[.int .i64 0, .int .i64 0, .int .i64 3]) rfl (res3 Try.results23 rfl rfl rfl) ?_
            have hfx := fidx_none (0, 0) (q := qrd bits m) (l := cds l) (fun i hi => hall i (by rw [cds_len] at hi; omega))
            rw [dec_short q1 (show Va bits m from ⟨by omega, by have hp0 := pdiv0 bits m (by omega); omega⟩) (by omega)]
            exact ⟨_, rfl, (vtup3 (by first | rfl | exact vint (by omega)) (by first | rfl | exact vint (by omega)) (by first | rfl | exact vint (by omega))), HU⟩
  · refine Wl_call (r_call1 rfl Try.call17 rfl) (rcodes_no _ hs (by omega) q1) ?_
    rintro v w14 ⟨rfl, hU14⟩
    have hzw14 := hU14.size
    replace hs := hs.upd0 hU14
    replace HU := HU.trans0 hU14
    refine Wl_v (r_mv (v := .tuple #[.slice none 0 0, .int .i64 12]) rfl) ?_
    refine Wl_v (r_ext (v := .slice none 0 0) rfl rfl) ?_
    refine Wl_v (r_ext (v := .int .i64 12) rfl rfl) ?_
    refine Wl_v (r_as (v := .slice none 0 0) rfl) ?_
    refine Wl_v (r_as (v := .int .i64 12) rfl) ?_
    refine Wl_nil ?_
    refine W_seq ?_
    refine W_seq ?_
    refine W_region ?_
    refine Wl_v (r_mv (v := .int .i64 12) rfl) ?_
    refine Wl_v (v := .bool true) (r_ne (a := 12) (b := 0) rfl rfl) ?_
    refine Wl_nil ?_
    refine W_cond_t rfl ?_
    refine W_seq ?_
    refine W_region ?_
    refine Wl_v (r_mv (v := .int .i64 12) rfl) ?_
    refine Wl_v (r_as (v := .int .i64 0) rfl) ?_
    refine Wl_v (r_as (v := .int .i64 0) rfl) ?_
    refine Wl_v (r_as (v := .int .i64 12) rfl) ?_
    refine Wl_nil ?_
    refine W_ret ?_
    refine ret_end (v := .tuple #[.int .i64 0, .int .i64 0, .int .i64 12]) rfl (res3 Try.results23 rfl rfl rfl) ?_
    rw [dec_no q1]
    exact ⟨_, rfl, (vtup3 (by first | rfl | exact vint (by omega)) (by first | rfl | exact vint (by omega)) (by first | rfl | exact vint (by omega))), HU⟩

set_option maxRecDepth 100000 in
theorem rof_spec {a : Option Addr} {n c : Nat} {cs : List (Int × Int)} {R : Nat → Prop} (w : World) (hs : Sl w R 2 (.slice a n c) n (rows encC cs)) (hn : n ≤ 17592186044415) :
    Calls Try.prog 25 #[.slice a n c] w (Ret fun v w' => ∃ (a' : Option Addr) (n' : Nat) (c' : Nat), v = .tuple #[.slice a' n' c', .int .i64 ((ofc cs).2)] ∧ Own w' (fun g => w.heap.size ≤ g) 3 1 (.slice a' n' c') n' (ints .i64 ((ofc cs).1)) ∧ Upd No w w') := by
  have HU : Upd (fun b => False) w w := Upd.refl _ _
  have hl_hs := rlen encC_len (by decide) hs
  have hc_hs := hs.cap.1
  replace hs := hs.tight
  refine calls_of_W Try.func25 rfl Try.ntmps25 (by simp) ?_
  refine W_seq ?_
  refine W_region ?_
  refine Wl_v (r_as (v := .slice none 0 0) rfl) ?_
  refine Wl_v (r_as (v := .int .i64 0) rfl) ?_
  refine Wl_nil ?_
  refine W_seq ?_
  refine W_seq ?_
  refine W_region ?_
  refine Wl_v (r_mv (v := .slice a n c) rfl) ?_
  refine Wl_v (r_len Try.underlying28 rfl) ?_
  refine Wl_v (r_gt rfl rfl) ?_
  refine Wl_nil ?_
  by_cases q1 : 256 < ((n : Nat) : Int)
  · rw [decide_eq_true q1]
    refine W_cond_t rfl ?_
    refine W_seq ?_
    refine W_region ?_
    refine Wl_v (r_as (v := .slice none 0 0) rfl) ?_
    refine Wl_v (r_as (v := .int .i64 2) rfl) ?_
    refine Wl_nil ?_
    refine W_ret ?_
    refine ret_end (v := .tuple #[.slice none 0 0, .int .i64 2]) rfl (res2 Try.results25 rfl rfl) ?_
    rw [ofc_arg (fun h => by omega)]
    exact ⟨_, rfl, none, 0, 0, (vtup2 rfl (by first | rfl | exact vint (by omega))), (by first | exact Own.nil _ _ 3 1 | simpa using Own.nil _ _ 3 1), HU⟩
  · rw [decide_eq_false q1]
    refine W_cond_f rfl ?_
    refine W_skip ?_
    refine W_seq ?_
    refine W_region ?_
    refine Wl_v (r_as (v := .slice none 0 0) rfl) ?_
    refine Wl_nil ?_
    refine W_seq ?_
    refine W_seq ?_
    refine W_region ?_
    refine Wl_v (r_as (v := .int .i64 0) rfl) ?_
    refine Wl_nil ?_
    refine W_block ?_
    refine W_loop (fun mu ρ ds w' => ∃ (k : Nat) (a2 : Option Addr) (c2 : Nat), n - k = mu ∧ ds = [] ∧ Liv ρ [(0, .slice a n c), (4, .slice a2 k c2), (5, .int .i64 ((k : Nat) : Int))] ∧ k ≤ n ∧ (∀ i, i < k → qbad (cs.getD i (0, 0)) = false) ∧ Own w' (fun g => w.heap.size ≤ g) 3 1 (.slice a2 k c2) k (ints .i64 (lns (cs.take k))) ∧ Upd (fun g => w.heap.size ≤ g) w w') _ ⟨0, none, 0, rfl, rfl, ⟨rfl, (by first | rfl | exact vint (by omega) | exact vint (by simp)), (by first | rfl | exact vint (by omega) | exact vint (by simp)), trivial⟩, (by omega), (fun i hi => absurd hi (by omega)), (Own.nil _ _ _ _), Upd.refl _ _⟩ ?_
    rintro m1 ρ1 ds1 w1 ⟨k, a2, c2, rfl, rfl, hl1, hk, hall, hO, hU1⟩
    obtain ⟨ρ1x, rfl⟩ : ∃ ρx, ρ1 = upds ρx [(0, .slice a n c), (4, .slice a2 k c2), (5, .int .i64 ((k : Nat) : Int))] := ⟨_, upds_self hl1⟩
    clear hl1
    have hzw1 := hU1.size
    replace hs := hs.upd hU1 (by intro x h1 h2; have h3 : ((R x) ∧ x < w.heap.size) := h1; have h4 : w.heap.size ≤ x := h2; omega)
    replace HU := HU.trans hU1 (by intro x hx; have hx2 : w.heap.size ≤ x := hx; show (False) ∨ w.heap.size ≤ x; omega)
    have HL1 := hU1
    refine W_seq ?_
    refine W_seq ?_
    refine W_region ?_
    refine Wl_v (r_mv (v := .int .i64 ((k : Nat) : Int)) rfl) ?_
    refine Wl_v (r_mv (v := .slice a n c) rfl) ?_
    refine Wl_v (r_len Try.underlying28 rfl) ?_
    refine Wl_v (r_lt rfl rfl) ?_
    refine Wl_nil ?_
    by_cases q2 : ((k : Nat) : Int) < ((n : Nat) : Int)
    · replace hO := hO.tight
      rw [decide_eq_true q2]
      refine W_cond_t rfl ?_
      refine W_skip ?_
      refine W_seq ?_
      refine W_block ?_
      refine W_seq ?_
      refine W_seq ?_
      refine W_region ?_
      refine Wl_v (r_mv (v := .slice a n c) rfl) ?_
      refine Wl_v (r_mv (v := .int .i64 ((k : Nat) : Int)) rfl) ?_
      refine Wl_idxr (0, 0) encC_len (by decide) Try.underlying28 Try.sizeOf37 rfl rfl hs (by omega) (by omega) ?_
      intro ib2 io2 hc2
      try rw [Int.toNat_natCast] at hc2
      refine Wl_v (r_loada (cs := [.int .i64 ((cs.getD k (0, 0)).1), .int .u32 ((cs.getD k (0, 0)).2)]) Try.isAgg37 Try.sizeOf37 rfl rfl hc2) ?_
      refine Wl_v (r_build (pl := #[(0, 1), (1, 1)]) (pv := []) (cs := #[.int .i64 0, .int .u32 0]) Try.zeroValue37 Try.underlying37 (fun w => by kernel_rfl) (by simp only [List.map_toArray, List.map_cons, List.map_nil] <;> rfl) (by kernel_rfl)) ?_
      refine Wl_v (r_neag (pp := ((cs.getD k (0, 0)).1) = 0 ∧ ((cs.getD k (0, 0)).2) = 0) Try.underlying37 (by kernel_rfl) (by kernel_rfl) rfl rfl (fun w => eqf_int (by decide) Try.underlying3 Try.isAgg3 rfl rfl (fun w => eqf_int (by decide) Try.underlying35 Try.isAgg35 rfl rfl (fun w => eqf_nil))) (by simp [Bool.decide_and])) ?_
      refine Wl_v (r_mv (v := .bool (!decide (((cs.getD k (0, 0)).1) = 0 ∧ ((cs.getD k (0, 0)).2) = 0))) rfl) ?_
      by_cases q3 : ((cs.getD k (0, 0)).1) = 0 ∧ ((cs.getD k (0, 0)).2) = 0
      · rw [decide_eq_true q3]
        simp only [Bool.not_true, Bool.not_false]
        refine Wl_guard_f rfl ?_
        refine Wl_guard_f rfl ?_
        refine Wl_guard_f rfl ?_
        refine Wl_guard_f rfl ?_
        refine Wl_guard_f rfl ?_
        refine Wl_guard_f rfl ?_
        refine Wl_v (r_pick_f (v := .bool false) rfl rfl) ?_
        refine Wl_nil ?_
        refine W_cond_f rfl ?_
        refine W_skip ?_
        refine W_region ?_
        refine Wl_v (r_mv (v := .slice a2 k c2) rfl) ?_
        refine Wl_v (r_mv (v := .slice a n c) rfl) ?_
        refine Wl_v (r_mv (v := .int .i64 ((k : Nat) : Int)) rfl) ?_
        refine Wl_idxr (0, 0) encC_len (by decide) Try.underlying28 Try.sizeOf37 rfl rfl hs (by omega) (by omega) ?_
        intro ib3 io3 hc3
        try rw [Int.toNat_natCast] at hc3
        refine Wl_v (r_fld Try.underlying37 rfl Try.sizeOf3 rfl rfl) ?_
        refine Wl_loadc (v := .int .i64 ((cs.getD k (0, 0)).1)) Try.isAgg3 rfl (hc3 0 (by decide)) ?_
        refine Wl_lit (pv := [(0, .int .i64 ((cs.getD k (0, 0)).1))]) (cs := [.int .i64 ((cs.getD k (0, 0)).1)]) Try.underlying22 Try.sizeOf3 Try.zeroValue3 (by decide) (by decide) (by simp only [List.map_toArray, List.map_cons, List.map_nil] <;> rfl) (by kernel_rfl) rfl (by decide) ?_
        intro B4 w4 hB4 hU4 hzz4 hs4
        have hzw4 := hU4.size
        replace hs := hs.upd0 hU4
        replace HU := HU.trans0 hU4
        replace hO := hO.upd0 hU4
        replace HL1 := HL1.trans0 hU4
        replace hs4 : Own w4 (Is B4) 3 1 (.slice (some ⟨B4, 0, none⟩) 1 1) 1 (ints .i64 [(cs.getD k (0, 0)).1]) := hs4
        refine Wl_appendi (xs := lns (cs.take k)) (ys := [(cs.getD k (0, 0)).1]) (zs := (lns (cs.take k)) ++ [(cs.getD k (0, 0)).1]) (k' := .i64) (tot := k + 1) (by first | rfl | simp) Try.underlying22 (ti := Try.t3) (z := .int .i64 0) (sz := 1) (by' := 8) rfl rfl rfl rfl rfl (by decide) rfl hO rfl hs4.sl  (by omega) (by simp only [maxLen]; omega) (by omega) ?_
        intro a5 c5 w5 hU5 hzz5 hO5
        clear hO
        have hzw5 := hU5.size
        replace hs := hs.upd hU5 (by intro x h1 h2; have h3 : ((R x) ∧ x < w.heap.size) := h1; have h4 : ((w.heap.size ≤ x) ∧ x < w1.heap.size) := h2; omega)
        replace HU := HU.trans hU5 (by intro x hx; have hx2 : ((w.heap.size ≤ x) ∧ x < w1.heap.size) := hx; show (False) ∨ w.heap.size ≤ x; omega)
        replace HL1 := HL1.trans hU5 (by intro x hx; have hx2 : ((w.heap.size ≤ x) ∧ x < w1.heap.size) := hx; show (w.heap.size ≤ x) ∨ w.heap.size ≤ x; omega)
        replace hs4 := hs4.upd hU5 (by intro x h1 h2; have h3 : x = B4 := h1; have h4 : ((w.heap.size ≤ x) ∧ x < w1.heap.size) := h2; omega)
        replace hO5 := hO5.tight
        have hl_hO5 := ilen hO5.sl
        have hc_hO5 := hO5.sl.cap.1
        refine Wl_v (r_as (v := .slice a5 (k + 1) c5) rfl) ?_
        refine Wl_nil ?_
        refine W_region ?_
        refine Wl_v (r_mv (v := .int .i64 ((k : Nat) : Int)) rfl) ?_
        refine Wl_v (r_add rfl rfl (wi64 (by omega) (by omega))) ?_
        refine Wl_v (r_as (v := .int .i64 (((k : Nat) : Int) + 1)) rfl) ?_
        refine Wl_nil ?_
        refine ⟨_, ?_, (k + 1), a5, c5, rfl, rfl, ⟨rfl, (by first | rfl | exact vint (by omega) | exact vint (by simp)), (Eq.trans (b := .int .i64 (((k : Nat) : Int) + 1)) rfl (vint (by omega))), trivial⟩, (by omega), (fun i hi => by rcases Nat.lt_or_ge i k with h | h; exact hall i h; rw [show i = k from by omega]; exact (Bool.eq_false_iff.2 (qbad_z q3))), ((hO5.weak (by intro g hg; have h3 : ((((((w.heap.size ≤ g) ∧ g < w1.heap.size)) ∨ g = w4.heap.size)) ∧ g < w5.heap.size) := hg; show _ ≤ _; omega)).icong (lns_take cs (by omega)).symm), HL1⟩
        omega
      · rw [decide_eq_false q3]
        simp only [Bool.not_true, Bool.not_false]
        refine Wl_guard_t rfl ?_
        refine Wl_v (r_mv (v := .slice a n c) rfl) ?_
        refine Wl_guard_t rfl ?_
        refine Wl_v (r_mv (v := .int .i64 ((k : Nat) : Int)) rfl) ?_
        refine Wl_guard_t rfl ?_
        refine Wl_idxr (0, 0) encC_len (by decide) Try.underlying28 Try.sizeOf37 rfl rfl hs (by omega) (by omega) ?_
        intro ib6 io6 hc6
        try rw [Int.toNat_natCast] at hc6
        refine Wl_guard_t rfl ?_
        refine Wl_v (r_loada (cs := [.int .i64 ((cs.getD k (0, 0)).1), .int .u32 ((cs.getD k (0, 0)).2)]) Try.isAgg37 Try.sizeOf37 rfl rfl hc6) ?_
        refine Wl_guard_t rfl ?_
        refine Wl_call (r_call1 rfl Try.call30 rfl) (may_spec _ ) ?_
        rintro v w7 ⟨rfl, hU7⟩
        have hzw7 := hU7.size
        replace hs := hs.upd0 hU7
        replace HU := HU.trans0 hU7
        replace hO := hO.upd0 hU7
        replace HL1 := HL1.trans0 hU7
        refine Wl_guard_t rfl ?_
        refine Wl_v (r_not rfl) ?_
        refine Wl_v (r_pick_t (v := .bool (!decide (Vc (cs.getD k (0, 0))))) rfl rfl) ?_
        refine Wl_nil ?_
        by_cases q4 : Vc (cs.getD k (0, 0))
        · rw [decide_eq_true q4]
          simp only [Bool.not_true, Bool.not_false]
          refine W_cond_f rfl ?_
          refine W_skip ?_
          refine W_region ?_
          refine Wl_v (r_mv (v := .slice a2 k c2) rfl) ?_
          refine Wl_v (r_mv (v := .slice a n c) rfl) ?_
          refine Wl_v (r_mv (v := .int .i64 ((k : Nat) : Int)) rfl) ?_
          refine Wl_idxr (0, 0) encC_len (by decide) Try.underlying28 Try.sizeOf37 rfl rfl hs (by omega) (by omega) ?_
          intro ib8 io8 hc8
          try rw [Int.toNat_natCast] at hc8
          refine Wl_v (r_fld Try.underlying37 rfl Try.sizeOf3 rfl rfl) ?_
          refine Wl_loadc (v := .int .i64 ((cs.getD k (0, 0)).1)) Try.isAgg3 rfl (hc8 0 (by decide)) ?_
          refine Wl_lit (pv := [(0, .int .i64 ((cs.getD k (0, 0)).1))]) (cs := [.int .i64 ((cs.getD k (0, 0)).1)]) Try.underlying22 Try.sizeOf3 Try.zeroValue3 (by decide) (by decide) (by simp only [List.map_toArray, List.map_cons, List.map_nil] <;> rfl) (by kernel_rfl) rfl (by decide) ?_
          intro B9 w9 hB9 hU9 hzz9 hs9
          have hzw9 := hU9.size
          replace hs := hs.upd0 hU9
          replace HU := HU.trans0 hU9
          replace hO := hO.upd0 hU9
          replace HL1 := HL1.trans0 hU9
          replace hs9 : Own w9 (Is B9) 3 1 (.slice (some ⟨B9, 0, none⟩) 1 1) 1 (ints .i64 [(cs.getD k (0, 0)).1]) := hs9
          refine Wl_appendi (xs := lns (cs.take k)) (ys := [(cs.getD k (0, 0)).1]) (zs := (lns (cs.take k)) ++ [(cs.getD k (0, 0)).1]) (k' := .i64) (tot := k + 1) (by first | rfl | simp) Try.underlying22 (ti := Try.t3) (z := .int .i64 0) (sz := 1) (by' := 8) rfl rfl rfl rfl rfl (by decide) rfl hO rfl hs9.sl  (by omega) (by simp only [maxLen]; omega) (by omega) ?_
          intro a10 c10 w10 hU10 hzz10 hO10
          clear hO
          have hzw10 := hU10.size
          replace hs := hs.upd hU10 (by intro x h1 h2; have h3 : ((R x) ∧ x < w.heap.size) := h1; have h4 : ((w.heap.size ≤ x) ∧ x < w1.heap.size) := h2; omega)
          replace HU := HU.trans hU10 (by intro x hx; have hx2 : ((w.heap.size ≤ x) ∧ x < w1.heap.size) := hx; show (False) ∨ w.heap.size ≤ x; omega)
          replace HL1 := HL1.trans hU10 (by intro x hx; have hx2 : ((w.heap.size ≤ x) ∧ x < w1.heap.size) := hx; show (w.heap.size ≤ x) ∨ w.heap.size ≤ x; omega)
          replace hs9 := hs9.upd hU10 (by intro x h1 h2; have h3 : x = B9 := h1; have h4 : ((w.heap.size ≤ x) ∧ x < w1.heap.size) := h2; omega)
          replace hO10 := hO10.tight
          have hl_hO10 := ilen hO10.sl
          have hc_hO10 := hO10.sl.cap.1
          refine Wl_v (r_as (v := .slice a10 (k + 1) c10) rfl) ?_
          refine Wl_nil ?_
          refine W_region ?_
          refine Wl_v (r_mv (v := .int .i64 ((k : Nat) : Int)) rfl) ?_
          refine Wl_v (r_add rfl rfl (wi64 (by omega) (by omega))) ?_
          refine Wl_v (r_as (v := .int .i64 (((k : Nat) : Int) + 1)) rfl) ?_
          refine Wl_nil ?_
          refine ⟨_, ?_, (k + 1), a10, c10, rfl, rfl, ⟨rfl, (by first | rfl | exact vint (by omega) | exact vint (by simp)), (Eq.trans (b := .int .i64 (((k : Nat) : Int) + 1)) rfl (vint (by omega))), trivial⟩, (by omega), (fun i hi => by rcases Nat.lt_or_ge i k with h | h; exact hall i h; rw [show i = k from by omega]; exact (Bool.eq_false_iff.2 (fun f => ((qbad_nv q3).2 f) q4))), ((hO10.weak (by intro g hg; have h3 : ((((((w.heap.size ≤ g) ∧ g < w1.heap.size)) ∨ g = w9.heap.size)) ∧ g < w10.heap.size) := hg; show _ ≤ _; omega)).icong (lns_take cs (by omega)).symm), HL1⟩
          omega
        · rw [decide_eq_false q4]
          simp only [Bool.not_true, Bool.not_false]
          refine W_cond_t rfl ?_
          refine W_seq ?_
          refine W_region ?_
          refine Wl_v (r_as (v := .slice none 0 0) rfl) ?_
          refine Wl_v (r_as (v := .int .i64 2) rfl) ?_
          refine Wl_nil ?_
          refine W_ret ?_
          refine ret_end (v := .tuple #[.slice none 0 0, .int .i64 2]) rfl (res2 Try.results25 rfl rfl) ?_
          have hfx := fidx_at (0, 0) (q := qbad) (l := cs) (k := k) (by omega) hall ((qbad_nv q3).1 q4)
          rw [ofc_arg (fun h => by omega)]
          exact ⟨_, rfl, none, 0, 0, (vtup2 rfl (by first | rfl | exact vint (by omega))), (by first | exact Own.nil _ _ 3 1 | simpa using Own.nil _ _ 3 1), HU⟩
    · replace hO := hO.tight
      have htk : lns (cs.take k) = lns cs := by rw [List.take_of_length_le (by omega)]
      rw [htk] at hO
      have hfx := fidx_none (0, 0) (q := qbad) (l := cs) (fun i hi => hall i (by omega))
      rw [decide_eq_false q2]
      refine W_cond_f rfl ?_
      refine W_exit ?_
      refine W_seq ?_
      refine W_region ?_
      refine Wl_v (r_mv (v := .slice a2 k c2) rfl) ?_
      by_cases q5 : Rt (lns cs)
      · refine Wl_call (r_call1 rfl Try.call17 rfl) (rcodes_ok _ hO.sl (by omega) q5) ?_
        rintro v w11 ⟨a11, c11, rfl, hO11, hU11⟩
        have hzw11 := hU11.size
        replace hs := hs.upd0 hU11
        replace HU := HU.trans0 hU11
        replace hO := hO.upd0 hU11
        replace hO11 := hO11.tight
        have hl_hO11 := rlen encC_len (by decide) hO11.sl
        have hc_hO11 := hO11.sl.cap.1
        refine Wl_v (r_mv (v := .tuple #[.slice a11 k c11, .int .i64 0]) rfl) ?_
        refine Wl_v (r_ext (v := .slice a11 k c11) rfl rfl) ?_
        refine Wl_v (r_ext (v := .int .i64 0) rfl rfl) ?_
        refine Wl_v (r_as (v := .slice a11 k c11) rfl) ?_
        refine Wl_v (r_as (v := .int .i64 0) rfl) ?_
        refine Wl_nil ?_
        refine W_seq ?_
        refine W_seq ?_
        refine W_region ?_
        refine Wl_v (r_mv (v := .int .i64 0) rfl) ?_
        refine Wl_v (v := .bool false) (r_ne (a := 0) (b := 0) rfl rfl) ?_
        refine Wl_nil ?_
        refine W_cond_f rfl ?_
        refine W_skip ?_
        refine W_seq ?_
        refine W_seq ?_
        refine W_region ?_
        refine Wl_v (r_as (v := .int .i64 0) rfl) ?_
        refine Wl_nil ?_
        refine W_block ?_
        refine W_loop (fun mu ρ ds w' => ∃ (k2 : Nat), n - k2 = mu ∧ ds = [] ∧ Liv ρ [(0, .slice a n c), (4, .slice a2 k c2), (6, .slice a11 k c11), (8, .int .i64 ((k2 : Nat) : Int))] ∧ k2 ≤ n ∧ cs.take k2 = (cds (lns cs)).take k2 ∧ Upd No w11 w') _ ⟨0, rfl, rfl, ⟨rfl, rfl, rfl, (by first | rfl | exact vint (by omega) | exact vint (by simp)), trivial⟩, (by omega), (by simp), Upd.refl _ _⟩ ?_
        rintro m12 ρ12 ds12 w12 ⟨k2, rfl, rfl, hl12, hk2, htk2, hU12⟩
        obtain ⟨ρ12x, rfl⟩ : ∃ ρx, ρ12 = upds ρx [(0, .slice a n c), (4, .slice a2 k c2), (6, .slice a11 k c11), (8, .int .i64 ((k2 : Nat) : Int))] := ⟨_, upds_self hl12⟩
        clear hl12
        have hzw12 := hU12.size
        replace hs := hs.upd0 hU12
        replace HU := HU.trans0 hU12
        replace hO := hO.upd0 hU12
        replace hO11 := hO11.upd0 hU12
        have HL12 := hU12
        refine W_seq ?_
        refine W_seq ?_
        refine W_region ?_
        refine Wl_v (r_mv (v := .int .i64 ((k2 : Nat) : Int)) rfl) ?_
        refine Wl_v (r_mv (v := .slice a n c) rfl) ?_
        refine Wl_v (r_len Try.underlying28 rfl) ?_
        refine Wl_v (r_lt rfl rfl) ?_
        refine Wl_nil ?_
        by_cases q6 : ((k2 : Nat) : Int) < ((n : Nat) : Int)
        · rw [decide_eq_true q6]
          refine W_cond_t rfl ?_
          refine W_skip ?_
          refine W_seq ?_
          refine W_block ?_
          refine W_seq ?_
          refine W_drawt rfl (l0 := #[false, false, false, false, false, false, false, false, false]) (by kernel_rfl) ?_
          refine Wt_take (i := 0) (listed' := #[true, false, false, false, false, false, false, false, false]) (by kernel_rfl) rfl (by kernel_rfl) (by kernel_rfl) (by kernel_rfl) (by kernel_rfl) (YI_v (v := .slice a n c) rfl (fun w' hw' => r_mv (v := .slice a n c) rfl)) ?_
          refine Wt_take (i := 1) (listed' := #[true, true, false, false, false, false, false, false, false]) (by kernel_rfl) rfl (by kernel_rfl) (by kernel_rfl) (by kernel_rfl) (by kernel_rfl) (YI_v (v := .int .i64 ((k2 : Nat) : Int)) rfl (fun w' hw' => r_mv (v := .int .i64 ((k2 : Nat) : Int)) rfl)) ?_
          obtain ⟨ib13, io13, ha13, hib13, hc13⟩ := Sl.rat (0, 0) encC_len (by decide) (hs) (i := k2) (by omega)
          refine Wt_take (i := 2) (listed' := #[true, true, true, false, false, false, false, false, false]) (by kernel_rfl) rfl (by kernel_rfl) (by kernel_rfl) (by kernel_rfl) (by kernel_rfl) (YI_v (v := .pointer (some ⟨ib13, io13 + k2 * 2, none⟩)) rfl (fun w' hw' => r_idx (b := ib13) (off := io13) (m := n) (c := c) (o' := io13 + k2 * 2) Try.underlying28 Try.sizeOf37 (by rw [← ha13]; rfl) rfl (by omega) (by omega) (by omega))) ?_
          refine Wt_take (i := 3) (listed' := #[true, true, true, true, false, false, false, false, false]) (by kernel_rfl) rfl (by kernel_rfl) (by kernel_rfl) (by kernel_rfl) (by kernel_rfl) (YI_v (v := .agg #[.int .i64 ((cs.getD k2 (0, 0)).1), .int .u32 ((cs.getD k2 (0, 0)).2)]) rfl (fun w' hw' => r_loada (cs := [.int .i64 ((cs.getD k2 (0, 0)).1), .int .u32 ((cs.getD k2 (0, 0)).2)]) Try.isAgg37 Try.sizeOf37 rfl rfl (hw'.cellsk rfl hc13))) ?_
          refine Wt_take (i := 4) (listed' := #[true, true, true, true, true, false, false, false, false]) (by kernel_rfl) rfl (by kernel_rfl) (by kernel_rfl) (by kernel_rfl) (by kernel_rfl) (YI_v (v := .slice a11 k c11) rfl (fun w' hw' => r_mv (v := .slice a11 k c11) rfl)) ?_
          refine Wt_take (i := 5) (listed' := #[true, true, true, true, true, true, false, false, false]) (by kernel_rfl) rfl (by kernel_rfl) (by kernel_rfl) (by kernel_rfl) (by kernel_rfl) (YI_v (v := .int .i64 ((k2 : Nat) : Int)) rfl (fun w' hw' => r_mv (v := .int .i64 ((k2 : Nat) : Int)) rfl)) ?_
          obtain ⟨ib14, io14, ha14, hib14, hc14⟩ := Sl.rat (0, 0) encC_len (by decide) (hO11.sl) (i := k2) (by omega)
          refine Wt_take (i := 6) (listed' := #[true, true, true, true, true, true, true, false, false]) (by kernel_rfl) rfl (by kernel_rfl) (by kernel_rfl) (by kernel_rfl) (by kernel_rfl) (YI_v (v := .pointer (some ⟨ib14, io14 + k2 * 2, none⟩)) rfl (fun w' hw' => r_idx (b := ib14) (off := io14) (m := k) (c := c11) (o' := io14 + k2 * 2) Try.underlying28 Try.sizeOf37 (by rw [← ha14]; rfl) rfl (by omega) (by omega) (by omega))) ?_
          refine Wt_take (i := 7) (listed' := #[true, true, true, true, true, true, true, true, false]) (by kernel_rfl) rfl (by kernel_rfl) (by kernel_rfl) (by kernel_rfl) (by kernel_rfl) (YI_v (v := .agg #[.int .i64 (((cds (lns cs)).getD k2 (0, 0)).1), .int .u32 (((cds (lns cs)).getD k2 (0, 0)).2)]) rfl (fun w' hw' => r_loada (cs := [.int .i64 (((cds (lns cs)).getD k2 (0, 0)).1), .int .u32 (((cds (lns cs)).getD k2 (0, 0)).2)]) Try.isAgg37 Try.sizeOf37 rfl rfl (hw'.cellsk rfl hc14))) ?_
          refine Wt_take (i := 8) (listed' := #[true, true, true, true, true, true, true, true, true]) (by kernel_rfl) rfl (by kernel_rfl) (by kernel_rfl) (by kernel_rfl) (by kernel_rfl) (YI_v (v := .bool (!decide (((cs.getD k2 (0, 0)).1) = (((cds (lns cs)).getD k2 (0, 0)).1) ∧ ((cs.getD k2 (0, 0)).2) = (((cds (lns cs)).getD k2 (0, 0)).2)))) rfl (fun w' hw' => r_neag (pp := ((cs.getD k2 (0, 0)).1) = (((cds (lns cs)).getD k2 (0, 0)).1) ∧ ((cs.getD k2 (0, 0)).2) = (((cds (lns cs)).getD k2 (0, 0)).2)) Try.underlying37 (by kernel_rfl) (by kernel_rfl) rfl rfl (fun w => eqf_int (by decide) Try.underlying3 Try.isAgg3 rfl rfl (fun w => eqf_int (by decide) Try.underlying35 Try.isAgg35 rfl rfl (fun w => eqf_nil))) (by simp [Bool.decide_and]))) ?_
          intro w15 hU15
          have hzw15 := hU15.size
          replace hs := hs.upd0 hU15
          replace HU := HU.trans0 hU15
          replace hO := hO.upd0 hU15
          replace hO11 := hO11.upd0 hU15
          replace HL12 := HL12.trans0 hU15
          refine Wa_done (by kernel_rfl) ?_
          by_cases q7 : ((cs.getD k2 (0, 0)).1) = (((cds (lns cs)).getD k2 (0, 0)).1) ∧ ((cs.getD k2 (0, 0)).2) = (((cds (lns cs)).getD k2 (0, 0)).2)
          · rw [decide_eq_true q7]
            simp only [Bool.not_true, Bool.not_false]
            refine W_cond_f rfl ?_
            refine W_skip ?_
            refine W_region ?_
            refine Wl_v (r_mv (v := .int .i64 ((k2 : Nat) : Int)) rfl) ?_
            refine Wl_v (r_add rfl rfl (wi64 (by omega) (by omega))) ?_
            refine Wl_v (r_as (v := .int .i64 (((k2 : Nat) : Int) + 1)) rfl) ?_
            refine Wl_nil ?_
            refine ⟨_, ?_, (k2 + 1), rfl, rfl, ⟨rfl, rfl, rfl, (by first | rfl | exact vint (by omega) | exact vint (by simp)), trivial⟩, (by omega), (leq_step (0, 0) htk2 (by omega) (by rw [cds_len, lns_len]; omega) (Prod.ext (q7).1 (q7).2)), HL12⟩
            omega
          · rw [decide_eq_false q7]
            simp only [Bool.not_true, Bool.not_false]
            refine W_cond_t rfl ?_
            refine W_seq ?_
            refine W_region ?_
            refine Wl_v (r_as (v := .slice none 0 0) rfl) ?_
            refine Wl_v (r_as (v := .int .i64 12) rfl) ?_
            refine Wl_nil ?_
            refine W_ret ?_
            refine ret_end (v := .tuple #[.slice none 0 0, .int .i64 12]) rfl (res2 Try.results25 rfl rfl) ?_
            rw [ofc_ne (show cs.length ≤ 256 ∧ fidx qbad cs < 0 from ⟨by omega, by omega⟩) q5 (fun h => (fun h9 => q7 ⟨congrArg Prod.fst h9, congrArg Prod.snd h9⟩) (by rw [h]))]
            exact ⟨_, rfl, none, 0, 0, (vtup2 rfl (by first | rfl | exact vint (by omega))), (by first | exact Own.nil _ _ 3 1 | simpa using Own.nil _ _ 3 1), HU⟩
        · rw [decide_eq_false q6]
          refine W_cond_f rfl ?_
          refine W_exit ?_
          refine W_seq ?_
          refine W_region ?_
          refine Wl_v (r_mv (v := .slice a2 k c2) rfl) ?_
          refine Wl_v (r_as (v := .slice a2 k c2) rfl) ?_
          refine Wl_v (r_as (v := .int .i64 0) rfl) ?_
          refine Wl_nil ?_
          refine W_ret ?_
          refine ret_end (v := .tuple #[.slice a2 k c2, .int .i64 0]) rfl (res2 Try.results25 rfl rfl) ?_
          rw [ofc_ok (show cs.length ≤ 256 ∧ fidx qbad cs < 0 from ⟨by omega, by omega⟩) q5 (leq_end htk2 (by omega) (by rw [cds_len, lns_len]; omega)).symm]
          exact ⟨_, rfl, a2, k, c2, (vtup2 rfl (by first | rfl | exact vint (by omega))), (by first | exact hO.weak (by intro g hg; have h3 : ((w.heap.size ≤ g) ∧ g < w1.heap.size) := hg; show w.heap.size ≤ g; omega) | simpa using hO.weak (by intro g hg; have h3 : ((w.heap.size ≤ g) ∧ g < w1.heap.size) := hg; show w.heap.size ≤ g; omega)), HU⟩
      · refine Wl_call (r_call1 rfl Try.call17 rfl) (rcodes_no _ hO.sl (by omega) q5) ?_
        rintro v w16 ⟨rfl, hU16⟩
        have hzw16 := hU16.size
        replace hs := hs.upd0 hU16
        replace HU := HU.trans0 hU16
        replace hO := hO.upd0 hU16
        refine Wl_v (r_mv (v := .tuple #[.slice none 0 0, .int .i64 12]) rfl) ?_
        refine Wl_v (r_ext (v := .slice none 0 0) rfl rfl) ?_
        refine Wl_v (r_ext (v := .int .i64 12) rfl rfl) ?_
        refine Wl_v (r_as (v := .slice none 0 0) rfl) ?_
        refine Wl_v (r_as (v := .int .i64 12) rfl) ?_
        refine Wl_nil ?_
        refine W_seq ?_
        refine W_seq ?_
        refine W_region ?_
        refine Wl_v (r_mv (v := .int .i64 12) rfl) ?_
        refine Wl_v (v := .bool true) (r_ne (a := 12) (b := 0) rfl rfl) ?_
        refine Wl_nil ?_
        refine W_cond_t rfl ?_
        refine W_seq ?_
        refine W_region ?_
        refine Wl_v (r_mv (v := .int .i64 12) rfl) ?_
        refine Wl_v (r_as (v := .slice none 0 0) rfl) ?_
        refine Wl_v (r_as (v := .int .i64 12) rfl) ?_
        refine Wl_nil ?_
        refine W_ret ?_
        refine ret_end (v := .tuple #[.slice none 0 0, .int .i64 12]) rfl (res2 Try.results25 rfl rfl) ?_
        rw [ofc_tree (show cs.length ≤ 256 ∧ fidx qbad cs < 0 from ⟨by omega, by omega⟩) q5]
        exact ⟨_, rfl, none, 0, 0, (vtup2 rfl (by first | rfl | exact vint (by omega))), (by first | exact Own.nil _ _ 3 1 | simpa using Own.nil _ _ 3 1), HU⟩

end Go.Proofs.Ytakbopikohghmaa
