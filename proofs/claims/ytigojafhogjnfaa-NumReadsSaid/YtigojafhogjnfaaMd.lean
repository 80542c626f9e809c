/-
  Walks, printed by a small program of this project (gen.py).
-/
import Derived.Test.YtigojafhogjnfaaWi
import Derived.Test.YtigojafhogjnfaaPg
import Derived.Test.YtigojafhogjnfaaLw
set_option linter.unusedVariables false
namespace Go.Proofs.Ytigojafhogjnfaa
open Go.Fw

def encCall (x : Int × Int) : List Value := [.int .i64 x.1, .int .i64 x.2]
theorem encCall_len (x : Int × Int) : (encCall x).length = 2 := rfl
def Cok (l : List (Int × Int)) : Prop := ∀ x ∈ l, (-9223372036854775808 ≤ x.1 ∧ x.1 ≤ 9223372036854775807) ∧ (-9223372036854775808 ≤ x.2 ∧ x.2 ≤ 9223372036854775807)
theorem Cok.at {l : List (Int × Int)} (h : Cok l) (i : Nat) : -9223372036854775808 ≤ (l.getD i (0, 0)).2 ∧ (l.getD i (0, 0)).2 ≤ 9223372036854775807 := by
  rcases Nat.lt_or_ge i l.length with h1 | h1
  · rw [List.getD_eq_getElem?_getD, List.getElem?_eq_getElem h1]; exact (h _ (List.getElem_mem _)).2
  · rw [List.getD_eq_getElem?_getD, List.getElem?_eq_none h1]; simp

set_option maxRecDepth 100000 in
theorem numreads {a aq : Option Addr} {n c m cq : Nat} {bs : List Int} {cl : List (Int × Int)} (w : World) (hb : Sl w (fun g => g < w.heap.size) 1 (.slice a n c) n (ints .u8 bs)) (bb : Byt bs) (nb : n ≤ 140737488351232) (hq : Sl w (fun g => g < w.heap.size) 2 (.slice aq m cq) m (rows encCall cl)) (hcl : Cok cl) :
    Calls Try.prog 10 #[.slice a n c, .slice aq m cq] w (Ret fun v w' => v = .bool true ∧ Upd No w w') := by
  have HU : Upd (fun b => False) w w := Upd.refl _ _
  have hl_hb := ilen hb
  have hc_hb := hb.cap.1
  have hl_hq := rlen encCall_len (by decide) hq
  have hc_hq := hq.cap.1
  refine calls_of_W Try.func10 rfl Try.ntmps10 (by simp) ?_
  refine W_seq ?_
  refine W_region ?_
  refine Wl_v (r_as (v := .bool false) rfl) ?_
  refine Wl_nil ?_
  refine W_seq ?_
  refine W_seq ?_
  refine W_region ?_
  refine Wl_v (r_mv (v := .slice aq m cq) rfl) ?_
  refine Wl_v (r_len Try.underlying52 rfl) ?_
  refine Wl_v (r_gt rfl rfl) ?_
  refine Wl_nil ?_
  by_cases q1 : 200 < ((m : Nat) : Int)
  · rw [decide_eq_true q1]
    refine W_cond_t rfl ?_
    refine W_seq ?_
    refine W_region ?_
    refine Wl_call (r_call0 rfl Try.call19 ) (known_spec _ ) ?_
    rintro v w1 ⟨rfl, hU1⟩
    have hzw1 := hU1.size
    replace hb := hb.upd0 hU1
    replace hq := hq.upd0 hU1
    replace HU := HU.trans0 hU1
    refine Wl_v (r_as (v := .bool true) rfl) ?_
    refine Wl_nil ?_
    refine W_ret ?_
    refine ret_end (v := .bool true) rfl (res1 Try.results10 rfl) ?_
    exact ⟨_, rfl, rfl, HU⟩
  · rw [decide_eq_false q1]
    refine W_cond_f rfl ?_
    refine W_skip ?_
    refine W_seq ?_
    refine W_region ?_
    refine Wl_v (r_mv (v := .slice a n c) rfl) ?_
    refine Wl_call (r_call1 rfl Try.call15 rfl) (own_spec _ hb.any (by omega)) ?_
    rintro v w2 ⟨a2, c2, rfl, hO2, hU2⟩
    have hzw2 := hU2.size
    replace hb := hb.upd0 hU2
    replace hq := hq.upd0 hU2
    replace HU := HU.trans0 hU2
    replace hO2 := hO2.tight
    have hl_hO2 := ilen hO2.sl
    have hc_hO2 := hO2.sl.cap.1
    refine Wl_call (r_call1 rfl Try.call21 rfl) (new_spec _ hO2.sl.any (by omega)) ?_
    rintro v w3 ⟨pb3, a3, c3, rfl, hp3, hO3, hpg_3, hU3⟩
    have hzw3 := hU3.size
    replace hb := hb.upd0 hU3
    replace hq := hq.upd0 hU3
    replace HU := HU.trans0 hU3
    replace hO2 := hO2.upd0 hU3
    have hbl_hp3 := hp3.lt
    replace hO3 := hO3.tight
    have hl_hO3 := ilen hO3.sl
    have hc_hO3 := hO3.sl.cap.1
    refine Wl_v (r_as (v := .pointer (some ⟨pb3, 0, none⟩)) rfl) ?_
    refine Wl_nil ?_
    refine W_seq ?_
    refine W_region ?_
    refine Wl_v (r_as (v := .int .i64 0) rfl) ?_
    refine Wl_nil ?_
    refine W_seq ?_
    refine W_seq ?_
    refine W_region ?_
    refine Wl_v (r_as (v := .int .i64 0) rfl) ?_
    refine Wl_nil ?_
    refine W_block ?_
    refine W_loop (fun mu ρ ds w' => ∃ (k p : Nat), m - k = mu ∧ ds = [] ∧ Liv ρ [(0, .slice a n c), (1, .slice aq m cq), (5, .pointer (some ⟨pb3, 0, none⟩)), (6, .int .i64 ((p : Nat) : Int)), (7, .int .i64 ((k : Nat) : Int))] ∧ k ≤ m ∧ p ≤ n ∧ Blk w' pb3 [.slice a3 n c3, .int .i64 ((p : Nat) : Int)] ∧ Upd (Is pb3) w3 w') _ ⟨0, 0, rfl, rfl, ⟨rfl, rfl, rfl, (by first | rfl | exact vint (by omega) | exact vint (by simp)), (by first | rfl | exact vint (by omega) | exact vint (by simp)), trivial⟩, (by omega), (by omega), hp3, Upd.refl _ _⟩ ?_
    rintro m4 ρ4 ds4 w4 ⟨k, p, rfl, rfl, hl4, hkm, hpn, hp3, hU4⟩
    obtain ⟨ρ4x, rfl⟩ : ∃ ρx, ρ4 = upds ρx [(0, .slice a n c), (1, .slice aq m cq), (5, .pointer (some ⟨pb3, 0, none⟩)), (6, .int .i64 ((p : Nat) : Int)), (7, .int .i64 ((k : Nat) : Int))] := ⟨_, upds_self hl4⟩
    clear hl4
    have hzw4 := hU4.size
    replace hb := hb.upd1 hU4 (by intro h1; have h3 : pb3 < w.heap.size := h1; omega)
    replace hq := hq.upd1 hU4 (by intro h1; have h3 : pb3 < w.heap.size := h1; omega)
    replace HU := HU.trans1 hU4 (by show (False) ∨ w.heap.size ≤ pb3; omega)
    replace hO2 := hO2.upd1 hU4 (by intro h1; have h3 : ((w.heap.size ≤ pb3) ∧ pb3 < w2.heap.size) := h1; omega)
    replace hO3 := hO3.upd1 hU4 (by intro h1; have h3 : ((w2.heap.size ≤ pb3 ∧ pb3 ≠ pb3) ∧ pb3 < w3.heap.size) := h1; omega)
    have HL4 := hU4
    refine W_seq ?_
    refine W_seq ?_
    refine W_region ?_
    refine Wl_v (r_mv (v := .int .i64 ((k : Nat) : Int)) rfl) ?_
    refine Wl_v (r_mv (v := .slice aq m cq) rfl) ?_
    refine Wl_v (r_len Try.underlying52 rfl) ?_
    refine Wl_v (r_lt rfl rfl) ?_
    refine Wl_nil ?_
    by_cases q2 : ((k : Nat) : Int) < ((m : Nat) : Int)
    · have hck := hcl.at k
      have hle := stp_le bb (p := p) (by omega) (cl.getD k (0, 0)).1 (cl.getD k (0, 0)).2
      rw [decide_eq_true q2]
      refine W_cond_t rfl ?_
      refine W_skip ?_
      refine W_seq ?_
      refine W_block ?_
      refine W_seq ?_
      refine W_region ?_
      refine Wl_v (r_mv (v := .pointer (some ⟨pb3, 0, none⟩)) rfl) ?_
      refine Wl_v (r_mv (v := .slice aq m cq) rfl) ?_
      refine Wl_v (r_mv (v := .int .i64 ((k : Nat) : Int)) rfl) ?_
      refine Wl_idxr (0, 0) encCall_len (by decide) Try.underlying52 Try.sizeOf56 rfl rfl hq (by omega) (by omega) ?_
      intro ib5 io5 hc5
      try rw [Int.toNat_natCast] at hc5
      refine Wl_v (r_loada (cs := [.int .i64 ((cl.getD k (0, 0)).1), .int .i64 ((cl.getD k (0, 0)).2)]) Try.isAgg56 Try.sizeOf56 rfl rfl hc5) ?_
      refine Wl_call (r_call2 rfl Try.call31 rfl rfl) (ask_spec _ hp3 (hO3.sl.cur (by intro h1; have h3 : ((w2.heap.size ≤ pb3 ∧ pb3 ≠ pb3) ∧ pb3 < w3.heap.size) := h1; first | omega | simp at h3)) bb (by omega) (by omega) (by omega)) ?_
      rintro v w6 ⟨a6, m6, c6, rfl, hp6, hO6, hm_6, hU6⟩
      have hzw6 := hU6.size
      replace hb := hb.upd1 hU6 (by intro h1; have h3 : pb3 < w.heap.size := h1; omega)
      replace hq := hq.upd1 hU6 (by intro h1; have h3 : pb3 < w.heap.size := h1; omega)
      replace HU := HU.trans1 hU6 (by show (False) ∨ w.heap.size ≤ pb3; omega)
      replace hO2 := hO2.upd1 hU6 (by intro h1; have h3 : ((w.heap.size ≤ pb3) ∧ pb3 < w2.heap.size) := h1; omega)
      replace hO3 := hO3.upd1 hU6 (by intro h1; have h3 : ((w2.heap.size ≤ pb3 ∧ pb3 ≠ pb3) ∧ pb3 < w3.heap.size) := h1; omega)
      replace HL4 := HL4.trans1 hU6 (by show (pb3 = pb3) ∨ w3.heap.size ≤ pb3; omega)
      have hbl_hp6 := hp6.lt
      replace hO6 := hO6.tight
      have hl_hO6 := ilen hO6.sl
      have hc_hO6 := hO6.sl.cap.1
      refine Wl_v (r_mv (v := .tuple #[.int .u64 ((stp bs p ((cl.getD k (0, 0)).1) ((cl.getD k (0, 0)).2)).1), .slice a6 m6 c6, .int .i64 ((stp bs p ((cl.getD k (0, 0)).1) ((cl.getD k (0, 0)).2)).2.2.2)]) rfl) ?_
      refine Wl_v (r_ext (v := .int .u64 ((stp bs p ((cl.getD k (0, 0)).1) ((cl.getD k (0, 0)).2)).1)) rfl rfl) ?_
      refine Wl_v (r_ext (v := .slice a6 m6 c6) rfl rfl) ?_
      refine Wl_v (r_ext (v := .int .i64 ((stp bs p ((cl.getD k (0, 0)).1) ((cl.getD k (0, 0)).2)).2.2.2)) rfl rfl) ?_
      refine Wl_v (r_as (v := .int .u64 ((stp bs p ((cl.getD k (0, 0)).1) ((cl.getD k (0, 0)).2)).1)) rfl) ?_
      refine Wl_v (r_as (v := .slice a6 m6 c6) rfl) ?_
      refine Wl_v (r_as (v := .int .i64 ((stp bs p ((cl.getD k (0, 0)).1) ((cl.getD k (0, 0)).2)).2.2.2)) rfl) ?_
      refine Wl_nil ?_
      refine W_seq ?_
      refine W_region ?_
      refine Wl_v (r_mv (v := .slice a n c) rfl) ?_
      refine Wl_v (r_mv (v := .int .i64 ((p : Nat) : Int)) rfl) ?_
      refine Wl_v (r_mv (v := .slice aq m cq) rfl) ?_
      refine Wl_v (r_mv (v := .int .i64 ((k : Nat) : Int)) rfl) ?_
      refine Wl_idxr (0, 0) encCall_len (by decide) Try.underlying52 Try.sizeOf56 rfl rfl hq (by omega) (by omega) ?_
      intro ib7 io7 hc7
      try rw [Int.toNat_natCast] at hc7
      refine Wl_v (r_loada (cs := [.int .i64 ((cl.getD k (0, 0)).1), .int .i64 ((cl.getD k (0, 0)).2)]) Try.isAgg56 Try.sizeOf56 rfl rfl hc7) ?_
      refine Wl_call (r_call3 rfl Try.call32 rfl rfl rfl) (step_spec _ hb bb (by omega) (by omega) (by omega)) ?_
      rintro v w8 ⟨a8, m8, c8, rfl, hB8, hm_8, hU8⟩
      have hzw8 := hU8.size
      replace hb := hb.upd0 hU8
      replace hq := hq.upd0 hU8
      replace HU := HU.trans0 hU8
      replace hO2 := hO2.upd0 hU8
      replace hO3 := hO3.upd0 hU8
      replace HL4 := HL4.trans0 hU8
      replace hp6 := hp6.upd0 hU8
      replace hO6 := hO6.upd0 hU8
      have hl_hB8 := ilen hB8
      have hc_hB8 := hB8.cap.1
      refine Wl_v (r_mv (v := .tuple #[.int .u64 ((stp bs p ((cl.getD k (0, 0)).1) ((cl.getD k (0, 0)).2)).1), .slice a8 m8 c8, .int .i64 (((stp bs p ((cl.getD k (0, 0)).1) ((cl.getD k (0, 0)).2)).2.2.1 : Nat) : Int), .int .i64 ((stp bs p ((cl.getD k (0, 0)).1) ((cl.getD k (0, 0)).2)).2.2.2)]) rfl) ?_
      refine Wl_v (r_ext (v := .int .u64 ((stp bs p ((cl.getD k (0, 0)).1) ((cl.getD k (0, 0)).2)).1)) rfl rfl) ?_
      refine Wl_v (r_ext (v := .slice a8 m8 c8) rfl rfl) ?_
      refine Wl_v (r_ext (v := .int .i64 (((stp bs p ((cl.getD k (0, 0)).1) ((cl.getD k (0, 0)).2)).2.2.1 : Nat) : Int)) rfl rfl) ?_
      refine Wl_v (r_ext (v := .int .i64 ((stp bs p ((cl.getD k (0, 0)).1) ((cl.getD k (0, 0)).2)).2.2.2)) rfl rfl) ?_
      refine Wl_v (r_as (v := .int .u64 ((stp bs p ((cl.getD k (0, 0)).1) ((cl.getD k (0, 0)).2)).1)) rfl) ?_
      refine Wl_v (r_as (v := .slice a8 m8 c8) rfl) ?_
      refine Wl_v (r_as (v := .int .i64 (((stp bs p ((cl.getD k (0, 0)).1) ((cl.getD k (0, 0)).2)).2.2.1 : Nat) : Int)) rfl) ?_
      refine Wl_v (r_as (v := .int .i64 ((stp bs p ((cl.getD k (0, 0)).1) ((cl.getD k (0, 0)).2)).2.2.2)) rfl) ?_
      refine Wl_nil ?_
      refine W_seq ?_
      refine W_region ?_
      refine Wl_v (r_mv (v := .int .i64 (((stp bs p ((cl.getD k (0, 0)).1) ((cl.getD k (0, 0)).2)).2.2.1 : Nat) : Int)) rfl) ?_
      refine Wl_v (r_as (v := .int .i64 (((stp bs p ((cl.getD k (0, 0)).1) ((cl.getD k (0, 0)).2)).2.2.1 : Nat) : Int)) rfl) ?_
      refine Wl_nil ?_
      refine W_seq ?_
      refine W_drawt rfl (l0 := #[false, false, false, false, false, false, false, false, false, false, false, false, false, false, false, false, false, false, false, false, false, false, false, false, false, false, false, false, false, false, false, false, false, false, false, false, false, false]) (by kernel_rfl) ?_
      refine Wt_take (i := 0) (listed' := #[true, false, false, false, false, false, false, false, false, false, false, false, false, false, false, false, false, false, false, false, false, false, false, false, false, false, false, false, false, false, false, false, false, false, false, false, false, false]) (by kernel_rfl) rfl (by kernel_rfl) (by kernel_rfl) (by kernel_rfl) (by kernel_rfl) (YI_v (v := .int .u64 ((stp bs p ((cl.getD k (0, 0)).1) ((cl.getD k (0, 0)).2)).1)) rfl (fun w' hw' => r_mv (v := .int .u64 ((stp bs p ((cl.getD k (0, 0)).1) ((cl.getD k (0, 0)).2)).1)) rfl)) ?_
      refine Wt_take (i := 1) (listed' := #[true, true, false, false, false, false, false, false, false, false, false, false, false, false, false, false, false, false, false, false, false, false, false, false, false, false, false, false, false, false, false, false, false, false, false, false, false, false]) (by kernel_rfl) rfl (by kernel_rfl) (by kernel_rfl) (by kernel_rfl) (by kernel_rfl) (YI_v (v := .int .u64 ((stp bs p ((cl.getD k (0, 0)).1) ((cl.getD k (0, 0)).2)).1)) rfl (fun w' hw' => r_mv (v := .int .u64 ((stp bs p ((cl.getD k (0, 0)).1) ((cl.getD k (0, 0)).2)).1)) rfl)) ?_
      refine Wt_take (i := 2) (listed' := #[true, true, true, false, false, false, false, false, false, false, false, false, false, false, false, false, false, false, false, false, false, false, false, false, false, false, false, false, false, false, false, false, false, false, false, false, false, false]) (by kernel_rfl) rfl (by kernel_rfl) (by kernel_rfl) (by kernel_rfl) (by kernel_rfl) (YI_v (v := .bool (decide (((stp bs p ((cl.getD k (0, 0)).1) ((cl.getD k (0, 0)).2)).1) ≠ ((stp bs p ((cl.getD k (0, 0)).1) ((cl.getD k (0, 0)).2)).1)))) rfl (fun w' hw' => r_ne rfl rfl)) ?_
      refine Wt_take (i := 3) (listed' := #[true, true, true, true, false, false, false, false, false, false, false, false, false, false, false, false, false, false, false, false, false, false, false, false, false, false, false, false, false, false, false, false, false, false, false, false, false, false]) (by kernel_rfl) rfl (by kernel_rfl) (by kernel_rfl) (by kernel_rfl) (by kernel_rfl) (YI_v (v := .bool (decide (((stp bs p ((cl.getD k (0, 0)).1) ((cl.getD k (0, 0)).2)).1) ≠ ((stp bs p ((cl.getD k (0, 0)).1) ((cl.getD k (0, 0)).2)).1)))) rfl (fun w' hw' => r_mv (v := .bool (decide (((stp bs p ((cl.getD k (0, 0)).1) ((cl.getD k (0, 0)).2)).1) ≠ ((stp bs p ((cl.getD k (0, 0)).1) ((cl.getD k (0, 0)).2)).1)))) rfl)) ?_
      have q3 : ¬ (((stp bs p ((cl.getD k (0, 0)).1) ((cl.getD k (0, 0)).2)).1) ≠ ((stp bs p ((cl.getD k (0, 0)).1) ((cl.getD k (0, 0)).2)).1)) := (fun h => h rfl)
      rw [decide_eq_false q3]
      refine Wt_take (i := 4) (listed' := #[true, true, true, true, true, false, false, false, false, false, false, false, false, false, false, false, false, false, false, false, false, false, false, false, false, false, false, false, false, false, false, false, false, false, false, false, false, false]) (by kernel_rfl) rfl (by kernel_rfl) (by kernel_rfl) (by kernel_rfl) (by kernel_rfl) (YI_v (v := .slice a6 m6 c6) rfl (fun w' hw' => r_mv (v := .slice a6 m6 c6) rfl)) ?_
      refine Wt_take (i := 5) (listed' := #[true, true, true, true, true, true, false, false, false, false, false, false, false, false, false, false, false, false, false, false, false, false, false, false, false, false, false, false, false, false, false, false, false, false, false, false, false, false]) (by kernel_rfl) rfl (by kernel_rfl) (by kernel_rfl) (by kernel_rfl) (by kernel_rfl) (YI_v (v := .slice a8 m8 c8) rfl (fun w' hw' => r_mv (v := .slice a8 m8 c8) rfl)) ?_
      refine Wt_take (i := 6) (listed' := #[true, true, true, true, true, true, true, false, false, false, false, false, false, false, false, false, false, false, false, false, false, false, false, false, false, false, false, false, false, false, false, false, false, false, false, false, false, false]) (by kernel_rfl) rfl (by kernel_rfl) (by kernel_rfl) (by kernel_rfl) (by kernel_rfl) (YI_c (v := .bool (decide (((stp bs p ((cl.getD k (0, 0)).1) ((cl.getD k (0, 0)).2)).2.1) = ((stp bs p ((cl.getD k (0, 0)).1) ((cl.getD k (0, 0)).2)).2.1)))) rfl (fun w' => r_call2 rfl Try.call13 rfl rfl) (fun w' hw' => same_spec w' ((hO6.upd0 hw').sl.any) ((hB8.upd0 hw').any) (stp_byt bb) (stp_byt bb))) ?_
      refine Wt_take (i := 7) (listed' := #[true, true, true, true, true, true, true, true, false, false, false, false, false, false, false, false, false, false, false, false, false, false, false, false, false, false, false, false, false, false, false, false, false, false, false, false, false, false]) (by kernel_rfl) rfl (by kernel_rfl) (by kernel_rfl) (by kernel_rfl) (by kernel_rfl) (YI_v (v := .bool (!decide (((stp bs p ((cl.getD k (0, 0)).1) ((cl.getD k (0, 0)).2)).2.1) = ((stp bs p ((cl.getD k (0, 0)).1) ((cl.getD k (0, 0)).2)).2.1)))) rfl (fun w' hw' => r_not rfl)) ?_
      refine Wt_take (i := 8) (listed' := #[true, true, true, true, true, true, true, true, true, false, false, false, false, false, false, false, false, false, false, false, false, false, false, false, false, false, false, false, false, false, false, false, false, false, false, false, false, false]) (by kernel_rfl) rfl (by kernel_rfl) (by kernel_rfl) (by kernel_rfl) (by kernel_rfl) (YI_v rfl (fun w' hw' => r_pick_f (v := .bool (!decide (((stp bs p ((cl.getD k (0, 0)).1) ((cl.getD k (0, 0)).2)).2.1) = ((stp bs p ((cl.getD k (0, 0)).1) ((cl.getD k (0, 0)).2)).2.1)))) rfl rfl)) ?_
      refine Wt_take (i := 9) (listed' := #[true, true, true, true, true, true, true, true, true, true, false, false, false, false, false, false, false, false, false, false, false, false, false, false, false, false, false, false, false, false, false, false, false, false, false, false, false, false]) (by kernel_rfl) rfl (by kernel_rfl) (by kernel_rfl) (by kernel_rfl) (by kernel_rfl) (YI_v (v := .bool (!decide (((stp bs p ((cl.getD k (0, 0)).1) ((cl.getD k (0, 0)).2)).2.1) = ((stp bs p ((cl.getD k (0, 0)).1) ((cl.getD k (0, 0)).2)).2.1)))) rfl (fun w' hw' => r_mv (v := .bool (!decide (((stp bs p ((cl.getD k (0, 0)).1) ((cl.getD k (0, 0)).2)).2.1) = ((stp bs p ((cl.getD k (0, 0)).1) ((cl.getD k (0, 0)).2)).2.1)))) rfl)) ?_
      have q4 : ((stp bs p ((cl.getD k (0, 0)).1) ((cl.getD k (0, 0)).2)).2.1) = ((stp bs p ((cl.getD k (0, 0)).1) ((cl.getD k (0, 0)).2)).2.1) := rfl
      rw [decide_eq_true q4]
      simp only [Bool.not_true, Bool.not_false]
      refine Wt_take (i := 10) (listed' := #[true, true, true, true, true, true, true, true, true, true, true, false, false, false, false, false, false, false, false, false, false, false, false, false, false, false, false, false, false, false, false, false, false, false, false, false, false, false]) (by kernel_rfl) rfl (by kernel_rfl) (by kernel_rfl) (by kernel_rfl) (by kernel_rfl) (YI_v (v := .int .i64 ((stp bs p ((cl.getD k (0, 0)).1) ((cl.getD k (0, 0)).2)).2.2.2)) rfl (fun w' hw' => r_mv (v := .int .i64 ((stp bs p ((cl.getD k (0, 0)).1) ((cl.getD k (0, 0)).2)).2.2.2)) rfl)) ?_
      refine Wt_take (i := 11) (listed' := #[true, true, true, true, true, true, true, true, true, true, true, true, false, false, false, false, false, false, false, false, false, false, false, false, false, false, false, false, false, false, false, false, false, false, false, false, false, false]) (by kernel_rfl) rfl (by kernel_rfl) (by kernel_rfl) (by kernel_rfl) (by kernel_rfl) (YI_v (v := .int .i64 ((stp bs p ((cl.getD k (0, 0)).1) ((cl.getD k (0, 0)).2)).2.2.2)) rfl (fun w' hw' => r_mv (v := .int .i64 ((stp bs p ((cl.getD k (0, 0)).1) ((cl.getD k (0, 0)).2)).2.2.2)) rfl)) ?_
      refine Wt_take (i := 12) (listed' := #[true, true, true, true, true, true, true, true, true, true, true, true, true, false, false, false, false, false, false, false, false, false, false, false, false, false, false, false, false, false, false, false, false, false, false, false, false, false]) (by kernel_rfl) rfl (by kernel_rfl) (by kernel_rfl) (by kernel_rfl) (by kernel_rfl) (YI_v (v := .bool (decide (((stp bs p ((cl.getD k (0, 0)).1) ((cl.getD k (0, 0)).2)).2.2.2) ≠ ((stp bs p ((cl.getD k (0, 0)).1) ((cl.getD k (0, 0)).2)).2.2.2)))) rfl (fun w' hw' => r_ne rfl rfl)) ?_
      refine Wt_take (i := 13) (listed' := #[true, true, true, true, true, true, true, true, true, true, true, true, true, true, false, false, false, false, false, false, false, false, false, false, false, false, false, false, false, false, false, false, false, false, false, false, false, false]) (by kernel_rfl) rfl (by kernel_rfl) (by kernel_rfl) (by kernel_rfl) (by kernel_rfl) (YI_v rfl (fun w' hw' => r_pick_f (v := .bool (decide (((stp bs p ((cl.getD k (0, 0)).1) ((cl.getD k (0, 0)).2)).2.2.2) ≠ ((stp bs p ((cl.getD k (0, 0)).1) ((cl.getD k (0, 0)).2)).2.2.2)))) rfl rfl)) ?_
      refine Wt_take (i := 14) (listed' := #[true, true, true, true, true, true, true, true, true, true, true, true, true, true, true, false, false, false, false, false, false, false, false, false, false, false, false, false, false, false, false, false, false, false, false, false, false, false]) (by kernel_rfl) rfl (by kernel_rfl) (by kernel_rfl) (by kernel_rfl) (by kernel_rfl) (YI_v (v := .bool (decide (((stp bs p ((cl.getD k (0, 0)).1) ((cl.getD k (0, 0)).2)).2.2.2) ≠ ((stp bs p ((cl.getD k (0, 0)).1) ((cl.getD k (0, 0)).2)).2.2.2)))) rfl (fun w' hw' => r_mv (v := .bool (decide (((stp bs p ((cl.getD k (0, 0)).1) ((cl.getD k (0, 0)).2)).2.2.2) ≠ ((stp bs p ((cl.getD k (0, 0)).1) ((cl.getD k (0, 0)).2)).2.2.2)))) rfl)) ?_
      have q5 : ¬ (((stp bs p ((cl.getD k (0, 0)).1) ((cl.getD k (0, 0)).2)).2.2.2) ≠ ((stp bs p ((cl.getD k (0, 0)).1) ((cl.getD k (0, 0)).2)).2.2.2)) := (fun h => h rfl)
      rw [decide_eq_false q5]
      refine Wt_take (i := 15) (listed' := #[true, true, true, true, true, true, true, true, true, true, true, true, true, true, true, true, false, false, false, false, false, false, false, false, false, false, false, false, false, false, false, false, false, false, false, false, false, false]) (by kernel_rfl) rfl (by kernel_rfl) (by kernel_rfl) (by kernel_rfl) (by kernel_rfl) (YI_v (v := .pointer (some ⟨pb3, 0, none⟩)) rfl (fun w' hw' => r_mv (v := .pointer (some ⟨pb3, 0, none⟩)) rfl)) ?_
      refine Wt_take (i := 16) (listed' := #[true, true, true, true, true, true, true, true, true, true, true, true, true, true, true, true, true, false, false, false, false, false, false, false, false, false, false, false, false, false, false, false, false, false, false, false, false, false]) (by kernel_rfl) rfl (by kernel_rfl) (by kernel_rfl) (by kernel_rfl) (by kernel_rfl) (YI_c (v := .int .i64 (((stp bs p ((cl.getD k (0, 0)).1) ((cl.getD k (0, 0)).2)).2.2.1 : Nat) : Int)) rfl (fun w' => r_call1 rfl Try.call24 rfl) (fun w' hw' => at_spec w' (hp6.upd0 hw') (by omega) (by omega) (by omega))) ?_
      refine Wt_take (i := 17) (listed' := #[true, true, true, true, true, true, true, true, true, true, true, true, true, true, true, true, true, true, false, false, false, false, false, false, false, false, false, false, false, false, false, false, false, false, false, false, false, false]) (by kernel_rfl) rfl (by kernel_rfl) (by kernel_rfl) (by kernel_rfl) (by kernel_rfl) (YI_v (v := .int .i64 (((stp bs p ((cl.getD k (0, 0)).1) ((cl.getD k (0, 0)).2)).2.2.1 : Nat) : Int)) rfl (fun w' hw' => r_mv (v := .int .i64 (((stp bs p ((cl.getD k (0, 0)).1) ((cl.getD k (0, 0)).2)).2.2.1 : Nat) : Int)) rfl)) ?_
      refine Wt_take (i := 18) (listed' := #[true, true, true, true, true, true, true, true, true, true, true, true, true, true, true, true, true, true, true, false, false, false, false, false, false, false, false, false, false, false, false, false, false, false, false, false, false, false]) (by kernel_rfl) rfl (by kernel_rfl) (by kernel_rfl) (by kernel_rfl) (by kernel_rfl) (YI_v (v := .bool (decide ((((stp bs p ((cl.getD k (0, 0)).1) ((cl.getD k (0, 0)).2)).2.2.1 : Nat) : Int) ≠ (((stp bs p ((cl.getD k (0, 0)).1) ((cl.getD k (0, 0)).2)).2.2.1 : Nat) : Int)))) rfl (fun w' hw' => r_ne rfl rfl)) ?_
      refine Wt_take (i := 19) (listed' := #[true, true, true, true, true, true, true, true, true, true, true, true, true, true, true, true, true, true, true, true, false, false, false, false, false, false, false, false, false, false, false, false, false, false, false, false, false, false]) (by kernel_rfl) rfl (by kernel_rfl) (by kernel_rfl) (by kernel_rfl) (by kernel_rfl) (YI_v rfl (fun w' hw' => r_pick_f (v := .bool (decide ((((stp bs p ((cl.getD k (0, 0)).1) ((cl.getD k (0, 0)).2)).2.2.1 : Nat) : Int) ≠ (((stp bs p ((cl.getD k (0, 0)).1) ((cl.getD k (0, 0)).2)).2.2.1 : Nat) : Int)))) rfl rfl)) ?_
      refine Wt_take (i := 20) (listed' := #[true, true, true, true, true, true, true, true, true, true, true, true, true, true, true, true, true, true, true, true, true, false, false, false, false, false, false, false, false, false, false, false, false, false, false, false, false, false]) (by kernel_rfl) rfl (by kernel_rfl) (by kernel_rfl) (by kernel_rfl) (by kernel_rfl) (YI_v (v := .bool (decide ((((stp bs p ((cl.getD k (0, 0)).1) ((cl.getD k (0, 0)).2)).2.2.1 : Nat) : Int) ≠ (((stp bs p ((cl.getD k (0, 0)).1) ((cl.getD k (0, 0)).2)).2.2.1 : Nat) : Int)))) rfl (fun w' hw' => r_mv (v := .bool (decide ((((stp bs p ((cl.getD k (0, 0)).1) ((cl.getD k (0, 0)).2)).2.2.1 : Nat) : Int) ≠ (((stp bs p ((cl.getD k (0, 0)).1) ((cl.getD k (0, 0)).2)).2.2.1 : Nat) : Int)))) rfl)) ?_
      have q6 : ¬ ((((stp bs p ((cl.getD k (0, 0)).1) ((cl.getD k (0, 0)).2)).2.2.1 : Nat) : Int) ≠ (((stp bs p ((cl.getD k (0, 0)).1) ((cl.getD k (0, 0)).2)).2.2.1 : Nat) : Int)) := (fun h => h rfl)
      rw [decide_eq_false q6]
      refine Wt_take (i := 21) (listed' := #[true, true, true, true, true, true, true, true, true, true, true, true, true, true, true, true, true, true, true, true, true, true, false, false, false, false, false, false, false, false, false, false, false, false, false, false, false, false]) (by kernel_rfl) rfl (by kernel_rfl) (by kernel_rfl) (by kernel_rfl) (by kernel_rfl) (YI_v (v := .pointer (some ⟨pb3, 0, none⟩)) rfl (fun w' hw' => r_mv (v := .pointer (some ⟨pb3, 0, none⟩)) rfl)) ?_
      refine Wt_take (i := 22) (listed' := #[true, true, true, true, true, true, true, true, true, true, true, true, true, true, true, true, true, true, true, true, true, true, true, false, false, false, false, false, false, false, false, false, false, false, false, false, false, false]) (by kernel_rfl) rfl (by kernel_rfl) (by kernel_rfl) (by kernel_rfl) (by kernel_rfl) (YI_c (v := .int .i64 (((n : Nat) : Int) - (((stp bs p ((cl.getD k (0, 0)).1) ((cl.getD k (0, 0)).2)).2.2.1 : Nat) : Int))) rfl (fun w' => r_call1 rfl Try.call29 rfl) (fun w' hw' => left_spec w' (hp6.upd0 hw') (by omega) (by omega) (by omega))) ?_
      refine Wt_take (i := 23) (listed' := #[true, true, true, true, true, true, true, true, true, true, true, true, true, true, true, true, true, true, true, true, true, true, true, true, false, false, false, false, false, false, false, false, false, false, false, false, false, false]) (by kernel_rfl) rfl (by kernel_rfl) (by kernel_rfl) (by kernel_rfl) (by kernel_rfl) (YI_v (v := .slice a n c) rfl (fun w' hw' => r_mv (v := .slice a n c) rfl)) ?_
      refine Wt_take (i := 24) (listed' := #[true, true, true, true, true, true, true, true, true, true, true, true, true, true, true, true, true, true, true, true, true, true, true, true, true, false, false, false, false, false, false, false, false, false, false, false, false, false]) (by kernel_rfl) rfl (by kernel_rfl) (by kernel_rfl) (by kernel_rfl) (by kernel_rfl) (YI_v (v := .int .i64 ((n : Nat) : Int)) rfl (fun w' hw' => r_len Try.underlying22 rfl)) ?_
      refine Wt_take (i := 25) (listed' := #[true, true, true, true, true, true, true, true, true, true, true, true, true, true, true, true, true, true, true, true, true, true, true, true, true, true, false, false, false, false, false, false, false, false, false, false, false, false]) (by kernel_rfl) rfl (by kernel_rfl) (by kernel_rfl) (by kernel_rfl) (by kernel_rfl) (YI_v (v := .int .i64 (((stp bs p ((cl.getD k (0, 0)).1) ((cl.getD k (0, 0)).2)).2.2.1 : Nat) : Int)) rfl (fun w' hw' => r_mv (v := .int .i64 (((stp bs p ((cl.getD k (0, 0)).1) ((cl.getD k (0, 0)).2)).2.2.1 : Nat) : Int)) rfl)) ?_
      refine Wt_take (i := 26) (listed' := #[true, true, true, true, true, true, true, true, true, true, true, true, true, true, true, true, true, true, true, true, true, true, true, true, true, true, true, false, false, false, false, false, false, false, false, false, false, false]) (by kernel_rfl) rfl (by kernel_rfl) (by kernel_rfl) (by kernel_rfl) (by kernel_rfl) (YI_v (v := .int .i64 (((n : Nat) : Int) - (((stp bs p ((cl.getD k (0, 0)).1) ((cl.getD k (0, 0)).2)).2.2.1 : Nat) : Int))) rfl (fun w' hw' => r_sub rfl rfl (wi64 (by omega) (by omega)))) ?_
      refine Wt_take (i := 27) (listed' := #[true, true, true, true, true, true, true, true, true, true, true, true, true, true, true, true, true, true, true, true, true, true, true, true, true, true, true, true, false, false, false, false, false, false, false, false, false, false]) (by kernel_rfl) rfl (by kernel_rfl) (by kernel_rfl) (by kernel_rfl) (by kernel_rfl) (YI_v (v := .bool (decide ((((n : Nat) : Int) - (((stp bs p ((cl.getD k (0, 0)).1) ((cl.getD k (0, 0)).2)).2.2.1 : Nat) : Int)) ≠ (((n : Nat) : Int) - (((stp bs p ((cl.getD k (0, 0)).1) ((cl.getD k (0, 0)).2)).2.2.1 : Nat) : Int))))) rfl (fun w' hw' => r_ne rfl rfl)) ?_
      refine Wt_take (i := 28) (listed' := #[true, true, true, true, true, true, true, true, true, true, true, true, true, true, true, true, true, true, true, true, true, true, true, true, true, true, true, true, true, false, false, false, false, false, false, false, false, false]) (by kernel_rfl) rfl (by kernel_rfl) (by kernel_rfl) (by kernel_rfl) (by kernel_rfl) (YI_v rfl (fun w' hw' => r_pick_f (v := .bool (decide ((((n : Nat) : Int) - (((stp bs p ((cl.getD k (0, 0)).1) ((cl.getD k (0, 0)).2)).2.2.1 : Nat) : Int)) ≠ (((n : Nat) : Int) - (((stp bs p ((cl.getD k (0, 0)).1) ((cl.getD k (0, 0)).2)).2.2.1 : Nat) : Int))))) rfl rfl)) ?_
      refine Wt_take (i := 29) (listed' := #[true, true, true, true, true, true, true, true, true, true, true, true, true, true, true, true, true, true, true, true, true, true, true, true, true, true, true, true, true, true, false, false, false, false, false, false, false, false]) (by kernel_rfl) rfl (by kernel_rfl) (by kernel_rfl) (by kernel_rfl) (by kernel_rfl) (YI_v (v := .bool (decide ((((n : Nat) : Int) - (((stp bs p ((cl.getD k (0, 0)).1) ((cl.getD k (0, 0)).2)).2.2.1 : Nat) : Int)) ≠ (((n : Nat) : Int) - (((stp bs p ((cl.getD k (0, 0)).1) ((cl.getD k (0, 0)).2)).2.2.1 : Nat) : Int))))) rfl (fun w' hw' => r_mv (v := .bool (decide ((((n : Nat) : Int) - (((stp bs p ((cl.getD k (0, 0)).1) ((cl.getD k (0, 0)).2)).2.2.1 : Nat) : Int)) ≠ (((n : Nat) : Int) - (((stp bs p ((cl.getD k (0, 0)).1) ((cl.getD k (0, 0)).2)).2.2.1 : Nat) : Int))))) rfl)) ?_
      have q7 : ¬ ((((n : Nat) : Int) - (((stp bs p ((cl.getD k (0, 0)).1) ((cl.getD k (0, 0)).2)).2.2.1 : Nat) : Int)) ≠ (((n : Nat) : Int) - (((stp bs p ((cl.getD k (0, 0)).1) ((cl.getD k (0, 0)).2)).2.2.1 : Nat) : Int))) := (fun h => h rfl)
      rw [decide_eq_false q7]
      refine Wt_take (i := 30) (listed' := #[true, true, true, true, true, true, true, true, true, true, true, true, true, true, true, true, true, true, true, true, true, true, true, true, true, true, true, true, true, true, true, false, false, false, false, false, false, false]) (by kernel_rfl) rfl (by kernel_rfl) (by kernel_rfl) (by kernel_rfl) (by kernel_rfl) (YI_v (v := .pointer (some ⟨pb3, 0, none⟩)) rfl (fun w' hw' => r_mv (v := .pointer (some ⟨pb3, 0, none⟩)) rfl)) ?_
      refine Wt_take (i := 32) (listed' := #[true, true, true, true, true, true, true, true, true, true, true, true, true, true, true, true, true, true, true, true, true, true, true, true, true, true, true, true, true, true, true, false, true, false, false, false, false, false]) (by kernel_rfl) rfl (by kernel_rfl) (by kernel_rfl) (by kernel_rfl) (by kernel_rfl) (YI_v (v := .slice a n c) rfl (fun w' hw' => r_mv (v := .slice a n c) rfl)) ?_
      refine Wt_take (i := 33) (listed' := #[true, true, true, true, true, true, true, true, true, true, true, true, true, true, true, true, true, true, true, true, true, true, true, true, true, true, true, true, true, true, true, false, true, true, false, false, false, false]) (by kernel_rfl) rfl (by kernel_rfl) (by kernel_rfl) (by kernel_rfl) (by kernel_rfl) (YI_v (v := .int .i64 (((stp bs p ((cl.getD k (0, 0)).1) ((cl.getD k (0, 0)).2)).2.2.1 : Nat) : Int)) rfl (fun w' hw' => r_mv (v := .int .i64 (((stp bs p ((cl.getD k (0, 0)).1) ((cl.getD k (0, 0)).2)).2.2.1 : Nat) : Int)) rfl)) ?_
      refine Wt_take (i := 34) (listed' := #[true, true, true, true, true, true, true, true, true, true, true, true, true, true, true, true, true, true, true, true, true, true, true, true, true, true, true, true, true, true, true, false, true, true, true, false, false, false]) (by kernel_rfl) rfl (by kernel_rfl) (by kernel_rfl) (by kernel_rfl) (by kernel_rfl) (YI_v (v := .slice (if c = ((stp bs p ((cl.getD k (0, 0)).1) ((cl.getD k (0, 0)).2)).2.2.1) then a else a.map (·.add (((stp bs p ((cl.getD k (0, 0)).1) ((cl.getD k (0, 0)).2)).2.2.1) * 1))) (n - ((stp bs p ((cl.getD k (0, 0)).1) ((cl.getD k (0, 0)).2)).2.2.1)) (c - ((stp bs p ((cl.getD k (0, 0)).1) ((cl.getD k (0, 0)).2)).2.2.1))) rfl (fun w' hw' => r_slicelen (l' := ((stp bs p ((cl.getD k (0, 0)).1) ((cl.getD k (0, 0)).2)).2.2.1)) (n' := n - ((stp bs p ((cl.getD k (0, 0)).1) ((cl.getD k (0, 0)).2)).2.2.1)) Try.underlying22 Try.sizeOf5 rfl rfl (by omega) (by omega) (by omega))) ?_
      have hT9 := Sl.cutl (l := ((stp bs p ((cl.getD k (0, 0)).1) ((cl.getD k (0, 0)).2)).2.2.1)) (n := n - ((stp bs p ((cl.getD k (0, 0)).1) ((cl.getD k (0, 0)).2)).2.2.1)) hb (by omega) (by omega)
      have hl_hT9 := ilen hT9
      have hc_hT9 := hT9.cap.1
      intro w10 hU10
      have hzw10 := hU10.size
      replace hb := hb.upd0 hU10
      replace hq := hq.upd0 hU10
      replace HU := HU.trans0 hU10
      replace hO2 := hO2.upd0 hU10
      replace hO3 := hO3.upd0 hU10
      replace HL4 := HL4.trans0 hU10
      replace hp6 := hp6.upd0 hU10
      replace hO6 := hO6.upd0 hU10
      replace hB8 := hB8.upd0 hU10
      replace hT9 := hT9.upd0 hU10
      refine Wa_one (i := 31) (listed' := #[true, true, true, true, true, true, true, true, true, true, true, true, true, true, true, true, true, true, true, true, true, true, true, true, true, true, true, true, true, true, true, true, true, true, true, false, false, false]) (by kernel_rfl) rfl (by kernel_rfl) ?_
      refine Ws_of_Wl ?_
      have hW : Upd No w8 w10 := hU10
      refine Wl_guard_t rfl ?_
      refine Wl_call (r_call1 rfl Try.call25 rfl) (rest_spec _ hp6 (hO3.sl.cur (by intro h1; have h3 : ((w2.heap.size ≤ pb3 ∧ pb3 ≠ pb3) ∧ pb3 < w3.heap.size) := h1; first | omega | simp at h3)) bb (by omega) (by omega)) ?_
      rintro v w11 ⟨a11, c11, rfl, hO11, hU11⟩
      have hzw11 := hU11.size
      replace hb := hb.upd0 hU11
      replace hq := hq.upd0 hU11
      replace HU := HU.trans0 hU11
      replace hO2 := hO2.upd0 hU11
      replace hO3 := hO3.upd0 hU11
      replace HL4 := HL4.trans0 hU11
      replace hp6 := hp6.upd0 hU11
      replace hO6 := hO6.upd0 hU11
      replace hB8 := hB8.upd0 hU11
      replace hT9 := hT9.upd0 hU11
      try replace hW := hW.trans0 hU11
      replace hO11 := hO11.tight
      have hl_hO11 := ilen hO11.sl
      have hc_hO11 := hO11.sl.cap.1
      refine Wl_nil ?_
      intro w12 hS12
      have hX : Upd No w8 w12 := hW.trans0 hS12.upd
      refine ⟨fun _ => ⟨hX, ?_⟩, fun h => absurd h (by rw [show barOp _ 31 = false from by kernel_rfl]; simp)⟩
      have hU12 := hS12.upd
      have hzw12 := hU12.size
      replace hb := hb.upd0 hU12
      replace hq := hq.upd0 hU12
      replace HU := HU.trans0 hU12
      replace hO2 := hO2.upd0 hU12
      replace hO3 := hO3.upd0 hU12
      replace HL4 := HL4.trans0 hU12
      replace hp6 := hp6.upd0 hU12
      replace hO6 := hO6.upd0 hU12
      replace hB8 := hB8.upd0 hU12
      replace hT9 := hT9.upd0 hU12
      replace hO11 := hO11.upd0 hU12
      try replace hW := hW.trans0 hU12
      refine Wt_base hX ?_
      refine Wt_take (i := 35) (listed' := #[true, true, true, true, true, true, true, true, true, true, true, true, true, true, true, true, true, true, true, true, true, true, true, true, true, true, true, true, true, true, true, true, true, true, true, true, false, false]) (by kernel_rfl) rfl (by kernel_rfl) (by kernel_rfl) (by kernel_rfl) (by kernel_rfl) (YI_c (v := .bool (decide ((bs.drop ((stp bs p ((cl.getD k (0, 0)).1) ((cl.getD k (0, 0)).2)).2.2.1)) = (bs.drop ((stp bs p ((cl.getD k (0, 0)).1) ((cl.getD k (0, 0)).2)).2.2.1))))) rfl (fun w' => r_call2 rfl Try.call13 rfl rfl) (fun w' hw' => same_spec w' ((hO11.upd0 hw').sl.any) ((hT9.upd0 hw').any) (byt_drop bb _) (byt_drop bb _))) ?_
      refine Wt_take (i := 36) (listed' := #[true, true, true, true, true, true, true, true, true, true, true, true, true, true, true, true, true, true, true, true, true, true, true, true, true, true, true, true, true, true, true, true, true, true, true, true, true, false]) (by kernel_rfl) rfl (by kernel_rfl) (by kernel_rfl) (by kernel_rfl) (by kernel_rfl) (YI_v (v := .bool (!decide ((bs.drop ((stp bs p ((cl.getD k (0, 0)).1) ((cl.getD k (0, 0)).2)).2.2.1)) = (bs.drop ((stp bs p ((cl.getD k (0, 0)).1) ((cl.getD k (0, 0)).2)).2.2.1))))) rfl (fun w' hw' => r_not rfl)) ?_
      refine Wt_take (i := 37) (listed' := #[true, true, true, true, true, true, true, true, true, true, true, true, true, true, true, true, true, true, true, true, true, true, true, true, true, true, true, true, true, true, true, true, true, true, true, true, true, true]) (by kernel_rfl) rfl (by kernel_rfl) (by kernel_rfl) (by kernel_rfl) (by kernel_rfl) (YI_v rfl (fun w' hw' => r_pick_f (v := .bool (!decide ((bs.drop ((stp bs p ((cl.getD k (0, 0)).1) ((cl.getD k (0, 0)).2)).2.2.1)) = (bs.drop ((stp bs p ((cl.getD k (0, 0)).1) ((cl.getD k (0, 0)).2)).2.2.1))))) rfl rfl)) ?_
      intro w13 hU13
      have hzw13 := hU13.size
      replace hb := hb.upd0 hU13
      replace hq := hq.upd0 hU13
      replace HU := HU.trans0 hU13
      replace hO2 := hO2.upd0 hU13
      replace hO3 := hO3.upd0 hU13
      replace HL4 := HL4.trans0 hU13
      replace hp6 := hp6.upd0 hU13
      replace hO6 := hO6.upd0 hU13
      replace hB8 := hB8.upd0 hU13
      replace hT9 := hT9.upd0 hU13
      replace hO11 := hO11.upd0 hU13
      try replace hW := hW.trans0 hU13
      refine Wa_done (by kernel_rfl) ?_
      have q8 : (bs.drop ((stp bs p ((cl.getD k (0, 0)).1) ((cl.getD k (0, 0)).2)).2.2.1)) = (bs.drop ((stp bs p ((cl.getD k (0, 0)).1) ((cl.getD k (0, 0)).2)).2.2.1)) := rfl
      rw [decide_eq_true q8]
      simp only [Bool.not_true, Bool.not_false]
      refine W_cond_f rfl ?_
      refine W_skip ?_
      refine W_region ?_
      refine Wl_v (r_mv (v := .int .i64 ((k : Nat) : Int)) rfl) ?_
      refine Wl_v (r_add rfl rfl (wi64 (by omega) (by omega))) ?_
      refine Wl_v (r_as (v := .int .i64 (((k : Nat) : Int) + 1)) rfl) ?_
      refine Wl_nil ?_
      refine ⟨_, ?_, (k + 1), (stp bs p (cl.getD k (0, 0)).1 (cl.getD k (0, 0)).2).2.2.1, rfl, rfl, ⟨rfl, rfl, rfl, (by first | rfl | exact vint (by omega) | exact vint (by simp)), (by first | rfl | exact vint (by omega) | exact vint (by simp)), trivial⟩, (by omega), (by omega), hp6, HL4⟩
      omega
    · rw [decide_eq_false q2]
      refine W_cond_f rfl ?_
      refine W_exit ?_
      refine W_seq ?_
      refine W_region ?_
      refine Wl_call (r_call0 rfl Try.call19 ) (known_spec _ ) ?_
      rintro v w14 ⟨rfl, hU14⟩
      have hzw14 := hU14.size
      replace hb := hb.upd0 hU14
      replace hq := hq.upd0 hU14
      replace HU := HU.trans0 hU14
      replace hO2 := hO2.upd0 hU14
      replace hO3 := hO3.upd0 hU14
      replace hp3 := hp3.upd0 hU14
      replace HL4 := HL4.trans0 hU14
      refine Wl_v (r_as (v := .bool true) rfl) ?_
      refine Wl_nil ?_
      refine W_ret ?_
      refine ret_end (v := .bool true) rfl (res1 Try.results10 rfl) ?_
      exact ⟨_, rfl, rfl, HU⟩

end Go.Proofs.Ytigojafhogjnfaa
