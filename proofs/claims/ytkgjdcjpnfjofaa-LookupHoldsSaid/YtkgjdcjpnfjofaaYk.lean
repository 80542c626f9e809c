/-
  Walks, printed by a small program of this project (gen.py).
-/
import Derived.Test.YtkgjdcjpnfjofaaYi
import Derived.Test.YtkgjdcjpnfjofaaEb
set_option linter.unusedVariables false
set_option linter.unusedSimpArgs false
namespace Go.Proofs.Ytkgjdcjpnfjofaa
open Go.Fw

theorem mod_nat15 {x : Int} {m : Nat} (h : 0 < m) : ∃ k : Nat, x % ((m : Nat) : Int) = ((k : Nat) : Int) ∧ k < m := by
  have h1 := Int.emod_nonneg x (b := (m : Int)) (by omega)
  have h2 := Int.emod_lt_of_pos x (b := (m : Int)) (by omega)
  exact ⟨(x % (m : Int)).toNat, by omega, by omega⟩

set_option maxHeartbeats 4000000 in
set_option maxRecDepth 100000 in
theorem lookupholds {a : Option Addr} {n c : Nat} {l : List Int} {bits : Int} (w : World) (hs : Sl w (fun g => g < w.heap.size) 1 (.slice a n c) n (ints .i64 l)) (hn : n ≤ 17592186044415) (rbits : 0 ≤ bits ∧ bits < 18446744073709551616) :
    Calls Try.prog 8 #[.slice a n c, .int .u64 bits] w (Ret fun v w' => v = .bool true ∧ Upd No w w') := by
  have HU : Upd (fun b => False) w w := Upd.refl _ _
  have hl_hs := ilen hs
  have hc_hs := hs.cap.1
  have hmx := mx_bt l
  refine calls_of_W Try.func8 rfl Try.ntmps8 (by simp) ?_
  refine W_seq ?_
  refine W_region ?_
  refine Wl_v (r_as (v := .bool false) rfl) ?_
  refine Wl_nil ?_
  refine W_seq ?_
  refine W_seq ?_
  refine W_region ?_
  refine Wl_v (r_mv (v := .slice a n c) rfl) ?_
  refine Wl_v (r_len Try.underlying22 rfl) ?_
  refine Wl_v (r_gt rfl rfl) ?_
  refine Wl_v (r_mv (v := .bool (decide (256 < ((n : Nat) : Int)))) rfl) ?_
  by_cases q1 : 256 < ((n : Nat) : Int)
  · rw [decide_eq_true q1]
    refine Wl_guard_f rfl ?_
    refine Wl_guard_f rfl ?_
    refine Wl_guard_f rfl ?_
    refine Wl_v (r_pick_t (v := .bool true) rfl rfl) ?_
    refine Wl_nil ?_
    refine W_cond_t rfl ?_
    refine W_seq ?_
    refine W_region ?_
    refine Wl_call (r_call0 rfl Try.call11 ) (works15 _ ) ?_
    rintro v w1 ⟨rfl, hU1⟩
    have hzw1 := hU1.size
    replace hs := hs.upd0 hU1
    replace HU := HU.trans0 hU1
    refine Wl_v (r_as (v := .bool true) rfl) ?_
    refine Wl_nil ?_
    refine W_ret ?_
    refine ret_end (v := .bool true) rfl (res1 Try.results8 rfl) ?_
    exact ⟨_, rfl, rfl, HU⟩
  · rw [decide_eq_false q1]
    refine Wl_guard_t rfl ?_
    refine Wl_v (r_mv (v := .slice a n c) rfl) ?_
    refine Wl_guard_t rfl ?_
    refine Wl_call (r_call1 rfl Try.call21 rfl) (rright_spec _ hs (by omega)) ?_
    rintro v w2 ⟨rfl, hU2⟩
    have hzw2 := hU2.size
    replace hs := hs.upd0 hU2
    replace HU := HU.trans0 hU2
    refine Wl_guard_t rfl ?_
    refine Wl_v (r_not rfl) ?_
    refine Wl_v (r_pick_f (v := .bool (!decide (Rt l))) rfl rfl) ?_
    refine Wl_nil ?_
    by_cases q2 : Rt l
    · have hbt := bt_bd q2
      have h11 := (p2_le11 hbt.2).2
      have hpn := p2_nat (bt l)
      have h256 := (q2).2.1
      have hmx := mx_bt l
      have hp1 : 1 ≤ 2 ^ bt l := Nat.one_le_two_pow
      rw [decide_eq_true q2]
      simp only [Bool.not_true, Bool.not_false]
      refine W_cond_f rfl ?_
      refine W_skip ?_
      refine W_seq ?_
      refine W_region ?_
      refine Wl_v (r_mv (v := .slice a n c) rfl) ?_
      refine Wl_call (r_call1 rfl Try.call17 rfl) (new_ok _ hs (by omega) q2) ?_
      rintro v w3 ⟨tb3, ea3, ec3, la3, lc3, rfl, hT3, hE3, hL3, htg_3, hU3⟩
      have hzw3 := hU3.size
      replace hs := hs.upd0 hU3
      replace HU := HU.trans0 hU3
      have hbl_hT3 := hT3.lt
      replace hE3 := hE3.tight
      have hl_hE3 := rlen encE_len (by decide) hE3.sl
      have hc_hE3 := hE3.sl.cap.1
      replace hL3 := hL3.tight
      have hl_hL3 := ilen hL3.sl
      have hc_hL3 := hL3.sl.cap.1
      refine Wl_v (r_mv (v := .tuple #[.pointer (some ⟨tb3, 0, none⟩), .int .i64 0]) rfl) ?_
      refine Wl_v (r_ext (v := .pointer (some ⟨tb3, 0, none⟩)) rfl rfl) ?_
      refine Wl_v (r_ext (v := .int .i64 0) rfl rfl) ?_
      refine Wl_v (r_as (v := .pointer (some ⟨tb3, 0, none⟩)) rfl) ?_
      refine Wl_v (r_as (v := .int .i64 0) rfl) ?_
      refine Wl_nil ?_
      refine W_seq ?_
      refine W_region ?_
      refine Wl_v (r_mv (v := .slice a n c) rfl) ?_
      refine Wl_call (r_call1 rfl Try.call12 rfl) (entries_ok _ hs (by omega) q2) ?_
      rintro v w4 ⟨a4, c4, rfl, hO4, hU4⟩
      have hzw4 := hU4.size
      replace hs := hs.upd0 hU4
      replace HU := HU.trans0 hU4
      replace hT3 := hT3.upd0 hU4
      replace hE3 := hE3.upd0 hU4
      replace hL3 := hL3.upd0 hU4
      replace hO4 := hO4.tight
      have hl_hO4 := rlen encE_len (by decide) hO4.sl
      have hc_hO4 := hO4.sl.cap.1
      refine Wl_v (r_mv (v := .tuple #[.slice a4 (2 ^ bt l) c4, .int .i64 0]) rfl) ?_
      refine Wl_v (r_ext (v := .slice a4 (2 ^ bt l) c4) rfl rfl) ?_
      refine Wl_v (r_ext (v := .int .i64 0) rfl rfl) ?_
      refine Wl_v (r_as (v := .slice a4 (2 ^ bt l) c4) rfl) ?_
      refine Wl_v (r_as (v := .int .i64 0) rfl) ?_
      refine Wl_nil ?_
      refine W_seq ?_
      refine W_region ?_
      refine Wl_v (r_mv (v := .pointer (some ⟨tb3, 0, none⟩)) rfl) ?_
      refine Wl_call (r_call1 rfl Try.call20 rfl) (bits_ok _ hT3 q2) ?_
      rintro v w5 ⟨rfl, hU5⟩
      have hzw5 := hU5.size
      replace hs := hs.upd0 hU5
      replace HU := HU.trans0 hU5
      replace hT3 := hT3.upd0 hU5
      replace hE3 := hE3.upd0 hU5
      replace hL3 := hL3.upd0 hU5
      replace hO4 := hO4.upd0 hU5
      refine Wl_v (r_as (v := .int .i64 ((bt l : Nat) : Int)) rfl) ?_
      refine Wl_nil ?_
      refine W_seq ?_
      refine W_seq ?_
      refine W_region ?_
      refine Wl_v (r_mv (v := .int .i64 0) rfl) ?_
      refine Wl_call (r_call1 rfl Try.call15 rfl) (num15 _ ) ?_
      rintro v w6 ⟨rfl, hU6⟩
      have hzw6 := hU6.size
      replace hs := hs.upd0 hU6
      replace HU := HU.trans0 hU6
      replace hT3 := hT3.upd0 hU6
      replace hE3 := hE3.upd0 hU6
      replace hL3 := hL3.upd0 hU6
      replace hO4 := hO4.upd0 hU6
      refine Wl_v (r_mv (v := .int .i64 0) rfl) ?_
      refine Wl_call (r_call1 rfl Try.call15 rfl) (num15 _ ) ?_
      rintro v w7 ⟨rfl, hU7⟩
      have hzw7 := hU7.size
      replace hs := hs.upd0 hU7
      replace HU := HU.trans0 hU7
      replace hT3 := hT3.upd0 hU7
      replace hE3 := hE3.upd0 hU7
      replace hL3 := hL3.upd0 hU7
      replace hO4 := hO4.upd0 hU7
      refine Wl_v (r_add rfl rfl (show IntKind.i64.wrap (0 + 0) = 0 by decide)) ?_
      refine Wl_v (v := .bool false) (r_ne (a := 0) (b := 0) rfl rfl) ?_
      refine Wl_v (r_mv (v := .bool false) rfl) ?_
      refine Wl_guard_t rfl ?_
      refine Wl_v (r_mv (v := .int .i64 ((bt l : Nat) : Int)) rfl) ?_
      refine Wl_guard_t rfl ?_
      refine Wl_v (r_lt rfl rfl) ?_
      refine Wl_v (r_pick_f (v := .bool (decide (((bt l : Nat) : Int) < 1))) rfl rfl) ?_
      refine Wl_v (r_mv (v := .bool (decide (((bt l : Nat) : Int) < 1))) rfl) ?_
      have q3 : ¬ (((bt l : Nat) : Int) < 1) := (by omega)
      rw [decide_eq_false q3]
      refine Wl_guard_t rfl ?_
      refine Wl_v (r_mv (v := .int .i64 ((bt l : Nat) : Int)) rfl) ?_
      refine Wl_guard_t rfl ?_
      refine Wl_v (r_gt rfl rfl) ?_
      refine Wl_v (r_pick_f (v := .bool (decide (11 < ((bt l : Nat) : Int)))) rfl rfl) ?_
      refine Wl_v (r_mv (v := .bool (decide (11 < ((bt l : Nat) : Int)))) rfl) ?_
      have q4 : ¬ (11 < ((bt l : Nat) : Int)) := (by omega)
      rw [decide_eq_false q4]
      refine Wl_guard_t rfl ?_
      refine Wl_v (r_mv (v := .slice a4 (2 ^ bt l) c4) rfl) ?_
      refine Wl_guard_t rfl ?_
      refine Wl_v (r_len Try.underlying24 rfl) ?_
      refine Wl_guard_t rfl ?_
      refine Wl_v (r_mv (v := .int .i64 ((bt l : Nat) : Int)) rfl) ?_
      refine Wl_guard_t rfl ?_
      refine Wl_v (r_shl rfl rfl (by omega) (by simpa using shlT (d := ((bt l : Nat) : Int)) (by omega) (by omega))) ?_
      refine Wl_guard_t rfl ?_
      refine Wl_v (r_ne rfl rfl) ?_
      refine Wl_v (r_pick_f (v := .bool (decide (((2 ^ bt l : Nat) : Int) ≠ ((2 ^ bt l : Nat) : Int)))) rfl rfl) ?_
      refine Wl_nil ?_
      have q5 : ¬ (((2 ^ bt l : Nat) : Int) ≠ ((2 ^ bt l : Nat) : Int)) := (by omega)
      rw [decide_eq_false q5]
      refine W_cond_f rfl ?_
      refine W_skip ?_
      refine W_seq ?_
      refine W_region ?_
      refine Wl_v (r_mv (v := .slice a n c) rfl) ?_
      refine Wl_v (r_len Try.underlying22 rfl) ?_
      refine Wl_makeo (c' := n) (zc := [.int .i64 0]) (cs := ints .i64 (List.replicate n 0)) (sz := 1) Try.underlying22 (ti := Try.t3) (z := .int .i64 0) rfl rfl rfl rfl (by decide) rfl rfl (by omega) (by omega) (by show 8 * _ ≤ _; omega) (by simp only [maxLen]; omega) (by simp [ints]) rfl ?_
      intro B8 w8 hB8 hU8 hzz8 hO8
      have hzw8 := hU8.size
      replace hs := hs.upd0 hU8
      replace HU := HU.trans0 hU8
      replace hT3 := hT3.upd0 hU8
      replace hE3 := hE3.upd0 hU8
      replace hL3 := hL3.upd0 hU8
      replace hO4 := hO4.upd0 hU8
      have hl_hO8 := ilen hO8.sl
      have hc_hO8 := hO8.sl.cap.1
      refine Wl_v (r_as (v := .slice (some ⟨B8, 0, none⟩) n n) rfl) ?_
      refine Wl_nil ?_
      refine W_seq ?_
      refine W_seq ?_
      refine W_region ?_
      refine Wl_v (r_as (v := .int .i64 0) rfl) ?_
      refine Wl_nil ?_
      refine W_block ?_
      refine W_loop (fun mu ρ ds w' => ∃ (i : Nat), 2 ^ bt l - i = mu ∧ ds = [] ∧ Liv ρ [(0, .slice a n c), (1, .int .u64 bits), (5, .pointer (some ⟨tb3, 0, none⟩)), (7, .slice a4 (2 ^ bt l) c4), (9, .int .i64 ((bt l : Nat) : Int)), (10, .slice (some ⟨B8, 0, none⟩) n n), (11, .int .i64 ((i : Nat) : Int))] ∧ i ≤ 2 ^ bt l ∧ Own w' (fun g => g = B8) 3 1 (.slice (some ⟨B8, 0, none⟩) n n) n (ints .i64 (cl l i)) ∧ Upd (fun g => g = B8) w8 w') _ ⟨0, rfl, rfl, ⟨rfl, rfl, rfl, rfl, rfl, rfl, (by first | rfl | exact vint (by omega) | exact vint (by simp)), trivial⟩, (Nat.zero_le _), (hO8.icong (by rw [cl_zero, hl_hs])), Upd.refl _ _⟩ ?_
      rintro m9 ρ9 ds9 w9 ⟨i, rfl, rfl, hl9, hi, hO8, hU9⟩
      obtain ⟨ρ9x, rfl⟩ : ∃ ρx, ρ9 = upds ρx [(0, .slice a n c), (1, .int .u64 bits), (5, .pointer (some ⟨tb3, 0, none⟩)), (7, .slice a4 (2 ^ bt l) c4), (9, .int .i64 ((bt l : Nat) : Int)), (10, .slice (some ⟨B8, 0, none⟩) n n), (11, .int .i64 ((i : Nat) : Int))] := ⟨_, upds_self hl9⟩
      clear hl9
      have hzw9 := hU9.size
      replace hs := hs.upd hU9 (by intro x h1 h2; have h3 : x < w.heap.size := h1; have h4 : x = B8 := h2; omega)
      replace HU := HU.trans hU9 (by intro x hx; have hx2 : x = B8 := hx; show (False) ∨ w.heap.size ≤ x; omega)
      replace hT3 := hT3.upd hU9 (by intro hx; have hx2 : tb3 = B8 := hx; omega)
      replace hE3 := hE3.upd hU9 (by intro x h1 h2; have h3 : ((w2.heap.size ≤ x ∧ x ≠ tb3) ∧ x < w3.heap.size) := h1; have h4 : x = B8 := h2; omega)
      replace hL3 := hL3.upd hU9 (by intro x h1 h2; have h3 : ((w2.heap.size ≤ x ∧ x ≠ tb3) ∧ x < w3.heap.size) := h1; have h4 : x = B8 := h2; omega)
      replace hO4 := hO4.upd hU9 (by intro x h1 h2; have h3 : ((w3.heap.size ≤ x) ∧ x < w4.heap.size) := h1; have h4 : x = B8 := h2; omega)
      have HL9 := hU9
      refine W_seq ?_
      refine W_seq ?_
      refine W_region ?_
      refine Wl_v (r_mv (v := .int .i64 ((i : Nat) : Int)) rfl) ?_
      refine Wl_v (r_mv (v := .slice a4 (2 ^ bt l) c4) rfl) ?_
      refine Wl_v (r_len Try.underlying24 rfl) ?_
      refine Wl_v (r_lt rfl rfl) ?_
      refine Wl_nil ?_
      by_cases q6 : ((i : Nat) : Int) < ((2 ^ bt l : Nat) : Int)
      · have hin : i < 2 ^ bt l := by omega
        have htg : (tbl l).getD i (0, 0) = ent l i := tbl_get hin
        have htg2 : (tbl l).getD (i - 1) (0, 0) = ent l (i - 1) := tbl_get (by omega)
        obtain ⟨j, hej, hjl, hj1, hj2⟩ := ent_bd q2 (i := i) (by omega)
        have hs1 : ((tbl l).getD i (0, 0)).1 = (j : Int) := by rw [htg, hej]
        have hs2 : ((tbl l).getD i (0, 0)).2 = l.getD j 0 := by rw [htg, hej]
        have hsn : (((tbl l).getD i (0, 0)).1).toNat = j := by omega
        have hcs : (cl l i).set (((tbl l).getD i (0, 0)).1).toNat ((cl l i).getD (((tbl l).getD i (0, 0)).1).toNat 0 + 1) = cl l (i + 1) := by rw [hsn]; exact cl_step hjl (by rw [← htg]; exact hs1)
        have hclb := cntE_le (tabn i (ent l)) j
        have hcln := cntE_nonneg (tabn i (ent l)) j
        have hcg : (cl l i).getD (((tbl l).getD i (0, 0)).1).toNat 0 = cntE (tabn i (ent l)) j := by rw [hsn]; exact cl_get hjl
        rw [tabn_len] at hclb
        rw [decide_eq_true q6]
        refine W_cond_t rfl ?_
        refine W_skip ?_
        refine W_seq ?_
        refine W_block ?_
        refine W_seq ?_
        refine W_region ?_
        refine Wl_v (r_mv (v := .slice a4 (2 ^ bt l) c4) rfl) ?_
        refine Wl_v (r_mv (v := .int .i64 ((i : Nat) : Int)) rfl) ?_
        refine Wl_idxr (0, 0) encE_len (by decide) Try.underlying24 Try.sizeOf38 rfl rfl hO4.sl (by omega) (by omega) ?_
        intro ib10 io10 hc10
        try rw [Int.toNat_natCast] at hc10
        refine Wl_v (r_loada (cs := [.int .i64 (((tbl l).getD i (0, 0)).1), .int .i64 (((tbl l).getD i (0, 0)).2)]) Try.isAgg38 Try.sizeOf38 rfl rfl hc10) ?_
        refine Wl_alloc (cs := [.int .i64 0, .int .i64 0]) Try.zeroValue38 rfl ?_
        intro B11 w11 hB11 hU11 hzz11 hb11
        have hzw11 := hU11.size
        replace hs := hs.upd0 hU11
        replace HU := HU.trans0 hU11
        replace hT3 := hT3.upd0 hU11
        replace hE3 := hE3.upd0 hU11
        replace hL3 := hL3.upd0 hU11
        replace hO4 := hO4.upd0 hU11
        replace hO8 := hO8.upd0 hU11
        replace HL9 := HL9.trans0 hU11
        refine Wl_storea (off := 0) (vs := [.int .i64 (((tbl l).getD i (0, 0)).1), .int .i64 (((tbl l).getD i (0, 0)).2)]) (cs' := [.int .i64 (((tbl l).getD i (0, 0)).1), .int .i64 (((tbl l).getD i (0, 0)).2)]) Try.sizeOf38 rfl rfl rfl (by simp only [List.mem_cons, List.not_mem_nil, or_false, forall_eq_or_imp, forall_eq]; exact ⟨rfl, rfl⟩) hb11 (by simp) rfl ?_
        intro w12 hU12 hzz12 hb11n
        replace hb11 := hb11n; clear hb11n
        have hzw12 := hU12.size
        replace hs := hs.upd1 hU12 (by intro h1; have h3 : B11 < w.heap.size := h1; omega)
        replace HU := HU.trans1 hU12 (by show (False) ∨ w.heap.size ≤ B11; omega)
        replace hT3 := hT3.upd1 hU12 (by omega)
        replace hE3 := hE3.upd1 hU12 (by intro h1; have h3 : ((w2.heap.size ≤ B11 ∧ B11 ≠ tb3) ∧ B11 < w3.heap.size) := h1; omega)
        replace hL3 := hL3.upd1 hU12 (by intro h1; have h3 : ((w2.heap.size ≤ B11 ∧ B11 ≠ tb3) ∧ B11 < w3.heap.size) := h1; omega)
        replace hO4 := hO4.upd1 hU12 (by intro h1; have h3 : ((w3.heap.size ≤ B11) ∧ B11 < w4.heap.size) := h1; omega)
        replace hO8 := hO8.upd1 hU12 (by intro h1; have h3 : B11 = B8 := h1; omega)
        replace HL9 := HL9.trans1 hU12 (by show (B11 = B8) ∨ w8.heap.size ≤ B11; omega)
        refine Wl_nil ?_
        refine W_seq ?_
        refine W_seq ?_
        refine W_drawt rfl (l0 := #[false, false, false, false, false, false, false, false, false, false, false, false, false, false, false, false, false, false, false, false, false, false, false, false, false, false, false, false, false, false, false, false, false, false, false, false, false, false, false, false, false, false, false, false, false, false]) (by kernel_rfl) ?_
        refine Wt_take (i := 0) (listed' := #[true, false, false, false, false, false, false, false, false, false, false, false, false, false, false, false, false, false, false, false, false, false, false, false, false, false, false, false, false, false, false, false, false, false, false, false, false, false, false, false, false, false, false, false, false, false]) (by kernel_rfl) rfl (by kernel_rfl) (by kernel_rfl) (by kernel_rfl) (by kernel_rfl) (YI_v (v := .pointer (some ⟨B11, 0, none⟩)) rfl (fun w' hw' => r_fld Try.underlying38 rfl Try.sizeOf3 rfl rfl)) ?_
        refine Wt_take (i := 1) (listed' := #[true, true, false, false, false, false, false, false, false, false, false, false, false, false, false, false, false, false, false, false, false, false, false, false, false, false, false, false, false, false, false, false, false, false, false, false, false, false, false, false, false, false, false, false, false, false]) (by kernel_rfl) rfl (by kernel_rfl) (by kernel_rfl) (by kernel_rfl) (by kernel_rfl) (YI_v (v := .int .i64 (((tbl l).getD i (0, 0)).1)) rfl (fun w' hw' => r_load Try.isAgg3 rfl (by rw [(hb11.upd0 hw').cell]; rfl))) ?_
        refine Wt_take (i := 2) (listed' := #[true, true, true, false, false, false, false, false, false, false, false, false, false, false, false, false, false, false, false, false, false, false, false, false, false, false, false, false, false, false, false, false, false, false, false, false, false, false, false, false, false, false, false, false, false, false]) (by kernel_rfl) rfl (by kernel_rfl) (by kernel_rfl) (by kernel_rfl) (by kernel_rfl) (YI_v (v := .bool (decide ((((tbl l).getD i (0, 0)).1) < 0))) rfl (fun w' hw' => r_lt rfl rfl)) ?_
        refine Wt_take (i := 3) (listed' := #[true, true, true, true, false, false, false, false, false, false, false, false, false, false, false, false, false, false, false, false, false, false, false, false, false, false, false, false, false, false, false, false, false, false, false, false, false, false, false, false, false, false, false, false, false, false]) (by kernel_rfl) rfl (by kernel_rfl) (by kernel_rfl) (by kernel_rfl) (by kernel_rfl) (YI_v (v := .bool (decide ((((tbl l).getD i (0, 0)).1) < 0))) rfl (fun w' hw' => r_mv (v := .bool (decide ((((tbl l).getD i (0, 0)).1) < 0))) rfl)) ?_
        have q7 : ¬ ((((tbl l).getD i (0, 0)).1) < 0) := (by omega)
        rw [decide_eq_false q7]
        refine Wt_take (i := 4) (listed' := #[true, true, true, true, true, false, false, false, false, false, false, false, false, false, false, false, false, false, false, false, false, false, false, false, false, false, false, false, false, false, false, false, false, false, false, false, false, false, false, false, false, false, false, false, false, false]) (by kernel_rfl) rfl (by kernel_rfl) (by kernel_rfl) (by kernel_rfl) (by kernel_rfl) (YI_v (v := .pointer (some ⟨B11, 0, none⟩)) rfl (fun w' hw' => r_fld Try.underlying38 rfl Try.sizeOf3 rfl rfl)) ?_
        refine Wt_take (i := 5) (listed' := #[true, true, true, true, true, true, false, false, false, false, false, false, false, false, false, false, false, false, false, false, false, false, false, false, false, false, false, false, false, false, false, false, false, false, false, false, false, false, false, false, false, false, false, false, false, false]) (by kernel_rfl) rfl (by kernel_rfl) (by kernel_rfl) (by kernel_rfl) (by kernel_rfl) (YI_v (v := .int .i64 (((tbl l).getD i (0, 0)).1)) rfl (fun w' hw' => r_load Try.isAgg3 rfl (by rw [(hb11.upd0 hw').cell]; rfl))) ?_
        refine Wt_take (i := 6) (listed' := #[true, true, true, true, true, true, true, false, false, false, false, false, false, false, false, false, false, false, false, false, false, false, false, false, false, false, false, false, false, false, false, false, false, false, false, false, false, false, false, false, false, false, false, false, false, false]) (by kernel_rfl) rfl (by kernel_rfl) (by kernel_rfl) (by kernel_rfl) (by kernel_rfl) (YI_v (v := .slice a n c) rfl (fun w' hw' => r_mv (v := .slice a n c) rfl)) ?_
        refine Wt_take (i := 7) (listed' := #[true, true, true, true, true, true, true, true, false, false, false, false, false, false, false, false, false, false, false, false, false, false, false, false, false, false, false, false, false, false, false, false, false, false, false, false, false, false, false, false, false, false, false, false, false, false]) (by kernel_rfl) rfl (by kernel_rfl) (by kernel_rfl) (by kernel_rfl) (by kernel_rfl) (YI_v (v := .int .i64 ((n : Nat) : Int)) rfl (fun w' hw' => r_len Try.underlying22 rfl)) ?_
        refine Wt_take (i := 8) (listed' := #[true, true, true, true, true, true, true, true, true, false, false, false, false, false, false, false, false, false, false, false, false, false, false, false, false, false, false, false, false, false, false, false, false, false, false, false, false, false, false, false, false, false, false, false, false, false]) (by kernel_rfl) rfl (by kernel_rfl) (by kernel_rfl) (by kernel_rfl) (by kernel_rfl) (YI_v (v := .bool (decide (((n : Nat) : Int) ≤ (((tbl l).getD i (0, 0)).1)))) rfl (fun w' hw' => r_ge rfl rfl)) ?_
        refine Wt_take (i := 9) (listed' := #[true, true, true, true, true, true, true, true, true, true, false, false, false, false, false, false, false, false, false, false, false, false, false, false, false, false, false, false, false, false, false, false, false, false, false, false, false, false, false, false, false, false, false, false, false, false]) (by kernel_rfl) rfl (by kernel_rfl) (by kernel_rfl) (by kernel_rfl) (by kernel_rfl) (YI_v rfl (fun w' hw' => r_pick_f (v := .bool (decide (((n : Nat) : Int) ≤ (((tbl l).getD i (0, 0)).1)))) rfl rfl)) ?_
        refine Wt_take (i := 10) (listed' := #[true, true, true, true, true, true, true, true, true, true, true, false, false, false, false, false, false, false, false, false, false, false, false, false, false, false, false, false, false, false, false, false, false, false, false, false, false, false, false, false, false, false, false, false, false, false]) (by kernel_rfl) rfl (by kernel_rfl) (by kernel_rfl) (by kernel_rfl) (by kernel_rfl) (YI_v (v := .bool (decide (((n : Nat) : Int) ≤ (((tbl l).getD i (0, 0)).1)))) rfl (fun w' hw' => r_mv (v := .bool (decide (((n : Nat) : Int) ≤ (((tbl l).getD i (0, 0)).1)))) rfl)) ?_
        have q8 : ¬ (((n : Nat) : Int) ≤ (((tbl l).getD i (0, 0)).1)) := (by omega)
        rw [decide_eq_false q8]
        refine Wt_take (i := 11) (listed' := #[true, true, true, true, true, true, true, true, true, true, true, true, false, false, false, false, false, false, false, false, false, false, false, false, false, false, false, false, false, false, false, false, false, false, false, false, false, false, false, false, false, false, false, false, false, false]) (by kernel_rfl) rfl (by kernel_rfl) (by kernel_rfl) (by kernel_rfl) (by kernel_rfl) (YI_v (v := .pointer (some ⟨B11, 1, none⟩)) rfl (fun w' hw' => r_fld Try.underlying38 rfl Try.sizeOf3 rfl rfl)) ?_
        refine Wt_take (i := 12) (listed' := #[true, true, true, true, true, true, true, true, true, true, true, true, true, false, false, false, false, false, false, false, false, false, false, false, false, false, false, false, false, false, false, false, false, false, false, false, false, false, false, false, false, false, false, false, false, false]) (by kernel_rfl) rfl (by kernel_rfl) (by kernel_rfl) (by kernel_rfl) (by kernel_rfl) (YI_v (v := .int .i64 (((tbl l).getD i (0, 0)).2)) rfl (fun w' hw' => r_load Try.isAgg3 rfl (by rw [(hb11.upd0 hw').cell]; rfl))) ?_
        refine Wt_take (i := 13) (listed' := #[true, true, true, true, true, true, true, true, true, true, true, true, true, true, false, false, false, false, false, false, false, false, false, false, false, false, false, false, false, false, false, false, false, false, false, false, false, false, false, false, false, false, false, false, false, false]) (by kernel_rfl) rfl (by kernel_rfl) (by kernel_rfl) (by kernel_rfl) (by kernel_rfl) (YI_v (v := .slice a n c) rfl (fun w' hw' => r_mv (v := .slice a n c) rfl)) ?_
        refine Wt_take (i := 14) (listed' := #[true, true, true, true, true, true, true, true, true, true, true, true, true, true, true, false, false, false, false, false, false, false, false, false, false, false, false, false, false, false, false, false, false, false, false, false, false, false, false, false, false, false, false, false, false, false]) (by kernel_rfl) rfl (by kernel_rfl) (by kernel_rfl) (by kernel_rfl) (by kernel_rfl) (YI_v (v := .pointer (some ⟨B11, 0, none⟩)) rfl (fun w' hw' => r_fld Try.underlying38 rfl Try.sizeOf3 rfl rfl)) ?_
        refine Wt_take (i := 15) (listed' := #[true, true, true, true, true, true, true, true, true, true, true, true, true, true, true, true, false, false, false, false, false, false, false, false, false, false, false, false, false, false, false, false, false, false, false, false, false, false, false, false, false, false, false, false, false, false]) (by kernel_rfl) rfl (by kernel_rfl) (by kernel_rfl) (by kernel_rfl) (by kernel_rfl) (YI_v (v := .int .i64 (((tbl l).getD i (0, 0)).1)) rfl (fun w' hw' => r_load Try.isAgg3 rfl (by rw [(hb11.upd0 hw').cell]; rfl))) ?_
        obtain ⟨ib13, io13, ha13, hib13, hc13⟩ := (hs).iat (i := (((tbl l).getD i (0, 0)).1).toNat) (by omega)
        replace hib13 : ib13 < w.heap.size := hib13
        refine Wt_take (i := 16) (listed' := #[true, true, true, true, true, true, true, true, true, true, true, true, true, true, true, true, true, false, false, false, false, false, false, false, false, false, false, false, false, false, false, false, false, false, false, false, false, false, false, false, false, false, false, false, false, false]) (by kernel_rfl) rfl (by kernel_rfl) (by kernel_rfl) (by kernel_rfl) (by kernel_rfl) (YI_v (v := .pointer (some ⟨ib13, io13 + (((tbl l).getD i (0, 0)).1).toNat, none⟩)) rfl (fun w' hw' => r_idx (b := ib13) (off := io13) (m := n) (c := c) (o' := io13 + (((tbl l).getD i (0, 0)).1).toNat) Try.underlying22 Try.sizeOf3 (by rw [← ha13]; rfl) rfl (by omega) (by omega) (by omega))) ?_
        refine Wt_take (i := 17) (listed' := #[true, true, true, true, true, true, true, true, true, true, true, true, true, true, true, true, true, true, false, false, false, false, false, false, false, false, false, false, false, false, false, false, false, false, false, false, false, false, false, false, false, false, false, false, false, false]) (by kernel_rfl) rfl (by kernel_rfl) (by kernel_rfl) (by kernel_rfl) (by kernel_rfl) (YI_v (v := .int .i64 (l.getD (((tbl l).getD i (0, 0)).1).toNat 0)) rfl (fun w' hw' => r_load Try.isAgg3 rfl (hw'.cellk hc13))) ?_
        refine Wt_take (i := 18) (listed' := #[true, true, true, true, true, true, true, true, true, true, true, true, true, true, true, true, true, true, true, false, false, false, false, false, false, false, false, false, false, false, false, false, false, false, false, false, false, false, false, false, false, false, false, false, false, false]) (by kernel_rfl) rfl (by kernel_rfl) (by kernel_rfl) (by kernel_rfl) (by kernel_rfl) (YI_v (v := .bool (decide ((((tbl l).getD i (0, 0)).2) ≠ (l.getD (((tbl l).getD i (0, 0)).1).toNat 0)))) rfl (fun w' hw' => r_ne rfl rfl)) ?_
        refine Wt_take (i := 19) (listed' := #[true, true, true, true, true, true, true, true, true, true, true, true, true, true, true, true, true, true, true, true, false, false, false, false, false, false, false, false, false, false, false, false, false, false, false, false, false, false, false, false, false, false, false, false, false, false]) (by kernel_rfl) rfl (by kernel_rfl) (by kernel_rfl) (by kernel_rfl) (by kernel_rfl) (YI_v rfl (fun w' hw' => r_pick_f (v := .bool (decide ((((tbl l).getD i (0, 0)).2) ≠ (l.getD (((tbl l).getD i (0, 0)).1).toNat 0)))) rfl rfl)) ?_
        refine Wt_take (i := 20) (listed' := #[true, true, true, true, true, true, true, true, true, true, true, true, true, true, true, true, true, true, true, true, true, false, false, false, false, false, false, false, false, false, false, false, false, false, false, false, false, false, false, false, false, false, false, false, false, false]) (by kernel_rfl) rfl (by kernel_rfl) (by kernel_rfl) (by kernel_rfl) (by kernel_rfl) (YI_v (v := .bool (decide ((((tbl l).getD i (0, 0)).2) ≠ (l.getD (((tbl l).getD i (0, 0)).1).toNat 0)))) rfl (fun w' hw' => r_mv (v := .bool (decide ((((tbl l).getD i (0, 0)).2) ≠ (l.getD (((tbl l).getD i (0, 0)).1).toNat 0)))) rfl)) ?_
        have q9 : ¬ ((((tbl l).getD i (0, 0)).2) ≠ (l.getD (((tbl l).getD i (0, 0)).1).toNat 0)) := (by rw [hsn]; omega)
        rw [decide_eq_false q9]
        refine Wt_take (i := 21) (listed' := #[true, true, true, true, true, true, true, true, true, true, true, true, true, true, true, true, true, true, true, true, true, true, false, false, false, false, false, false, false, false, false, false, false, false, false, false, false, false, false, false, false, false, false, false, false, false]) (by kernel_rfl) rfl (by kernel_rfl) (by kernel_rfl) (by kernel_rfl) (by kernel_rfl) (YI_v (v := .pointer (some ⟨B11, 1, none⟩)) rfl (fun w' hw' => r_fld Try.underlying38 rfl Try.sizeOf3 rfl rfl)) ?_
        refine Wt_take (i := 22) (listed' := #[true, true, true, true, true, true, true, true, true, true, true, true, true, true, true, true, true, true, true, true, true, true, true, false, false, false, false, false, false, false, false, false, false, false, false, false, false, false, false, false, false, false, false, false, false, false]) (by kernel_rfl) rfl (by kernel_rfl) (by kernel_rfl) (by kernel_rfl) (by kernel_rfl) (YI_v (v := .int .i64 (((tbl l).getD i (0, 0)).2)) rfl (fun w' hw' => r_load Try.isAgg3 rfl (by rw [(hb11.upd0 hw').cell]; rfl))) ?_
        refine Wt_take (i := 23) (listed' := #[true, true, true, true, true, true, true, true, true, true, true, true, true, true, true, true, true, true, true, true, true, true, true, true, false, false, false, false, false, false, false, false, false, false, false, false, false, false, false, false, false, false, false, false, false, false]) (by kernel_rfl) rfl (by kernel_rfl) (by kernel_rfl) (by kernel_rfl) (by kernel_rfl) (YI_v (v := .bool (decide ((((tbl l).getD i (0, 0)).2) < 1))) rfl (fun w' hw' => r_lt rfl rfl)) ?_
        refine Wt_take (i := 24) (listed' := #[true, true, true, true, true, true, true, true, true, true, true, true, true, true, true, true, true, true, true, true, true, true, true, true, true, false, false, false, false, false, false, false, false, false, false, false, false, false, false, false, false, false, false, false, false, false]) (by kernel_rfl) rfl (by kernel_rfl) (by kernel_rfl) (by kernel_rfl) (by kernel_rfl) (YI_v rfl (fun w' hw' => r_pick_f (v := .bool (decide ((((tbl l).getD i (0, 0)).2) < 1))) rfl rfl)) ?_
        refine Wt_take (i := 25) (listed' := #[true, true, true, true, true, true, true, true, true, true, true, true, true, true, true, true, true, true, true, true, true, true, true, true, true, true, false, false, false, false, false, false, false, false, false, false, false, false, false, false, false, false, false, false, false, false]) (by kernel_rfl) rfl (by kernel_rfl) (by kernel_rfl) (by kernel_rfl) (by kernel_rfl) (YI_v (v := .bool (decide ((((tbl l).getD i (0, 0)).2) < 1))) rfl (fun w' hw' => r_mv (v := .bool (decide ((((tbl l).getD i (0, 0)).2) < 1))) rfl)) ?_
        have q10 : ¬ ((((tbl l).getD i (0, 0)).2) < 1) := (by omega)
        rw [decide_eq_false q10]
        refine Wt_take (i := 26) (listed' := #[true, true, true, true, true, true, true, true, true, true, true, true, true, true, true, true, true, true, true, true, true, true, true, true, true, true, true, false, false, false, false, false, false, false, false, false, false, false, false, false, false, false, false, false, false, false]) (by kernel_rfl) rfl (by kernel_rfl) (by kernel_rfl) (by kernel_rfl) (by kernel_rfl) (YI_v (v := .int .i64 ((i : Nat) : Int)) rfl (fun w' hw' => r_mv (v := .int .i64 ((i : Nat) : Int)) rfl)) ?_
        refine Wt_take (i := 27) (listed' := #[true, true, true, true, true, true, true, true, true, true, true, true, true, true, true, true, true, true, true, true, true, true, true, true, true, true, true, true, false, false, false, false, false, false, false, false, false, false, false, false, false, false, false, false, false, false]) (by kernel_rfl) rfl (by kernel_rfl) (by kernel_rfl) (by kernel_rfl) (by kernel_rfl) (YI_v (v := .bool (decide (0 < ((i : Nat) : Int)))) rfl (fun w' hw' => r_gt rfl rfl)) ?_
        refine Wt_take (i := 28) (listed' := #[true, true, true, true, true, true, true, true, true, true, true, true, true, true, true, true, true, true, true, true, true, true, true, true, true, true, true, true, true, false, false, false, false, false, false, false, false, false, false, false, false, false, false, false, false, false]) (by kernel_rfl) rfl (by kernel_rfl) (by kernel_rfl) (by kernel_rfl) (by kernel_rfl) (YI_v (v := .bool (decide (0 < ((i : Nat) : Int)))) rfl (fun w' hw' => r_mv (v := .bool (decide (0 < ((i : Nat) : Int)))) rfl)) ?_
        by_cases q11 : 0 < ((i : Nat) : Int)
        · rw [decide_eq_true q11]
          refine Wt_take (i := 29) (listed' := #[true, true, true, true, true, true, true, true, true, true, true, true, true, true, true, true, true, true, true, true, true, true, true, true, true, true, true, true, true, true, false, false, false, false, false, false, false, false, false, false, false, false, false, false, false, false]) (by kernel_rfl) rfl (by kernel_rfl) (by kernel_rfl) (by kernel_rfl) (by kernel_rfl) (YI_v (v := .slice (some ⟨B8, 0, none⟩) n n) rfl (fun w' hw' => r_mv (v := .slice (some ⟨B8, 0, none⟩) n n) rfl)) ?_
          refine Wt_take (i := 30) (listed' := #[true, true, true, true, true, true, true, true, true, true, true, true, true, true, true, true, true, true, true, true, true, true, true, true, true, true, true, true, true, true, true, false, false, false, false, false, false, false, false, false, false, false, false, false, false, false]) (by kernel_rfl) rfl (by kernel_rfl) (by kernel_rfl) (by kernel_rfl) (by kernel_rfl) (YI_v (v := .pointer (some ⟨B11, 0, none⟩)) rfl (fun w' hw' => r_fld Try.underlying38 rfl Try.sizeOf3 rfl rfl)) ?_
          refine Wt_take (i := 31) (listed' := #[true, true, true, true, true, true, true, true, true, true, true, true, true, true, true, true, true, true, true, true, true, true, true, true, true, true, true, true, true, true, true, true, false, false, false, false, false, false, false, false, false, false, false, false, false, false]) (by kernel_rfl) rfl (by kernel_rfl) (by kernel_rfl) (by kernel_rfl) (by kernel_rfl) (YI_v (v := .int .i64 (((tbl l).getD i (0, 0)).1)) rfl (fun w' hw' => r_load Try.isAgg3 rfl (by rw [(hb11.upd0 hw').cell]; rfl))) ?_
          obtain ⟨ib14, io14, ha14, hib14, hc14⟩ := (hO8.sl).iat (i := (((tbl l).getD i (0, 0)).1).toNat) (by omega)
          replace hib14 : ib14 = B8 := hib14
          refine Wt_take (i := 32) (listed' := #[true, true, true, true, true, true, true, true, true, true, true, true, true, true, true, true, true, true, true, true, true, true, true, true, true, true, true, true, true, true, true, true, true, false, false, false, false, false, false, false, false, false, false, false, false, false]) (by kernel_rfl) rfl (by kernel_rfl) (by kernel_rfl) (by kernel_rfl) (by kernel_rfl) (YI_v (v := .pointer (some ⟨ib14, io14 + (((tbl l).getD i (0, 0)).1).toNat, none⟩)) rfl (fun w' hw' => r_idx (b := ib14) (off := io14) (m := n) (c := n) (o' := io14 + (((tbl l).getD i (0, 0)).1).toNat) Try.underlying22 Try.sizeOf3 (by rw [← ha14]; rfl) rfl (by omega) (by omega) (by omega))) ?_
          refine Wt_take (i := 33) (listed' := #[true, true, true, true, true, true, true, true, true, true, true, true, true, true, true, true, true, true, true, true, true, true, true, true, true, true, true, true, true, true, true, true, true, true, false, false, false, false, false, false, false, false, false, false, false, false]) (by kernel_rfl) rfl (by kernel_rfl) (by kernel_rfl) (by kernel_rfl) (by kernel_rfl) (YI_v (v := .int .i64 ((cl l i).getD (((tbl l).getD i (0, 0)).1).toNat 0)) rfl (fun w' hw' => r_load Try.isAgg3 rfl (hw'.cellk hc14))) ?_
          refine Wt_take (i := 34) (listed' := #[true, true, true, true, true, true, true, true, true, true, true, true, true, true, true, true, true, true, true, true, true, true, true, true, true, true, true, true, true, true, true, true, true, true, true, false, false, false, false, false, false, false, false, false, false, false]) (by kernel_rfl) rfl (by kernel_rfl) (by kernel_rfl) (by kernel_rfl) (by kernel_rfl) (YI_v (v := .bool (decide (0 < ((cl l i).getD (((tbl l).getD i (0, 0)).1).toNat 0)))) rfl (fun w' hw' => r_gt rfl rfl)) ?_
          refine Wt_take (i := 35) (listed' := #[true, true, true, true, true, true, true, true, true, true, true, true, true, true, true, true, true, true, true, true, true, true, true, true, true, true, true, true, true, true, true, true, true, true, true, true, false, false, false, false, false, false, false, false, false, false]) (by kernel_rfl) rfl (by kernel_rfl) (by kernel_rfl) (by kernel_rfl) (by kernel_rfl) (YI_v rfl (fun w' hw' => r_pick_t (v := .bool (decide (0 < ((cl l i).getD (((tbl l).getD i (0, 0)).1).toNat 0)))) rfl rfl)) ?_
          refine Wt_take (i := 36) (listed' := #[true, true, true, true, true, true, true, true, true, true, true, true, true, true, true, true, true, true, true, true, true, true, true, true, true, true, true, true, true, true, true, true, true, true, true, true, true, false, false, false, false, false, false, false, false, false]) (by kernel_rfl) rfl (by kernel_rfl) (by kernel_rfl) (by kernel_rfl) (by kernel_rfl) (YI_v (v := .bool (decide (0 < ((cl l i).getD (((tbl l).getD i (0, 0)).1).toNat 0)))) rfl (fun w' hw' => r_mv (v := .bool (decide (0 < ((cl l i).getD (((tbl l).getD i (0, 0)).1).toNat 0)))) rfl)) ?_
          by_cases q12 : 0 < ((cl l i).getD (((tbl l).getD i (0, 0)).1).toNat 0)
          · have hpv := ent_prev q2 (i := i) (s := j) (by omega) hin hjl (by rw [← htg]; exact hs1) (by rw [← hsn]; exact q12)
            rw [decide_eq_true q12]
            refine Wt_take (i := 37) (listed' := #[true, true, true, true, true, true, true, true, true, true, true, true, true, true, true, true, true, true, true, true, true, true, true, true, true, true, true, true, true, true, true, true, true, true, true, true, true, true, false, false, false, false, false, false, false, false]) (by kernel_rfl) rfl (by kernel_rfl) (by kernel_rfl) (by kernel_rfl) (by kernel_rfl) (YI_v (v := .slice a4 (2 ^ bt l) c4) rfl (fun w' hw' => r_mv (v := .slice a4 (2 ^ bt l) c4) rfl)) ?_
            refine Wt_take (i := 38) (listed' := #[true, true, true, true, true, true, true, true, true, true, true, true, true, true, true, true, true, true, true, true, true, true, true, true, true, true, true, true, true, true, true, true, true, true, true, true, true, true, true, false, false, false, false, false, false, false]) (by kernel_rfl) rfl (by kernel_rfl) (by kernel_rfl) (by kernel_rfl) (by kernel_rfl) (YI_v (v := .int .i64 ((i : Nat) : Int)) rfl (fun w' hw' => r_mv (v := .int .i64 ((i : Nat) : Int)) rfl)) ?_
            refine Wt_take (i := 39) (listed' := #[true, true, true, true, true, true, true, true, true, true, true, true, true, true, true, true, true, true, true, true, true, true, true, true, true, true, true, true, true, true, true, true, true, true, true, true, true, true, true, true, false, false, false, false, false, false]) (by kernel_rfl) rfl (by kernel_rfl) (by kernel_rfl) (by kernel_rfl) (by kernel_rfl) (YI_v (v := .int .i64 (((i : Nat) : Int) - 1)) rfl (fun w' hw' => r_sub rfl rfl (wi64 (by omega) (by omega)))) ?_
            obtain ⟨ib15, io15, ha15, hib15, hc15⟩ := Sl.rat (0, 0) encE_len (by decide) (hO4.sl) (i := (i - 1)) (by omega)
            refine Wt_take (i := 40) (listed' := #[true, true, true, true, true, true, true, true, true, true, true, true, true, true, true, true, true, true, true, true, true, true, true, true, true, true, true, true, true, true, true, true, true, true, true, true, true, true, true, true, true, false, false, false, false, false]) (by kernel_rfl) rfl (by kernel_rfl) (by kernel_rfl) (by kernel_rfl) (by kernel_rfl) (YI_v (v := .pointer (some ⟨ib15, io15 + (i - 1) * 2, none⟩)) rfl (fun w' hw' => r_idx (b := ib15) (off := io15) (m := 2 ^ bt l) (c := c4) (o' := io15 + (i - 1) * 2) Try.underlying24 Try.sizeOf38 (by rw [← ha15]; rfl) rfl (by omega) (by omega) (by omega))) ?_
            refine Wt_take (i := 41) (listed' := #[true, true, true, true, true, true, true, true, true, true, true, true, true, true, true, true, true, true, true, true, true, true, true, true, true, true, true, true, true, true, true, true, true, true, true, true, true, true, true, true, true, true, false, false, false, false]) (by kernel_rfl) rfl (by kernel_rfl) (by kernel_rfl) (by kernel_rfl) (by kernel_rfl) (YI_v (v := .agg #[.int .i64 (((tbl l).getD (i - 1) (0, 0)).1), .int .i64 (((tbl l).getD (i - 1) (0, 0)).2)]) rfl (fun w' hw' => r_loada (cs := [.int .i64 (((tbl l).getD (i - 1) (0, 0)).1), .int .i64 (((tbl l).getD (i - 1) (0, 0)).2)]) Try.isAgg38 Try.sizeOf38 rfl rfl (hw'.cellsk rfl hc15))) ?_
            refine Wt_take (i := 42) (listed' := #[true, true, true, true, true, true, true, true, true, true, true, true, true, true, true, true, true, true, true, true, true, true, true, true, true, true, true, true, true, true, true, true, true, true, true, true, true, true, true, true, true, true, true, false, false, false]) (by kernel_rfl) rfl (by kernel_rfl) (by kernel_rfl) (by kernel_rfl) (by kernel_rfl) (YI_v (v := .agg #[.int .i64 (((tbl l).getD i (0, 0)).1), .int .i64 (((tbl l).getD i (0, 0)).2)]) rfl (fun w' hw' => r_loada (b := B11) (off := 0) (cs := [.int .i64 (((tbl l).getD i (0, 0)).1), .int .i64 (((tbl l).getD i (0, 0)).2)]) Try.isAgg38 Try.sizeOf38 rfl rfl (fun j hj => by rw [(hb11.upd0 hw').cell]; match j, hj with | 0, _ => rfl | 1, _ => rfl))) ?_
            refine Wt_take (i := 43) (listed' := #[true, true, true, true, true, true, true, true, true, true, true, true, true, true, true, true, true, true, true, true, true, true, true, true, true, true, true, true, true, true, true, true, true, true, true, true, true, true, true, true, true, true, true, true, false, false]) (by kernel_rfl) rfl (by kernel_rfl) (by kernel_rfl) (by kernel_rfl) (by kernel_rfl) (YI_v (v := .bool (!decide ((((tbl l).getD (i - 1) (0, 0)).1) = (((tbl l).getD i (0, 0)).1) ∧ (((tbl l).getD (i - 1) (0, 0)).2) = (((tbl l).getD i (0, 0)).2)))) rfl (fun w' hw' => r_neag (pp := (((tbl l).getD (i - 1) (0, 0)).1) = (((tbl l).getD i (0, 0)).1) ∧ (((tbl l).getD (i - 1) (0, 0)).2) = (((tbl l).getD i (0, 0)).2)) Try.underlying38 (by kernel_rfl) (by kernel_rfl) rfl rfl (fun w => eqf_int (by decide) Try.underlying3 Try.isAgg3 rfl rfl (fun w => eqf_int (by decide) Try.underlying3 Try.isAgg3 rfl rfl (fun w => eqf_nil))) (by simp [Bool.decide_and]))) ?_
            refine Wt_take (i := 44) (listed' := #[true, true, true, true, true, true, true, true, true, true, true, true, true, true, true, true, true, true, true, true, true, true, true, true, true, true, true, true, true, true, true, true, true, true, true, true, true, true, true, true, true, true, true, true, true, false]) (by kernel_rfl) rfl (by kernel_rfl) (by kernel_rfl) (by kernel_rfl) (by kernel_rfl) (YI_v rfl (fun w' hw' => r_pick_t (v := .bool (!decide ((((tbl l).getD (i - 1) (0, 0)).1) = (((tbl l).getD i (0, 0)).1) ∧ (((tbl l).getD (i - 1) (0, 0)).2) = (((tbl l).getD i (0, 0)).2)))) rfl rfl)) ?_
            refine Wt_take (i := 45) (listed' := #[true, true, true, true, true, true, true, true, true, true, true, true, true, true, true, true, true, true, true, true, true, true, true, true, true, true, true, true, true, true, true, true, true, true, true, true, true, true, true, true, true, true, true, true, true, true]) (by kernel_rfl) rfl (by kernel_rfl) (by kernel_rfl) (by kernel_rfl) (by kernel_rfl) (YI_v rfl (fun w' hw' => r_pick_f (v := .bool (!decide ((((tbl l).getD (i - 1) (0, 0)).1) = (((tbl l).getD i (0, 0)).1) ∧ (((tbl l).getD (i - 1) (0, 0)).2) = (((tbl l).getD i (0, 0)).2)))) rfl rfl)) ?_
            intro w16 hU16
            have hzw16 := hU16.size
            replace hs := hs.upd0 hU16
            replace HU := HU.trans0 hU16
            replace hT3 := hT3.upd0 hU16
            replace hE3 := hE3.upd0 hU16
            replace hL3 := hL3.upd0 hU16
            replace hO4 := hO4.upd0 hU16
            replace hO8 := hO8.upd0 hU16
            replace HL9 := HL9.trans0 hU16
            replace hb11 := hb11.upd0 hU16
            refine Wa_done (by kernel_rfl) ?_
            have q13 : (((tbl l).getD (i - 1) (0, 0)).1) = (((tbl l).getD i (0, 0)).1) ∧ (((tbl l).getD (i - 1) (0, 0)).2) = (((tbl l).getD i (0, 0)).2) := ⟨by rw [htg, htg2, hpv], by rw [htg, htg2, hpv]⟩
            rw [decide_eq_true q13]
            simp only [Bool.not_true, Bool.not_false]
            refine W_cond_f rfl ?_
            refine W_skip ?_
            refine W_region ?_
            refine Wl_v (r_mv (v := .slice (some ⟨B8, 0, none⟩) n n) rfl) ?_
            refine Wl_v (r_fld Try.underlying38 rfl Try.sizeOf3 rfl rfl) ?_
            refine Wl_load (v := .int .i64 (((tbl l).getD i (0, 0)).1)) Try.isAgg3 rfl hb11 rfl ?_
            refine Wl_idxi Try.underlying22 Try.sizeOf3 rfl rfl hO8.sl (by omega) (by omega) ?_
            intro ib17 io17 hc17
            refine Wl_loadc Try.isAgg3 rfl hc17 ?_
            refine Wl_v (r_add rfl rfl (wi64 (by omega) (by omega))) ?_
            refine Wl_idxo (i' := (((tbl l).getD i (0, 0)).1).toNat) Try.underlying22 Try.sizeOf3 rfl rfl hO8 (by omega) (by omega) ?_
            intro hc18
            refine Wl_storeo (i := (((tbl l).getD i (0, 0)).1).toNat) Try.sizeOf3 rfl rfl hO8 (by omega) ?_
            intro w19 hU19 hzz19 hO19
            clear hO8
            have hzw19 := hU19.size
            replace hs := hs.upd1 hU19 (by intro h1; have h3 : B8 < w.heap.size := h1; omega)
            replace HU := HU.trans1 hU19 (by show (False) ∨ w.heap.size ≤ B8; omega)
            replace hT3 := hT3.upd1 hU19 (by omega)
            replace hE3 := hE3.upd1 hU19 (by intro h1; have h3 : ((w2.heap.size ≤ B8 ∧ B8 ≠ tb3) ∧ B8 < w3.heap.size) := h1; omega)
            replace hL3 := hL3.upd1 hU19 (by intro h1; have h3 : ((w2.heap.size ≤ B8 ∧ B8 ≠ tb3) ∧ B8 < w3.heap.size) := h1; omega)
            replace hO4 := hO4.upd1 hU19 (by intro h1; have h3 : ((w3.heap.size ≤ B8) ∧ B8 < w4.heap.size) := h1; omega)
            replace HL9 := HL9.trans1 hU19 (by show (B8 = B8) ∨ w8.heap.size ≤ B8; omega)
            replace hb11 := hb11.upd1 hU19 (by omega)
            have hl_hO19 := ilen hO19.sl
            have hc_hO19 := hO19.sl.cap.1
            refine Wl_nil ?_
            refine W_region ?_
            refine Wl_v (r_mv (v := .int .i64 ((i : Nat) : Int)) rfl) ?_
            refine Wl_v (r_add rfl rfl (wi64 (by omega) (by omega))) ?_
            refine Wl_v (r_as (v := .int .i64 (((i : Nat) : Int) + 1)) rfl) ?_
            refine Wl_nil ?_
            refine ⟨_, ?_, (i + 1), rfl, rfl, ⟨rfl, rfl, rfl, rfl, rfl, rfl, (Eq.trans (b := .int .i64 (((i : Nat) : Int) + 1)) rfl (vint (by omega))), trivial⟩, (by omega), (hO19.icong hcs), HL9⟩
            omega
          · rw [decide_eq_false q12]
            refine Wt_take (i := 37) (listed' := #[true, true, true, true, true, true, true, true, true, true, true, true, true, true, true, true, true, true, true, true, true, true, true, true, true, true, true, true, true, true, true, true, true, true, true, true, true, true, false, false, false, false, false, false, false, false]) (by kernel_rfl) rfl (by kernel_rfl) (by kernel_rfl) (by kernel_rfl) (by kernel_rfl) (YI_no rfl) ?_
            refine Wt_take (i := 38) (listed' := #[true, true, true, true, true, true, true, true, true, true, true, true, true, true, true, true, true, true, true, true, true, true, true, true, true, true, true, true, true, true, true, true, true, true, true, true, true, true, true, false, false, false, false, false, false, false]) (by kernel_rfl) rfl (by kernel_rfl) (by kernel_rfl) (by kernel_rfl) (by kernel_rfl) (YI_no rfl) ?_
            refine Wt_take (i := 39) (listed' := #[true, true, true, true, true, true, true, true, true, true, true, true, true, true, true, true, true, true, true, true, true, true, true, true, true, true, true, true, true, true, true, true, true, true, true, true, true, true, true, true, false, false, false, false, false, false]) (by kernel_rfl) rfl (by kernel_rfl) (by kernel_rfl) (by kernel_rfl) (by kernel_rfl) (YI_no rfl) ?_
            refine Wt_take (i := 40) (listed' := #[true, true, true, true, true, true, true, true, true, true, true, true, true, true, true, true, true, true, true, true, true, true, true, true, true, true, true, true, true, true, true, true, true, true, true, true, true, true, true, true, true, false, false, false, false, false]) (by kernel_rfl) rfl (by kernel_rfl) (by kernel_rfl) (by kernel_rfl) (by kernel_rfl) (YI_no rfl) ?_
            refine Wt_take (i := 41) (listed' := #[true, true, true, true, true, true, true, true, true, true, true, true, true, true, true, true, true, true, true, true, true, true, true, true, true, true, true, true, true, true, true, true, true, true, true, true, true, true, true, true, true, true, false, false, false, false]) (by kernel_rfl) rfl (by kernel_rfl) (by kernel_rfl) (by kernel_rfl) (by kernel_rfl) (YI_no rfl) ?_
            refine Wt_take (i := 42) (listed' := #[true, true, true, true, true, true, true, true, true, true, true, true, true, true, true, true, true, true, true, true, true, true, true, true, true, true, true, true, true, true, true, true, true, true, true, true, true, true, true, true, true, true, true, false, false, false]) (by kernel_rfl) rfl (by kernel_rfl) (by kernel_rfl) (by kernel_rfl) (by kernel_rfl) (YI_no rfl) ?_
            refine Wt_take (i := 43) (listed' := #[true, true, true, true, true, true, true, true, true, true, true, true, true, true, true, true, true, true, true, true, true, true, true, true, true, true, true, true, true, true, true, true, true, true, true, true, true, true, true, true, true, true, true, true, false, false]) (by kernel_rfl) rfl (by kernel_rfl) (by kernel_rfl) (by kernel_rfl) (by kernel_rfl) (YI_no rfl) ?_
            refine Wt_take (i := 44) (listed' := #[true, true, true, true, true, true, true, true, true, true, true, true, true, true, true, true, true, true, true, true, true, true, true, true, true, true, true, true, true, true, true, true, true, true, true, true, true, true, true, true, true, true, true, true, true, false]) (by kernel_rfl) rfl (by kernel_rfl) (by kernel_rfl) (by kernel_rfl) (by kernel_rfl) (YI_v rfl (fun w' hw' => r_pick_f (v := .bool false) rfl rfl)) ?_
            refine Wt_take (i := 45) (listed' := #[true, true, true, true, true, true, true, true, true, true, true, true, true, true, true, true, true, true, true, true, true, true, true, true, true, true, true, true, true, true, true, true, true, true, true, true, true, true, true, true, true, true, true, true, true, true]) (by kernel_rfl) rfl (by kernel_rfl) (by kernel_rfl) (by kernel_rfl) (by kernel_rfl) (YI_v rfl (fun w' hw' => r_pick_f (v := .bool false) rfl rfl)) ?_
            intro w20 hU20
            have hzw20 := hU20.size
            replace hs := hs.upd0 hU20
            replace HU := HU.trans0 hU20
            replace hT3 := hT3.upd0 hU20
            replace hE3 := hE3.upd0 hU20
            replace hL3 := hL3.upd0 hU20
            replace hO4 := hO4.upd0 hU20
            replace hO8 := hO8.upd0 hU20
            replace HL9 := HL9.trans0 hU20
            replace hb11 := hb11.upd0 hU20
            refine Wa_done (by kernel_rfl) ?_
            refine W_cond_f rfl ?_
            refine W_skip ?_
            refine W_region ?_
            refine Wl_v (r_mv (v := .slice (some ⟨B8, 0, none⟩) n n) rfl) ?_
            refine Wl_v (r_fld Try.underlying38 rfl Try.sizeOf3 rfl rfl) ?_
            refine Wl_load (v := .int .i64 (((tbl l).getD i (0, 0)).1)) Try.isAgg3 rfl hb11 rfl ?_
            refine Wl_idxi Try.underlying22 Try.sizeOf3 rfl rfl hO8.sl (by omega) (by omega) ?_
            intro ib21 io21 hc21
            refine Wl_loadc Try.isAgg3 rfl hc21 ?_
            refine Wl_v (r_add rfl rfl (wi64 (by omega) (by omega))) ?_
            refine Wl_idxo (i' := (((tbl l).getD i (0, 0)).1).toNat) Try.underlying22 Try.sizeOf3 rfl rfl hO8 (by omega) (by omega) ?_
            intro hc22
            refine Wl_storeo (i := (((tbl l).getD i (0, 0)).1).toNat) Try.sizeOf3 rfl rfl hO8 (by omega) ?_
            intro w23 hU23 hzz23 hO23
            clear hO8
            have hzw23 := hU23.size
            replace hs := hs.upd1 hU23 (by intro h1; have h3 : B8 < w.heap.size := h1; omega)
            replace HU := HU.trans1 hU23 (by show (False) ∨ w.heap.size ≤ B8; omega)
            replace hT3 := hT3.upd1 hU23 (by omega)
            replace hE3 := hE3.upd1 hU23 (by intro h1; have h3 : ((w2.heap.size ≤ B8 ∧ B8 ≠ tb3) ∧ B8 < w3.heap.size) := h1; omega)
            replace hL3 := hL3.upd1 hU23 (by intro h1; have h3 : ((w2.heap.size ≤ B8 ∧ B8 ≠ tb3) ∧ B8 < w3.heap.size) := h1; omega)
            replace hO4 := hO4.upd1 hU23 (by intro h1; have h3 : ((w3.heap.size ≤ B8) ∧ B8 < w4.heap.size) := h1; omega)
            replace HL9 := HL9.trans1 hU23 (by show (B8 = B8) ∨ w8.heap.size ≤ B8; omega)
            replace hb11 := hb11.upd1 hU23 (by omega)
            have hl_hO23 := ilen hO23.sl
            have hc_hO23 := hO23.sl.cap.1
            refine Wl_nil ?_
            refine W_region ?_
            refine Wl_v (r_mv (v := .int .i64 ((i : Nat) : Int)) rfl) ?_
            refine Wl_v (r_add rfl rfl (wi64 (by omega) (by omega))) ?_
            refine Wl_v (r_as (v := .int .i64 (((i : Nat) : Int) + 1)) rfl) ?_
            refine Wl_nil ?_
            refine ⟨_, ?_, (i + 1), rfl, rfl, ⟨rfl, rfl, rfl, rfl, rfl, rfl, (Eq.trans (b := .int .i64 (((i : Nat) : Int) + 1)) rfl (vint (by omega))), trivial⟩, (by omega), (hO23.icong hcs), HL9⟩
            omega
        · rw [decide_eq_false q11]
          refine Wt_take (i := 29) (listed' := #[true, true, true, true, true, true, true, true, true, true, true, true, true, true, true, true, true, true, true, true, true, true, true, true, true, true, true, true, true, true, false, false, false, false, false, false, false, false, false, false, false, false, false, false, false, false]) (by kernel_rfl) rfl (by kernel_rfl) (by kernel_rfl) (by kernel_rfl) (by kernel_rfl) (YI_no rfl) ?_
          refine Wt_take (i := 30) (listed' := #[true, true, true, true, true, true, true, true, true, true, true, true, true, true, true, true, true, true, true, true, true, true, true, true, true, true, true, true, true, true, true, false, false, false, false, false, false, false, false, false, false, false, false, false, false, false]) (by kernel_rfl) rfl (by kernel_rfl) (by kernel_rfl) (by kernel_rfl) (by kernel_rfl) (YI_no rfl) ?_
          refine Wt_take (i := 31) (listed' := #[true, true, true, true, true, true, true, true, true, true, true, true, true, true, true, true, true, true, true, true, true, true, true, true, true, true, true, true, true, true, true, true, false, false, false, false, false, false, false, false, false, false, false, false, false, false]) (by kernel_rfl) rfl (by kernel_rfl) (by kernel_rfl) (by kernel_rfl) (by kernel_rfl) (YI_no rfl) ?_
          refine Wt_take (i := 32) (listed' := #[true, true, true, true, true, true, true, true, true, true, true, true, true, true, true, true, true, true, true, true, true, true, true, true, true, true, true, true, true, true, true, true, true, false, false, false, false, false, false, false, false, false, false, false, false, false]) (by kernel_rfl) rfl (by kernel_rfl) (by kernel_rfl) (by kernel_rfl) (by kernel_rfl) (YI_no rfl) ?_
          refine Wt_take (i := 33) (listed' := #[true, true, true, true, true, true, true, true, true, true, true, true, true, true, true, true, true, true, true, true, true, true, true, true, true, true, true, true, true, true, true, true, true, true, false, false, false, false, false, false, false, false, false, false, false, false]) (by kernel_rfl) rfl (by kernel_rfl) (by kernel_rfl) (by kernel_rfl) (by kernel_rfl) (YI_no rfl) ?_
          refine Wt_take (i := 34) (listed' := #[true, true, true, true, true, true, true, true, true, true, true, true, true, true, true, true, true, true, true, true, true, true, true, true, true, true, true, true, true, true, true, true, true, true, true, false, false, false, false, false, false, false, false, false, false, false]) (by kernel_rfl) rfl (by kernel_rfl) (by kernel_rfl) (by kernel_rfl) (by kernel_rfl) (YI_no rfl) ?_
          refine Wt_take (i := 35) (listed' := #[true, true, true, true, true, true, true, true, true, true, true, true, true, true, true, true, true, true, true, true, true, true, true, true, true, true, true, true, true, true, true, true, true, true, true, true, false, false, false, false, false, false, false, false, false, false]) (by kernel_rfl) rfl (by kernel_rfl) (by kernel_rfl) (by kernel_rfl) (by kernel_rfl) (YI_v rfl (fun w' hw' => r_pick_f (v := .bool false) rfl rfl)) ?_
          refine Wt_take (i := 36) (listed' := #[true, true, true, true, true, true, true, true, true, true, true, true, true, true, true, true, true, true, true, true, true, true, true, true, true, true, true, true, true, true, true, true, true, true, true, true, true, false, false, false, false, false, false, false, false, false]) (by kernel_rfl) rfl (by kernel_rfl) (by kernel_rfl) (by kernel_rfl) (by kernel_rfl) (YI_v (v := .bool false) rfl (fun w' hw' => r_mv (v := .bool false) rfl)) ?_
          refine Wt_take (i := 37) (listed' := #[true, true, true, true, true, true, true, true, true, true, true, true, true, true, true, true, true, true, true, true, true, true, true, true, true, true, true, true, true, true, true, true, true, true, true, true, true, true, false, false, false, false, false, false, false, false]) (by kernel_rfl) rfl (by kernel_rfl) (by kernel_rfl) (by kernel_rfl) (by kernel_rfl) (YI_no rfl) ?_
          refine Wt_take (i := 38) (listed' := #[true, true, true, true, true, true, true, true, true, true, true, true, true, true, true, true, true, true, true, true, true, true, true, true, true, true, true, true, true, true, true, true, true, true, true, true, true, true, true, false, false, false, false, false, false, false]) (by kernel_rfl) rfl (by kernel_rfl) (by kernel_rfl) (by kernel_rfl) (by kernel_rfl) (YI_no rfl) ?_
          refine Wt_take (i := 39) (listed' := #[true, true, true, true, true, true, true, true, true, true, true, true, true, true, true, true, true, true, true, true, true, true, true, true, true, true, true, true, true, true, true, true, true, true, true, true, true, true, true, true, false, false, false, false, false, false]) (by kernel_rfl) rfl (by kernel_rfl) (by kernel_rfl) (by kernel_rfl) (by kernel_rfl) (YI_no rfl) ?_
          refine Wt_take (i := 40) (listed' := #[true, true, true, true, true, true, true, true, true, true, true, true, true, true, true, true, true, true, true, true, true, true, true, true, true, true, true, true, true, true, true, true, true, true, true, true, true, true, true, true, true, false, false, false, false, false]) (by kernel_rfl) rfl (by kernel_rfl) (by kernel_rfl) (by kernel_rfl) (by kernel_rfl) (YI_no rfl) ?_
          refine Wt_take (i := 41) (listed' := #[true, true, true, true, true, true, true, true, true, true, true, true, true, true, true, true, true, true, true, true, true, true, true, true, true, true, true, true, true, true, true, true, true, true, true, true, true, true, true, true, true, true, false, false, false, false]) (by kernel_rfl) rfl (by kernel_rfl) (by kernel_rfl) (by kernel_rfl) (by kernel_rfl) (YI_no rfl) ?_
          refine Wt_take (i := 42) (listed' := #[true, true, true, true, true, true, true, true, true, true, true, true, true, true, true, true, true, true, true, true, true, true, true, true, true, true, true, true, true, true, true, true, true, true, true, true, true, true, true, true, true, true, true, false, false, false]) (by kernel_rfl) rfl (by kernel_rfl) (by kernel_rfl) (by kernel_rfl) (by kernel_rfl) (YI_no rfl) ?_
          refine Wt_take (i := 43) (listed' := #[true, true, true, true, true, true, true, true, true, true, true, true, true, true, true, true, true, true, true, true, true, true, true, true, true, true, true, true, true, true, true, true, true, true, true, true, true, true, true, true, true, true, true, true, false, false]) (by kernel_rfl) rfl (by kernel_rfl) (by kernel_rfl) (by kernel_rfl) (by kernel_rfl) (YI_no rfl) ?_
          refine Wt_take (i := 44) (listed' := #[true, true, true, true, true, true, true, true, true, true, true, true, true, true, true, true, true, true, true, true, true, true, true, true, true, true, true, true, true, true, true, true, true, true, true, true, true, true, true, true, true, true, true, true, true, false]) (by kernel_rfl) rfl (by kernel_rfl) (by kernel_rfl) (by kernel_rfl) (by kernel_rfl) (YI_v rfl (fun w' hw' => r_pick_f (v := .bool false) rfl rfl)) ?_
          refine Wt_take (i := 45) (listed' := #[true, true, true, true, true, true, true, true, true, true, true, true, true, true, true, true, true, true, true, true, true, true, true, true, true, true, true, true, true, true, true, true, true, true, true, true, true, true, true, true, true, true, true, true, true, true]) (by kernel_rfl) rfl (by kernel_rfl) (by kernel_rfl) (by kernel_rfl) (by kernel_rfl) (YI_v rfl (fun w' hw' => r_pick_f (v := .bool false) rfl rfl)) ?_
          intro w24 hU24
          have hzw24 := hU24.size
          replace hs := hs.upd0 hU24
          replace HU := HU.trans0 hU24
          replace hT3 := hT3.upd0 hU24
          replace hE3 := hE3.upd0 hU24
          replace hL3 := hL3.upd0 hU24
          replace hO4 := hO4.upd0 hU24
          replace hO8 := hO8.upd0 hU24
          replace HL9 := HL9.trans0 hU24
          replace hb11 := hb11.upd0 hU24
          replace hc13 := cell_upd0 hU24 hc13
          refine Wa_done (by kernel_rfl) ?_
          refine W_cond_f rfl ?_
          refine W_skip ?_
          refine W_region ?_
          refine Wl_v (r_mv (v := .slice (some ⟨B8, 0, none⟩) n n) rfl) ?_
          refine Wl_v (r_fld Try.underlying38 rfl Try.sizeOf3 rfl rfl) ?_
          refine Wl_load (v := .int .i64 (((tbl l).getD i (0, 0)).1)) Try.isAgg3 rfl hb11 rfl ?_
          refine Wl_idxi Try.underlying22 Try.sizeOf3 rfl rfl hO8.sl (by omega) (by omega) ?_
          intro ib25 io25 hc25
          refine Wl_loadc Try.isAgg3 rfl hc25 ?_
          refine Wl_v (r_add rfl rfl (wi64 (by omega) (by omega))) ?_
          refine Wl_idxo (i' := (((tbl l).getD i (0, 0)).1).toNat) Try.underlying22 Try.sizeOf3 rfl rfl hO8 (by omega) (by omega) ?_
          intro hc26
          refine Wl_storeo (i := (((tbl l).getD i (0, 0)).1).toNat) Try.sizeOf3 rfl rfl hO8 (by omega) ?_
          intro w27 hU27 hzz27 hO27
          clear hO8
          have hzw27 := hU27.size
          replace hs := hs.upd1 hU27 (by intro h1; have h3 : B8 < w.heap.size := h1; omega)
          replace HU := HU.trans1 hU27 (by show (False) ∨ w.heap.size ≤ B8; omega)
          replace hT3 := hT3.upd1 hU27 (by omega)
          replace hE3 := hE3.upd1 hU27 (by intro h1; have h3 : ((w2.heap.size ≤ B8 ∧ B8 ≠ tb3) ∧ B8 < w3.heap.size) := h1; omega)
          replace hL3 := hL3.upd1 hU27 (by intro h1; have h3 : ((w2.heap.size ≤ B8 ∧ B8 ≠ tb3) ∧ B8 < w3.heap.size) := h1; omega)
          replace hO4 := hO4.upd1 hU27 (by intro h1; have h3 : ((w3.heap.size ≤ B8) ∧ B8 < w4.heap.size) := h1; omega)
          replace HL9 := HL9.trans1 hU27 (by show (B8 = B8) ∨ w8.heap.size ≤ B8; omega)
          replace hb11 := hb11.upd1 hU27 (by omega)
          replace hc13 := cell_upd1 hU27 hc13 (by show ib13 ≠ B8; omega)
          have hl_hO27 := ilen hO27.sl
          have hc_hO27 := hO27.sl.cap.1
          refine Wl_nil ?_
          refine W_region ?_
          refine Wl_v (r_mv (v := .int .i64 ((i : Nat) : Int)) rfl) ?_
          refine Wl_v (r_add rfl rfl (wi64 (by omega) (by omega))) ?_
          refine Wl_v (r_as (v := .int .i64 (((i : Nat) : Int) + 1)) rfl) ?_
          refine Wl_nil ?_
          refine ⟨_, ?_, (i + 1), rfl, rfl, ⟨rfl, rfl, rfl, rfl, rfl, rfl, (Eq.trans (b := .int .i64 (((i : Nat) : Int) + 1)) rfl (vint (by omega))), trivial⟩, (by omega), (hO27.icong hcs), HL9⟩
          omega
      · obtain rfl : i = 2 ^ bt l := by omega
        rw [decide_eq_false q6]
        refine W_cond_f rfl ?_
        refine W_exit ?_
        refine W_seq ?_
        refine W_seq ?_
        refine W_region ?_
        refine Wl_v (r_as (v := .int .i64 0) rfl) ?_
        refine Wl_nil ?_
        refine W_block ?_
        refine W_loop (fun mu ρ ds w' => ∃ (k : Nat), n - k = mu ∧ ds = [] ∧ Liv ρ [(0, .slice a n c), (1, .int .u64 bits), (5, .pointer (some ⟨tb3, 0, none⟩)), (7, .slice a4 (2 ^ bt l) c4), (9, .int .i64 ((bt l : Nat) : Int)), (10, .slice (some ⟨B8, 0, none⟩) n n), (13, .int .i64 ((k : Nat) : Int))] ∧ k ≤ n ∧ Upd No w9 w') _ ⟨0, rfl, rfl, ⟨rfl, rfl, rfl, rfl, rfl, rfl, (by first | rfl | exact vint (by omega) | exact vint (by simp)), trivial⟩, (by omega), Upd.refl _ _⟩ ?_
        rintro m28 ρ28 ds28 w28 ⟨k, rfl, rfl, hl28, hk, hU28⟩
        obtain ⟨ρ28x, rfl⟩ : ∃ ρx, ρ28 = upds ρx [(0, .slice a n c), (1, .int .u64 bits), (5, .pointer (some ⟨tb3, 0, none⟩)), (7, .slice a4 (2 ^ bt l) c4), (9, .int .i64 ((bt l : Nat) : Int)), (10, .slice (some ⟨B8, 0, none⟩) n n), (13, .int .i64 ((k : Nat) : Int))] := ⟨_, upds_self hl28⟩
        clear hl28
        have hzw28 := hU28.size
        replace hs := hs.upd0 hU28
        replace HU := HU.trans0 hU28
        replace hT3 := hT3.upd0 hU28
        replace hE3 := hE3.upd0 hU28
        replace hL3 := hL3.upd0 hU28
        replace hO4 := hO4.upd0 hU28
        replace hO8 := hO8.upd0 hU28
        have HL28 := hU28
        refine W_seq ?_
        refine W_seq ?_
        refine W_region ?_
        refine Wl_v (r_mv (v := .int .i64 ((k : Nat) : Int)) rfl) ?_
        refine Wl_v (r_mv (v := .slice a n c) rfl) ?_
        refine Wl_v (r_len Try.underlying22 rfl) ?_
        refine Wl_v (r_lt rfl rfl) ?_
        refine Wl_nil ?_
        by_cases q14 : ((k : Nat) : Int) < ((n : Nat) : Int)
        · have hcf := cl_fin q2 (s := k) (by omega)
          have hgk := (q2).1.gd k
          have hgb := bt_ge (l := l) k
          rw [decide_eq_true q14]
          refine W_cond_t rfl ?_
          refine W_skip ?_
          refine W_seq ?_
          refine W_block ?_
          refine W_seq ?_
          refine W_drawt rfl (l0 := #[false, false, false, false, false, false, false, false, false, false, false, false, false, false, false, false, false, false, false, false, false, false, false, false, false, false, false, false, false, false, false, false, false]) (by kernel_rfl) ?_
          refine Wt_take (i := 0) (listed' := #[true, false, false, false, false, false, false, false, false, false, false, false, false, false, false, false, false, false, false, false, false, false, false, false, false, false, false, false, false, false, false, false, false]) (by kernel_rfl) rfl (by kernel_rfl) (by kernel_rfl) (by kernel_rfl) (by kernel_rfl) (YI_v (v := .slice a n c) rfl (fun w' hw' => r_mv (v := .slice a n c) rfl)) ?_
          refine Wt_take (i := 1) (listed' := #[true, true, false, false, false, false, false, false, false, false, false, false, false, false, false, false, false, false, false, false, false, false, false, false, false, false, false, false, false, false, false, false, false]) (by kernel_rfl) rfl (by kernel_rfl) (by kernel_rfl) (by kernel_rfl) (by kernel_rfl) (YI_v (v := .int .i64 ((k : Nat) : Int)) rfl (fun w' hw' => r_mv (v := .int .i64 ((k : Nat) : Int)) rfl)) ?_
          obtain ⟨ib29, io29, ha29, hib29, hc29⟩ := (hs).iat (i := k) (by omega)
          replace hib29 : ib29 < w.heap.size := hib29
          refine Wt_take (i := 2) (listed' := #[true, true, true, false, false, false, false, false, false, false, false, false, false, false, false, false, false, false, false, false, false, false, false, false, false, false, false, false, false, false, false, false, false]) (by kernel_rfl) rfl (by kernel_rfl) (by kernel_rfl) (by kernel_rfl) (by kernel_rfl) (YI_v (v := .pointer (some ⟨ib29, io29 + k, none⟩)) rfl (fun w' hw' => r_idx (b := ib29) (off := io29) (m := n) (c := c) (o' := io29 + k) Try.underlying22 Try.sizeOf3 (by rw [← ha29]; rfl) rfl (by omega) (by omega) (by omega))) ?_
          refine Wt_take (i := 3) (listed' := #[true, true, true, true, false, false, false, false, false, false, false, false, false, false, false, false, false, false, false, false, false, false, false, false, false, false, false, false, false, false, false, false, false]) (by kernel_rfl) rfl (by kernel_rfl) (by kernel_rfl) (by kernel_rfl) (by kernel_rfl) (YI_v (v := .int .i64 (l.getD k 0)) rfl (fun w' hw' => r_load Try.isAgg3 rfl (hw'.cellk hc29))) ?_
          refine Wt_take (i := 4) (listed' := #[true, true, true, true, true, false, false, false, false, false, false, false, false, false, false, false, false, false, false, false, false, false, false, false, false, false, false, false, false, false, false, false, false]) (by kernel_rfl) rfl (by kernel_rfl) (by kernel_rfl) (by kernel_rfl) (by kernel_rfl) (YI_v (v := .bool (decide ((l.getD k 0) = 0))) rfl (fun w' hw' => r_eq rfl rfl)) ?_
          refine Wt_take (i := 5) (listed' := #[true, true, true, true, true, true, false, false, false, false, false, false, false, false, false, false, false, false, false, false, false, false, false, false, false, false, false, false, false, false, false, false, false]) (by kernel_rfl) rfl (by kernel_rfl) (by kernel_rfl) (by kernel_rfl) (by kernel_rfl) (YI_v (v := .bool (decide ((l.getD k 0) = 0))) rfl (fun w' hw' => r_mv (v := .bool (decide ((l.getD k 0) = 0))) rfl)) ?_
          by_cases q15 : (l.getD k 0) = 0
          · rw [decide_eq_true q15]
            refine Wt_take (i := 6) (listed' := #[true, true, true, true, true, true, true, false, false, false, false, false, false, false, false, false, false, false, false, false, false, false, false, false, false, false, false, false, false, false, false, false, false]) (by kernel_rfl) rfl (by kernel_rfl) (by kernel_rfl) (by kernel_rfl) (by kernel_rfl) (YI_v (v := .slice (some ⟨B8, 0, none⟩) n n) rfl (fun w' hw' => r_mv (v := .slice (some ⟨B8, 0, none⟩) n n) rfl)) ?_
            refine Wt_take (i := 7) (listed' := #[true, true, true, true, true, true, true, true, false, false, false, false, false, false, false, false, false, false, false, false, false, false, false, false, false, false, false, false, false, false, false, false, false]) (by kernel_rfl) rfl (by kernel_rfl) (by kernel_rfl) (by kernel_rfl) (by kernel_rfl) (YI_v (v := .int .i64 ((k : Nat) : Int)) rfl (fun w' hw' => r_mv (v := .int .i64 ((k : Nat) : Int)) rfl)) ?_
            obtain ⟨ib30, io30, ha30, hib30, hc30⟩ := (hO8.sl).iat (i := k) (by omega)
            replace hib30 : ib30 = B8 := hib30
            refine Wt_take (i := 8) (listed' := #[true, true, true, true, true, true, true, true, true, false, false, false, false, false, false, false, false, false, false, false, false, false, false, false, false, false, false, false, false, false, false, false, false]) (by kernel_rfl) rfl (by kernel_rfl) (by kernel_rfl) (by kernel_rfl) (by kernel_rfl) (YI_v (v := .pointer (some ⟨ib30, io30 + k, none⟩)) rfl (fun w' hw' => r_idx (b := ib30) (off := io30) (m := n) (c := n) (o' := io30 + k) Try.underlying22 Try.sizeOf3 (by rw [← ha30]; rfl) rfl (by omega) (by omega) (by omega))) ?_
            refine Wt_take (i := 9) (listed' := #[true, true, true, true, true, true, true, true, true, true, false, false, false, false, false, false, false, false, false, false, false, false, false, false, false, false, false, false, false, false, false, false, false]) (by kernel_rfl) rfl (by kernel_rfl) (by kernel_rfl) (by kernel_rfl) (by kernel_rfl) (YI_v (v := .int .i64 ((cl l (2 ^ bt l)).getD k 0)) rfl (fun w' hw' => r_load Try.isAgg3 rfl (hw'.cellk hc30))) ?_
            refine Wt_take (i := 10) (listed' := #[true, true, true, true, true, true, true, true, true, true, true, false, false, false, false, false, false, false, false, false, false, false, false, false, false, false, false, false, false, false, false, false, false]) (by kernel_rfl) rfl (by kernel_rfl) (by kernel_rfl) (by kernel_rfl) (by kernel_rfl) (YI_v (v := .bool (decide (((cl l (2 ^ bt l)).getD k 0) ≠ 0))) rfl (fun w' hw' => r_ne rfl rfl)) ?_
            refine Wt_take (i := 11) (listed' := #[true, true, true, true, true, true, true, true, true, true, true, true, false, false, false, false, false, false, false, false, false, false, false, false, false, false, false, false, false, false, false, false, false]) (by kernel_rfl) rfl (by kernel_rfl) (by kernel_rfl) (by kernel_rfl) (by kernel_rfl) (YI_v rfl (fun w' hw' => r_pick_t (v := .bool (decide (((cl l (2 ^ bt l)).getD k 0) ≠ 0))) rfl rfl)) ?_
            refine Wt_take (i := 12) (listed' := #[true, true, true, true, true, true, true, true, true, true, true, true, true, false, false, false, false, false, false, false, false, false, false, false, false, false, false, false, false, false, false, false, false]) (by kernel_rfl) rfl (by kernel_rfl) (by kernel_rfl) (by kernel_rfl) (by kernel_rfl) (YI_v (v := .bool (decide (((cl l (2 ^ bt l)).getD k 0) ≠ 0))) rfl (fun w' hw' => r_mv (v := .bool (decide (((cl l (2 ^ bt l)).getD k 0) ≠ 0))) rfl)) ?_
            have q16 : ¬ (((cl l (2 ^ bt l)).getD k 0) ≠ 0) := (by rw [hcf]; split <;> omega)
            rw [decide_eq_false q16]
            refine Wt_take (i := 13) (listed' := #[true, true, true, true, true, true, true, true, true, true, true, true, true, true, false, false, false, false, false, false, false, false, false, false, false, false, false, false, false, false, false, false, false]) (by kernel_rfl) rfl (by kernel_rfl) (by kernel_rfl) (by kernel_rfl) (by kernel_rfl) (YI_v (v := .slice a n c) rfl (fun w' hw' => r_mv (v := .slice a n c) rfl)) ?_
            refine Wt_take (i := 14) (listed' := #[true, true, true, true, true, true, true, true, true, true, true, true, true, true, true, false, false, false, false, false, false, false, false, false, false, false, false, false, false, false, false, false, false]) (by kernel_rfl) rfl (by kernel_rfl) (by kernel_rfl) (by kernel_rfl) (by kernel_rfl) (YI_v (v := .int .i64 ((k : Nat) : Int)) rfl (fun w' hw' => r_mv (v := .int .i64 ((k : Nat) : Int)) rfl)) ?_
            obtain ⟨ib31, io31, ha31, hib31, hc31⟩ := (hs).iat (i := k) (by omega)
            replace hib31 : ib31 < w.heap.size := hib31
            refine Wt_take (i := 15) (listed' := #[true, true, true, true, true, true, true, true, true, true, true, true, true, true, true, true, false, false, false, false, false, false, false, false, false, false, false, false, false, false, false, false, false]) (by kernel_rfl) rfl (by kernel_rfl) (by kernel_rfl) (by kernel_rfl) (by kernel_rfl) (YI_v (v := .pointer (some ⟨ib31, io31 + k, none⟩)) rfl (fun w' hw' => r_idx (b := ib31) (off := io31) (m := n) (c := c) (o' := io31 + k) Try.underlying22 Try.sizeOf3 (by rw [← ha31]; rfl) rfl (by omega) (by omega) (by omega))) ?_
            refine Wt_take (i := 16) (listed' := #[true, true, true, true, true, true, true, true, true, true, true, true, true, true, true, true, true, false, false, false, false, false, false, false, false, false, false, false, false, false, false, false, false]) (by kernel_rfl) rfl (by kernel_rfl) (by kernel_rfl) (by kernel_rfl) (by kernel_rfl) (YI_v (v := .int .i64 (l.getD k 0)) rfl (fun w' hw' => r_load Try.isAgg3 rfl (hw'.cellk hc31))) ?_
            refine Wt_take (i := 17) (listed' := #[true, true, true, true, true, true, true, true, true, true, true, true, true, true, true, true, true, true, false, false, false, false, false, false, false, false, false, false, false, false, false, false, false]) (by kernel_rfl) rfl (by kernel_rfl) (by kernel_rfl) (by kernel_rfl) (by kernel_rfl) (YI_v (v := .bool (decide (0 < (l.getD k 0)))) rfl (fun w' hw' => r_gt rfl rfl)) ?_
            refine Wt_take (i := 18) (listed' := #[true, true, true, true, true, true, true, true, true, true, true, true, true, true, true, true, true, true, true, false, false, false, false, false, false, false, false, false, false, false, false, false, false]) (by kernel_rfl) rfl (by kernel_rfl) (by kernel_rfl) (by kernel_rfl) (by kernel_rfl) (YI_v (v := .bool (decide (0 < (l.getD k 0)))) rfl (fun w' hw' => r_mv (v := .bool (decide (0 < (l.getD k 0)))) rfl)) ?_
            by_cases q17 : 0 < (l.getD k 0)
            · rw [decide_eq_true q17]
              refine Wt_take (i := 19) (listed' := #[true, true, true, true, true, true, true, true, true, true, true, true, true, true, true, true, true, true, true, true, false, false, false, false, false, false, false, false, false, false, false, false, false]) (by kernel_rfl) rfl (by kernel_rfl) (by kernel_rfl) (by kernel_rfl) (by kernel_rfl) (YI_v (v := .slice (some ⟨B8, 0, none⟩) n n) rfl (fun w' hw' => r_mv (v := .slice (some ⟨B8, 0, none⟩) n n) rfl)) ?_
              refine Wt_take (i := 20) (listed' := #[true, true, true, true, true, true, true, true, true, true, true, true, true, true, true, true, true, true, true, true, true, false, false, false, false, false, false, false, false, false, false, false, false]) (by kernel_rfl) rfl (by kernel_rfl) (by kernel_rfl) (by kernel_rfl) (by kernel_rfl) (YI_v (v := .int .i64 ((k : Nat) : Int)) rfl (fun w' hw' => r_mv (v := .int .i64 ((k : Nat) : Int)) rfl)) ?_
              obtain ⟨ib32, io32, ha32, hib32, hc32⟩ := (hO8.sl).iat (i := k) (by omega)
              replace hib32 : ib32 = B8 := hib32
              refine Wt_take (i := 21) (listed' := #[true, true, true, true, true, true, true, true, true, true, true, true, true, true, true, true, true, true, true, true, true, true, false, false, false, false, false, false, false, false, false, false, false]) (by kernel_rfl) rfl (by kernel_rfl) (by kernel_rfl) (by kernel_rfl) (by kernel_rfl) (YI_v (v := .pointer (some ⟨ib32, io32 + k, none⟩)) rfl (fun w' hw' => r_idx (b := ib32) (off := io32) (m := n) (c := n) (o' := io32 + k) Try.underlying22 Try.sizeOf3 (by rw [← ha32]; rfl) rfl (by omega) (by omega) (by omega))) ?_
              refine Wt_take (i := 22) (listed' := #[true, true, true, true, true, true, true, true, true, true, true, true, true, true, true, true, true, true, true, true, true, true, true, false, false, false, false, false, false, false, false, false, false]) (by kernel_rfl) rfl (by kernel_rfl) (by kernel_rfl) (by kernel_rfl) (by kernel_rfl) (YI_v (v := .int .i64 ((cl l (2 ^ bt l)).getD k 0)) rfl (fun w' hw' => r_load Try.isAgg3 rfl (hw'.cellk hc32))) ?_
              refine Wt_take (i := 23) (listed' := #[true, true, true, true, true, true, true, true, true, true, true, true, true, true, true, true, true, true, true, true, true, true, true, true, false, false, false, false, false, false, false, false, false]) (by kernel_rfl) rfl (by kernel_rfl) (by kernel_rfl) (by kernel_rfl) (by kernel_rfl) (YI_v (v := .int .i64 ((bt l : Nat) : Int)) rfl (fun w' hw' => r_mv (v := .int .i64 ((bt l : Nat) : Int)) rfl)) ?_
              refine Wt_take (i := 24) (listed' := #[true, true, true, true, true, true, true, true, true, true, true, true, true, true, true, true, true, true, true, true, true, true, true, true, true, false, false, false, false, false, false, false, false]) (by kernel_rfl) rfl (by kernel_rfl) (by kernel_rfl) (by kernel_rfl) (by kernel_rfl) (YI_v (v := .slice a n c) rfl (fun w' hw' => r_mv (v := .slice a n c) rfl)) ?_
              refine Wt_take (i := 25) (listed' := #[true, true, true, true, true, true, true, true, true, true, true, true, true, true, true, true, true, true, true, true, true, true, true, true, true, true, false, false, false, false, false, false, false]) (by kernel_rfl) rfl (by kernel_rfl) (by kernel_rfl) (by kernel_rfl) (by kernel_rfl) (YI_v (v := .int .i64 ((k : Nat) : Int)) rfl (fun w' hw' => r_mv (v := .int .i64 ((k : Nat) : Int)) rfl)) ?_
              obtain ⟨ib33, io33, ha33, hib33, hc33⟩ := (hs).iat (i := k) (by omega)
              replace hib33 : ib33 < w.heap.size := hib33
              refine Wt_take (i := 26) (listed' := #[true, true, true, true, true, true, true, true, true, true, true, true, true, true, true, true, true, true, true, true, true, true, true, true, true, true, true, false, false, false, false, false, false]) (by kernel_rfl) rfl (by kernel_rfl) (by kernel_rfl) (by kernel_rfl) (by kernel_rfl) (YI_v (v := .pointer (some ⟨ib33, io33 + k, none⟩)) rfl (fun w' hw' => r_idx (b := ib33) (off := io33) (m := n) (c := c) (o' := io33 + k) Try.underlying22 Try.sizeOf3 (by rw [← ha33]; rfl) rfl (by omega) (by omega) (by omega))) ?_
              refine Wt_take (i := 27) (listed' := #[true, true, true, true, true, true, true, true, true, true, true, true, true, true, true, true, true, true, true, true, true, true, true, true, true, true, true, true, false, false, false, false, false]) (by kernel_rfl) rfl (by kernel_rfl) (by kernel_rfl) (by kernel_rfl) (by kernel_rfl) (YI_v (v := .int .i64 (l.getD k 0)) rfl (fun w' hw' => r_load Try.isAgg3 rfl (hw'.cellk hc33))) ?_
              refine Wt_take (i := 28) (listed' := #[true, true, true, true, true, true, true, true, true, true, true, true, true, true, true, true, true, true, true, true, true, true, true, true, true, true, true, true, true, false, false, false, false]) (by kernel_rfl) rfl (by kernel_rfl) (by kernel_rfl) (by kernel_rfl) (by kernel_rfl) (YI_v (v := .int .i64 (((bt l : Nat) : Int) - (l.getD k 0))) rfl (fun w' hw' => r_sub rfl rfl (wi64 (by omega) (by omega)))) ?_
              refine Wt_take (i := 29) (listed' := #[true, true, true, true, true, true, true, true, true, true, true, true, true, true, true, true, true, true, true, true, true, true, true, true, true, true, true, true, true, true, false, false, false]) (by kernel_rfl) rfl (by kernel_rfl) (by kernel_rfl) (by kernel_rfl) (by kernel_rfl) (YI_v (v := .int .i64 ((2 ^ (((bt l : Nat) : Int) - (l.getD k 0)).toNat : Nat) : Int)) rfl (fun w' hw' => r_shl rfl rfl (by omega) (shlT (by omega) (by omega)))) ?_
              refine Wt_take (i := 30) (listed' := #[true, true, true, true, true, true, true, true, true, true, true, true, true, true, true, true, true, true, true, true, true, true, true, true, true, true, true, true, true, true, true, false, false]) (by kernel_rfl) rfl (by kernel_rfl) (by kernel_rfl) (by kernel_rfl) (by kernel_rfl) (YI_v (v := .bool (decide (((cl l (2 ^ bt l)).getD k 0) ≠ ((2 ^ (((bt l : Nat) : Int) - (l.getD k 0)).toNat : Nat) : Int)))) rfl (fun w' hw' => r_ne rfl rfl)) ?_
              refine Wt_take (i := 31) (listed' := #[true, true, true, true, true, true, true, true, true, true, true, true, true, true, true, true, true, true, true, true, true, true, true, true, true, true, true, true, true, true, true, true, false]) (by kernel_rfl) rfl (by kernel_rfl) (by kernel_rfl) (by kernel_rfl) (by kernel_rfl) (YI_v rfl (fun w' hw' => r_pick_t (v := .bool (decide (((cl l (2 ^ bt l)).getD k 0) ≠ ((2 ^ (((bt l : Nat) : Int) - (l.getD k 0)).toNat : Nat) : Int)))) rfl rfl)) ?_
              refine Wt_take (i := 32) (listed' := #[true, true, true, true, true, true, true, true, true, true, true, true, true, true, true, true, true, true, true, true, true, true, true, true, true, true, true, true, true, true, true, true, true]) (by kernel_rfl) rfl (by kernel_rfl) (by kernel_rfl) (by kernel_rfl) (by kernel_rfl) (YI_v rfl (fun w' hw' => r_pick_f (v := .bool (decide (((cl l (2 ^ bt l)).getD k 0) ≠ ((2 ^ (((bt l : Nat) : Int) - (l.getD k 0)).toNat : Nat) : Int)))) rfl rfl)) ?_
              intro w34 hU34
              have hzw34 := hU34.size
              replace hs := hs.upd0 hU34
              replace HU := HU.trans0 hU34
              replace hT3 := hT3.upd0 hU34
              replace hE3 := hE3.upd0 hU34
              replace hL3 := hL3.upd0 hU34
              replace hO4 := hO4.upd0 hU34
              replace hO8 := hO8.upd0 hU34
              replace HL28 := HL28.trans0 hU34
              replace hc29 := cell_upd0 hU34 hc29
              replace hc30 := cell_upd0 hU34 hc30
              replace hc31 := cell_upd0 hU34 hc31
              replace hc32 := cell_upd0 hU34 hc32
              replace hc33 := cell_upd0 hU34 hc33
              refine Wa_done (by kernel_rfl) ?_
              have q18 : ¬ (((cl l (2 ^ bt l)).getD k 0) ≠ ((2 ^ (((bt l : Nat) : Int) - (l.getD k 0)).toNat : Nat) : Int)) := (by rw [hcf]; split <;> omega)
              rw [decide_eq_false q18]
              refine W_cond_f rfl ?_
              refine W_skip ?_
              refine W_region ?_
              refine Wl_v (r_mv (v := .int .i64 ((k : Nat) : Int)) rfl) ?_
              refine Wl_v (r_add rfl rfl (wi64 (by omega) (by omega))) ?_
              refine Wl_v (r_as (v := .int .i64 (((k : Nat) : Int) + 1)) rfl) ?_
              refine Wl_nil ?_
              refine ⟨_, ?_, (k + 1), rfl, rfl, ⟨rfl, rfl, rfl, rfl, rfl, rfl, (Eq.trans (b := .int .i64 (((k : Nat) : Int) + 1)) rfl (vint (by omega))), trivial⟩, (by omega), HL28⟩
              omega
            · rw [decide_eq_false q17]
              refine Wt_take (i := 19) (listed' := #[true, true, true, true, true, true, true, true, true, true, true, true, true, true, true, true, true, true, true, true, false, false, false, false, false, false, false, false, false, false, false, false, false]) (by kernel_rfl) rfl (by kernel_rfl) (by kernel_rfl) (by kernel_rfl) (by kernel_rfl) (YI_no rfl) ?_
              refine Wt_take (i := 20) (listed' := #[true, true, true, true, true, true, true, true, true, true, true, true, true, true, true, true, true, true, true, true, true, false, false, false, false, false, false, false, false, false, false, false, false]) (by kernel_rfl) rfl (by kernel_rfl) (by kernel_rfl) (by kernel_rfl) (by kernel_rfl) (YI_no rfl) ?_
              refine Wt_take (i := 21) (listed' := #[true, true, true, true, true, true, true, true, true, true, true, true, true, true, true, true, true, true, true, true, true, true, false, false, false, false, false, false, false, false, false, false, false]) (by kernel_rfl) rfl (by kernel_rfl) (by kernel_rfl) (by kernel_rfl) (by kernel_rfl) (YI_no rfl) ?_
              refine Wt_take (i := 22) (listed' := #[true, true, true, true, true, true, true, true, true, true, true, true, true, true, true, true, true, true, true, true, true, true, true, false, false, false, false, false, false, false, false, false, false]) (by kernel_rfl) rfl (by kernel_rfl) (by kernel_rfl) (by kernel_rfl) (by kernel_rfl) (YI_no rfl) ?_
              refine Wt_take (i := 23) (listed' := #[true, true, true, true, true, true, true, true, true, true, true, true, true, true, true, true, true, true, true, true, true, true, true, true, false, false, false, false, false, false, false, false, false]) (by kernel_rfl) rfl (by kernel_rfl) (by kernel_rfl) (by kernel_rfl) (by kernel_rfl) (YI_no rfl) ?_
              refine Wt_take (i := 24) (listed' := #[true, true, true, true, true, true, true, true, true, true, true, true, true, true, true, true, true, true, true, true, true, true, true, true, true, false, false, false, false, false, false, false, false]) (by kernel_rfl) rfl (by kernel_rfl) (by kernel_rfl) (by kernel_rfl) (by kernel_rfl) (YI_no rfl) ?_
              refine Wt_take (i := 25) (listed' := #[true, true, true, true, true, true, true, true, true, true, true, true, true, true, true, true, true, true, true, true, true, true, true, true, true, true, false, false, false, false, false, false, false]) (by kernel_rfl) rfl (by kernel_rfl) (by kernel_rfl) (by kernel_rfl) (by kernel_rfl) (YI_no rfl) ?_
              refine Wt_take (i := 26) (listed' := #[true, true, true, true, true, true, true, true, true, true, true, true, true, true, true, true, true, true, true, true, true, true, true, true, true, true, true, false, false, false, false, false, false]) (by kernel_rfl) rfl (by kernel_rfl) (by kernel_rfl) (by kernel_rfl) (by kernel_rfl) (YI_no rfl) ?_
              refine Wt_take (i := 27) (listed' := #[true, true, true, true, true, true, true, true, true, true, true, true, true, true, true, true, true, true, true, true, true, true, true, true, true, true, true, true, false, false, false, false, false]) (by kernel_rfl) rfl (by kernel_rfl) (by kernel_rfl) (by kernel_rfl) (by kernel_rfl) (YI_no rfl) ?_
              refine Wt_take (i := 28) (listed' := #[true, true, true, true, true, true, true, true, true, true, true, true, true, true, true, true, true, true, true, true, true, true, true, true, true, true, true, true, true, false, false, false, false]) (by kernel_rfl) rfl (by kernel_rfl) (by kernel_rfl) (by kernel_rfl) (by kernel_rfl) (YI_no rfl) ?_
              refine Wt_take (i := 29) (listed' := #[true, true, true, true, true, true, true, true, true, true, true, true, true, true, true, true, true, true, true, true, true, true, true, true, true, true, true, true, true, true, false, false, false]) (by kernel_rfl) rfl (by kernel_rfl) (by kernel_rfl) (by kernel_rfl) (by kernel_rfl) (YI_no rfl) ?_
              refine Wt_take (i := 30) (listed' := #[true, true, true, true, true, true, true, true, true, true, true, true, true, true, true, true, true, true, true, true, true, true, true, true, true, true, true, true, true, true, true, false, false]) (by kernel_rfl) rfl (by kernel_rfl) (by kernel_rfl) (by kernel_rfl) (by kernel_rfl) (YI_no rfl) ?_
              refine Wt_take (i := 31) (listed' := #[true, true, true, true, true, true, true, true, true, true, true, true, true, true, true, true, true, true, true, true, true, true, true, true, true, true, true, true, true, true, true, true, false]) (by kernel_rfl) rfl (by kernel_rfl) (by kernel_rfl) (by kernel_rfl) (by kernel_rfl) (YI_v rfl (fun w' hw' => r_pick_f (v := .bool false) rfl rfl)) ?_
              refine Wt_take (i := 32) (listed' := #[true, true, true, true, true, true, true, true, true, true, true, true, true, true, true, true, true, true, true, true, true, true, true, true, true, true, true, true, true, true, true, true, true]) (by kernel_rfl) rfl (by kernel_rfl) (by kernel_rfl) (by kernel_rfl) (by kernel_rfl) (YI_v rfl (fun w' hw' => r_pick_f (v := .bool false) rfl rfl)) ?_
              intro w35 hU35
              have hzw35 := hU35.size
              replace hs := hs.upd0 hU35
              replace HU := HU.trans0 hU35
              replace hT3 := hT3.upd0 hU35
              replace hE3 := hE3.upd0 hU35
              replace hL3 := hL3.upd0 hU35
              replace hO4 := hO4.upd0 hU35
              replace hO8 := hO8.upd0 hU35
              replace HL28 := HL28.trans0 hU35
              replace hc29 := cell_upd0 hU35 hc29
              replace hc30 := cell_upd0 hU35 hc30
              replace hc31 := cell_upd0 hU35 hc31
              refine Wa_done (by kernel_rfl) ?_
              refine W_cond_f rfl ?_
              refine W_skip ?_
              refine W_region ?_
              refine Wl_v (r_mv (v := .int .i64 ((k : Nat) : Int)) rfl) ?_
              refine Wl_v (r_add rfl rfl (wi64 (by omega) (by omega))) ?_
              refine Wl_v (r_as (v := .int .i64 (((k : Nat) : Int) + 1)) rfl) ?_
              refine Wl_nil ?_
              refine ⟨_, ?_, (k + 1), rfl, rfl, ⟨rfl, rfl, rfl, rfl, rfl, rfl, (Eq.trans (b := .int .i64 (((k : Nat) : Int) + 1)) rfl (vint (by omega))), trivial⟩, (by omega), HL28⟩
              omega
          · rw [decide_eq_false q15]
            refine Wt_take (i := 6) (listed' := #[true, true, true, true, true, true, true, false, false, false, false, false, false, false, false, false, false, false, false, false, false, false, false, false, false, false, false, false, false, false, false, false, false]) (by kernel_rfl) rfl (by kernel_rfl) (by kernel_rfl) (by kernel_rfl) (by kernel_rfl) (YI_no rfl) ?_
            refine Wt_take (i := 7) (listed' := #[true, true, true, true, true, true, true, true, false, false, false, false, false, false, false, false, false, false, false, false, false, false, false, false, false, false, false, false, false, false, false, false, false]) (by kernel_rfl) rfl (by kernel_rfl) (by kernel_rfl) (by kernel_rfl) (by kernel_rfl) (YI_no rfl) ?_
            refine Wt_take (i := 8) (listed' := #[true, true, true, true, true, true, true, true, true, false, false, false, false, false, false, false, false, false, false, false, false, false, false, false, false, false, false, false, false, false, false, false, false]) (by kernel_rfl) rfl (by kernel_rfl) (by kernel_rfl) (by kernel_rfl) (by kernel_rfl) (YI_no rfl) ?_
            refine Wt_take (i := 9) (listed' := #[true, true, true, true, true, true, true, true, true, true, false, false, false, false, false, false, false, false, false, false, false, false, false, false, false, false, false, false, false, false, false, false, false]) (by kernel_rfl) rfl (by kernel_rfl) (by kernel_rfl) (by kernel_rfl) (by kernel_rfl) (YI_no rfl) ?_
            refine Wt_take (i := 10) (listed' := #[true, true, true, true, true, true, true, true, true, true, true, false, false, false, false, false, false, false, false, false, false, false, false, false, false, false, false, false, false, false, false, false, false]) (by kernel_rfl) rfl (by kernel_rfl) (by kernel_rfl) (by kernel_rfl) (by kernel_rfl) (YI_no rfl) ?_
            refine Wt_take (i := 11) (listed' := #[true, true, true, true, true, true, true, true, true, true, true, true, false, false, false, false, false, false, false, false, false, false, false, false, false, false, false, false, false, false, false, false, false]) (by kernel_rfl) rfl (by kernel_rfl) (by kernel_rfl) (by kernel_rfl) (by kernel_rfl) (YI_v rfl (fun w' hw' => r_pick_f (v := .bool false) rfl rfl)) ?_
            refine Wt_take (i := 12) (listed' := #[true, true, true, true, true, true, true, true, true, true, true, true, true, false, false, false, false, false, false, false, false, false, false, false, false, false, false, false, false, false, false, false, false]) (by kernel_rfl) rfl (by kernel_rfl) (by kernel_rfl) (by kernel_rfl) (by kernel_rfl) (YI_v (v := .bool false) rfl (fun w' hw' => r_mv (v := .bool false) rfl)) ?_
            refine Wt_take (i := 13) (listed' := #[true, true, true, true, true, true, true, true, true, true, true, true, true, true, false, false, false, false, false, false, false, false, false, false, false, false, false, false, false, false, false, false, false]) (by kernel_rfl) rfl (by kernel_rfl) (by kernel_rfl) (by kernel_rfl) (by kernel_rfl) (YI_v (v := .slice a n c) rfl (fun w' hw' => r_mv (v := .slice a n c) rfl)) ?_
            refine Wt_take (i := 14) (listed' := #[true, true, true, true, true, true, true, true, true, true, true, true, true, true, true, false, false, false, false, false, false, false, false, false, false, false, false, false, false, false, false, false, false]) (by kernel_rfl) rfl (by kernel_rfl) (by kernel_rfl) (by kernel_rfl) (by kernel_rfl) (YI_v (v := .int .i64 ((k : Nat) : Int)) rfl (fun w' hw' => r_mv (v := .int .i64 ((k : Nat) : Int)) rfl)) ?_
            obtain ⟨ib36, io36, ha36, hib36, hc36⟩ := (hs).iat (i := k) (by omega)
            replace hib36 : ib36 < w.heap.size := hib36
            refine Wt_take (i := 15) (listed' := #[true, true, true, true, true, true, true, true, true, true, true, true, true, true, true, true, false, false, false, false, false, false, false, false, false, false, false, false, false, false, false, false, false]) (by kernel_rfl) rfl (by kernel_rfl) (by kernel_rfl) (by kernel_rfl) (by kernel_rfl) (YI_v (v := .pointer (some ⟨ib36, io36 + k, none⟩)) rfl (fun w' hw' => r_idx (b := ib36) (off := io36) (m := n) (c := c) (o' := io36 + k) Try.underlying22 Try.sizeOf3 (by rw [← ha36]; rfl) rfl (by omega) (by omega) (by omega))) ?_
            refine Wt_take (i := 16) (listed' := #[true, true, true, true, true, true, true, true, true, true, true, true, true, true, true, true, true, false, false, false, false, false, false, false, false, false, false, false, false, false, false, false, false]) (by kernel_rfl) rfl (by kernel_rfl) (by kernel_rfl) (by kernel_rfl) (by kernel_rfl) (YI_v (v := .int .i64 (l.getD k 0)) rfl (fun w' hw' => r_load Try.isAgg3 rfl (hw'.cellk hc36))) ?_
            refine Wt_take (i := 17) (listed' := #[true, true, true, true, true, true, true, true, true, true, true, true, true, true, true, true, true, true, false, false, false, false, false, false, false, false, false, false, false, false, false, false, false]) (by kernel_rfl) rfl (by kernel_rfl) (by kernel_rfl) (by kernel_rfl) (by kernel_rfl) (YI_v (v := .bool (decide (0 < (l.getD k 0)))) rfl (fun w' hw' => r_gt rfl rfl)) ?_
            refine Wt_take (i := 18) (listed' := #[true, true, true, true, true, true, true, true, true, true, true, true, true, true, true, true, true, true, true, false, false, false, false, false, false, false, false, false, false, false, false, false, false]) (by kernel_rfl) rfl (by kernel_rfl) (by kernel_rfl) (by kernel_rfl) (by kernel_rfl) (YI_v (v := .bool (decide (0 < (l.getD k 0)))) rfl (fun w' hw' => r_mv (v := .bool (decide (0 < (l.getD k 0)))) rfl)) ?_
            by_cases q19 : 0 < (l.getD k 0)
            · rw [decide_eq_true q19]
              refine Wt_take (i := 19) (listed' := #[true, true, true, true, true, true, true, true, true, true, true, true, true, true, true, true, true, true, true, true, false, false, false, false, false, false, false, false, false, false, false, false, false]) (by kernel_rfl) rfl (by kernel_rfl) (by kernel_rfl) (by kernel_rfl) (by kernel_rfl) (YI_v (v := .slice (some ⟨B8, 0, none⟩) n n) rfl (fun w' hw' => r_mv (v := .slice (some ⟨B8, 0, none⟩) n n) rfl)) ?_
              refine Wt_take (i := 20) (listed' := #[true, true, true, true, true, true, true, true, true, true, true, true, true, true, true, true, true, true, true, true, true, false, false, false, false, false, false, false, false, false, false, false, false]) (by kernel_rfl) rfl (by kernel_rfl) (by kernel_rfl) (by kernel_rfl) (by kernel_rfl) (YI_v (v := .int .i64 ((k : Nat) : Int)) rfl (fun w' hw' => r_mv (v := .int .i64 ((k : Nat) : Int)) rfl)) ?_
              obtain ⟨ib37, io37, ha37, hib37, hc37⟩ := (hO8.sl).iat (i := k) (by omega)
              replace hib37 : ib37 = B8 := hib37
              refine Wt_take (i := 21) (listed' := #[true, true, true, true, true, true, true, true, true, true, true, true, true, true, true, true, true, true, true, true, true, true, false, false, false, false, false, false, false, false, false, false, false]) (by kernel_rfl) rfl (by kernel_rfl) (by kernel_rfl) (by kernel_rfl) (by kernel_rfl) (YI_v (v := .pointer (some ⟨ib37, io37 + k, none⟩)) rfl (fun w' hw' => r_idx (b := ib37) (off := io37) (m := n) (c := n) (o' := io37 + k) Try.underlying22 Try.sizeOf3 (by rw [← ha37]; rfl) rfl (by omega) (by omega) (by omega))) ?_
              refine Wt_take (i := 22) (listed' := #[true, true, true, true, true, true, true, true, true, true, true, true, true, true, true, true, true, true, true, true, true, true, true, false, false, false, false, false, false, false, false, false, false]) (by kernel_rfl) rfl (by kernel_rfl) (by kernel_rfl) (by kernel_rfl) (by kernel_rfl) (YI_v (v := .int .i64 ((cl l (2 ^ bt l)).getD k 0)) rfl (fun w' hw' => r_load Try.isAgg3 rfl (hw'.cellk hc37))) ?_
              refine Wt_take (i := 23) (listed' := #[true, true, true, true, true, true, true, true, true, true, true, true, true, true, true, true, true, true, true, true, true, true, true, true, false, false, false, false, false, false, false, false, false]) (by kernel_rfl) rfl (by kernel_rfl) (by kernel_rfl) (by kernel_rfl) (by kernel_rfl) (YI_v (v := .int .i64 ((bt l : Nat) : Int)) rfl (fun w' hw' => r_mv (v := .int .i64 ((bt l : Nat) : Int)) rfl)) ?_
              refine Wt_take (i := 24) (listed' := #[true, true, true, true, true, true, true, true, true, true, true, true, true, true, true, true, true, true, true, true, true, true, true, true, true, false, false, false, false, false, false, false, false]) (by kernel_rfl) rfl (by kernel_rfl) (by kernel_rfl) (by kernel_rfl) (by kernel_rfl) (YI_v (v := .slice a n c) rfl (fun w' hw' => r_mv (v := .slice a n c) rfl)) ?_
              refine Wt_take (i := 25) (listed' := #[true, true, true, true, true, true, true, true, true, true, true, true, true, true, true, true, true, true, true, true, true, true, true, true, true, true, false, false, false, false, false, false, false]) (by kernel_rfl) rfl (by kernel_rfl) (by kernel_rfl) (by kernel_rfl) (by kernel_rfl) (YI_v (v := .int .i64 ((k : Nat) : Int)) rfl (fun w' hw' => r_mv (v := .int .i64 ((k : Nat) : Int)) rfl)) ?_
              obtain ⟨ib38, io38, ha38, hib38, hc38⟩ := (hs).iat (i := k) (by omega)
              replace hib38 : ib38 < w.heap.size := hib38
              refine Wt_take (i := 26) (listed' := #[true, true, true, true, true, true, true, true, true, true, true, true, true, true, true, true, true, true, true, true, true, true, true, true, true, true, true, false, false, false, false, false, false]) (by kernel_rfl) rfl (by kernel_rfl) (by kernel_rfl) (by kernel_rfl) (by kernel_rfl) (YI_v (v := .pointer (some ⟨ib38, io38 + k, none⟩)) rfl (fun w' hw' => r_idx (b := ib38) (off := io38) (m := n) (c := c) (o' := io38 + k) Try.underlying22 Try.sizeOf3 (by rw [← ha38]; rfl) rfl (by omega) (by omega) (by omega))) ?_
              refine Wt_take (i := 27) (listed' := #[true, true, true, true, true, true, true, true, true, true, true, true, true, true, true, true, true, true, true, true, true, true, true, true, true, true, true, true, false, false, false, false, false]) (by kernel_rfl) rfl (by kernel_rfl) (by kernel_rfl) (by kernel_rfl) (by kernel_rfl) (YI_v (v := .int .i64 (l.getD k 0)) rfl (fun w' hw' => r_load Try.isAgg3 rfl (hw'.cellk hc38))) ?_
              refine Wt_take (i := 28) (listed' := #[true, true, true, true, true, true, true, true, true, true, true, true, true, true, true, true, true, true, true, true, true, true, true, true, true, true, true, true, true, false, false, false, false]) (by kernel_rfl) rfl (by kernel_rfl) (by kernel_rfl) (by kernel_rfl) (by kernel_rfl) (YI_v (v := .int .i64 (((bt l : Nat) : Int) - (l.getD k 0))) rfl (fun w' hw' => r_sub rfl rfl (wi64 (by omega) (by omega)))) ?_
              refine Wt_take (i := 29) (listed' := #[true, true, true, true, true, true, true, true, true, true, true, true, true, true, true, true, true, true, true, true, true, true, true, true, true, true, true, true, true, true, false, false, false]) (by kernel_rfl) rfl (by kernel_rfl) (by kernel_rfl) (by kernel_rfl) (by kernel_rfl) (YI_v (v := .int .i64 ((2 ^ (((bt l : Nat) : Int) - (l.getD k 0)).toNat : Nat) : Int)) rfl (fun w' hw' => r_shl rfl rfl (by omega) (shlT (by omega) (by omega)))) ?_
              refine Wt_take (i := 30) (listed' := #[true, true, true, true, true, true, true, true, true, true, true, true, true, true, true, true, true, true, true, true, true, true, true, true, true, true, true, true, true, true, true, false, false]) (by kernel_rfl) rfl (by kernel_rfl) (by kernel_rfl) (by kernel_rfl) (by kernel_rfl) (YI_v (v := .bool (decide (((cl l (2 ^ bt l)).getD k 0) ≠ ((2 ^ (((bt l : Nat) : Int) - (l.getD k 0)).toNat : Nat) : Int)))) rfl (fun w' hw' => r_ne rfl rfl)) ?_
              refine Wt_take (i := 31) (listed' := #[true, true, true, true, true, true, true, true, true, true, true, true, true, true, true, true, true, true, true, true, true, true, true, true, true, true, true, true, true, true, true, true, false]) (by kernel_rfl) rfl (by kernel_rfl) (by kernel_rfl) (by kernel_rfl) (by kernel_rfl) (YI_v rfl (fun w' hw' => r_pick_t (v := .bool (decide (((cl l (2 ^ bt l)).getD k 0) ≠ ((2 ^ (((bt l : Nat) : Int) - (l.getD k 0)).toNat : Nat) : Int)))) rfl rfl)) ?_
              refine Wt_take (i := 32) (listed' := #[true, true, true, true, true, true, true, true, true, true, true, true, true, true, true, true, true, true, true, true, true, true, true, true, true, true, true, true, true, true, true, true, true]) (by kernel_rfl) rfl (by kernel_rfl) (by kernel_rfl) (by kernel_rfl) (by kernel_rfl) (YI_v rfl (fun w' hw' => r_pick_f (v := .bool (decide (((cl l (2 ^ bt l)).getD k 0) ≠ ((2 ^ (((bt l : Nat) : Int) - (l.getD k 0)).toNat : Nat) : Int)))) rfl rfl)) ?_
              intro w39 hU39
              have hzw39 := hU39.size
              replace hs := hs.upd0 hU39
              replace HU := HU.trans0 hU39
              replace hT3 := hT3.upd0 hU39
              replace hE3 := hE3.upd0 hU39
              replace hL3 := hL3.upd0 hU39
              replace hO4 := hO4.upd0 hU39
              replace hO8 := hO8.upd0 hU39
              replace HL28 := HL28.trans0 hU39
              replace hc29 := cell_upd0 hU39 hc29
              replace hc36 := cell_upd0 hU39 hc36
              replace hc37 := cell_upd0 hU39 hc37
              replace hc38 := cell_upd0 hU39 hc38
              refine Wa_done (by kernel_rfl) ?_
              have q20 : ¬ (((cl l (2 ^ bt l)).getD k 0) ≠ ((2 ^ (((bt l : Nat) : Int) - (l.getD k 0)).toNat : Nat) : Int)) := (by rw [hcf]; split <;> omega)
              rw [decide_eq_false q20]
              refine W_cond_f rfl ?_
              refine W_skip ?_
              refine W_region ?_
              refine Wl_v (r_mv (v := .int .i64 ((k : Nat) : Int)) rfl) ?_
              refine Wl_v (r_add rfl rfl (wi64 (by omega) (by omega))) ?_
              refine Wl_v (r_as (v := .int .i64 (((k : Nat) : Int) + 1)) rfl) ?_
              refine Wl_nil ?_
              refine ⟨_, ?_, (k + 1), rfl, rfl, ⟨rfl, rfl, rfl, rfl, rfl, rfl, (Eq.trans (b := .int .i64 (((k : Nat) : Int) + 1)) rfl (vint (by omega))), trivial⟩, (by omega), HL28⟩
              omega
            · rw [decide_eq_false q19]
              refine Wt_take (i := 19) (listed' := #[true, true, true, true, true, true, true, true, true, true, true, true, true, true, true, true, true, true, true, true, false, false, false, false, false, false, false, false, false, false, false, false, false]) (by kernel_rfl) rfl (by kernel_rfl) (by kernel_rfl) (by kernel_rfl) (by kernel_rfl) (YI_no rfl) ?_
              refine Wt_take (i := 20) (listed' := #[true, true, true, true, true, true, true, true, true, true, true, true, true, true, true, true, true, true, true, true, true, false, false, false, false, false, false, false, false, false, false, false, false]) (by kernel_rfl) rfl (by kernel_rfl) (by kernel_rfl) (by kernel_rfl) (by kernel_rfl) (YI_no rfl) ?_
              refine Wt_take (i := 21) (listed' := #[true, true, true, true, true, true, true, true, true, true, true, true, true, true, true, true, true, true, true, true, true, true, false, false, false, false, false, false, false, false, false, false, false]) (by kernel_rfl) rfl (by kernel_rfl) (by kernel_rfl) (by kernel_rfl) (by kernel_rfl) (YI_no rfl) ?_
              refine Wt_take (i := 22) (listed' := #[true, true, true, true, true, true, true, true, true, true, true, true, true, true, true, true, true, true, true, true, true, true, true, false, false, false, false, false, false, false, false, false, false]) (by kernel_rfl) rfl (by kernel_rfl) (by kernel_rfl) (by kernel_rfl) (by kernel_rfl) (YI_no rfl) ?_
              refine Wt_take (i := 23) (listed' := #[true, true, true, true, true, true, true, true, true, true, true, true, true, true, true, true, true, true, true, true, true, true, true, true, false, false, false, false, false, false, false, false, false]) (by kernel_rfl) rfl (by kernel_rfl) (by kernel_rfl) (by kernel_rfl) (by kernel_rfl) (YI_no rfl) ?_
              refine Wt_take (i := 24) (listed' := #[true, true, true, true, true, true, true, true, true, true, true, true, true, true, true, true, true, true, true, true, true, true, true, true, true, false, false, false, false, false, false, false, false]) (by kernel_rfl) rfl (by kernel_rfl) (by kernel_rfl) (by kernel_rfl) (by kernel_rfl) (YI_no rfl) ?_
              refine Wt_take (i := 25) (listed' := #[true, true, true, true, true, true, true, true, true, true, true, true, true, true, true, true, true, true, true, true, true, true, true, true, true, true, false, false, false, false, false, false, false]) (by kernel_rfl) rfl (by kernel_rfl) (by kernel_rfl) (by kernel_rfl) (by kernel_rfl) (YI_no rfl) ?_
              refine Wt_take (i := 26) (listed' := #[true, true, true, true, true, true, true, true, true, true, true, true, true, true, true, true, true, true, true, true, true, true, true, true, true, true, true, false, false, false, false, false, false]) (by kernel_rfl) rfl (by kernel_rfl) (by kernel_rfl) (by kernel_rfl) (by kernel_rfl) (YI_no rfl) ?_
              refine Wt_take (i := 27) (listed' := #[true, true, true, true, true, true, true, true, true, true, true, true, true, true, true, true, true, true, true, true, true, true, true, true, true, true, true, true, false, false, false, false, false]) (by kernel_rfl) rfl (by kernel_rfl) (by kernel_rfl) (by kernel_rfl) (by kernel_rfl) (YI_no rfl) ?_
              refine Wt_take (i := 28) (listed' := #[true, true, true, true, true, true, true, true, true, true, true, true, true, true, true, true, true, true, true, true, true, true, true, true, true, true, true, true, true, false, false, false, false]) (by kernel_rfl) rfl (by kernel_rfl) (by kernel_rfl) (by kernel_rfl) (by kernel_rfl) (YI_no rfl) ?_
              refine Wt_take (i := 29) (listed' := #[true, true, true, true, true, true, true, true, true, true, true, true, true, true, true, true, true, true, true, true, true, true, true, true, true, true, true, true, true, true, false, false, false]) (by kernel_rfl) rfl (by kernel_rfl) (by kernel_rfl) (by kernel_rfl) (by kernel_rfl) (YI_no rfl) ?_
              refine Wt_take (i := 30) (listed' := #[true, true, true, true, true, true, true, true, true, true, true, true, true, true, true, true, true, true, true, true, true, true, true, true, true, true, true, true, true, true, true, false, false]) (by kernel_rfl) rfl (by kernel_rfl) (by kernel_rfl) (by kernel_rfl) (by kernel_rfl) (YI_no rfl) ?_
              refine Wt_take (i := 31) (listed' := #[true, true, true, true, true, true, true, true, true, true, true, true, true, true, true, true, true, true, true, true, true, true, true, true, true, true, true, true, true, true, true, true, false]) (by kernel_rfl) rfl (by kernel_rfl) (by kernel_rfl) (by kernel_rfl) (by kernel_rfl) (YI_v rfl (fun w' hw' => r_pick_f (v := .bool false) rfl rfl)) ?_
              refine Wt_take (i := 32) (listed' := #[true, true, true, true, true, true, true, true, true, true, true, true, true, true, true, true, true, true, true, true, true, true, true, true, true, true, true, true, true, true, true, true, true]) (by kernel_rfl) rfl (by kernel_rfl) (by kernel_rfl) (by kernel_rfl) (by kernel_rfl) (YI_v rfl (fun w' hw' => r_pick_f (v := .bool false) rfl rfl)) ?_
              intro w40 hU40
              have hzw40 := hU40.size
              replace hs := hs.upd0 hU40
              replace HU := HU.trans0 hU40
              replace hT3 := hT3.upd0 hU40
              replace hE3 := hE3.upd0 hU40
              replace hL3 := hL3.upd0 hU40
              replace hO4 := hO4.upd0 hU40
              replace hO8 := hO8.upd0 hU40
              replace HL28 := HL28.trans0 hU40
              replace hc29 := cell_upd0 hU40 hc29
              replace hc36 := cell_upd0 hU40 hc36
              refine Wa_done (by kernel_rfl) ?_
              refine W_cond_f rfl ?_
              refine W_skip ?_
              refine W_region ?_
              refine Wl_v (r_mv (v := .int .i64 ((k : Nat) : Int)) rfl) ?_
              refine Wl_v (r_add rfl rfl (wi64 (by omega) (by omega))) ?_
              refine Wl_v (r_as (v := .int .i64 (((k : Nat) : Int) + 1)) rfl) ?_
              refine Wl_nil ?_
              refine ⟨_, ?_, (k + 1), rfl, rfl, ⟨rfl, rfl, rfl, rfl, rfl, rfl, (Eq.trans (b := .int .i64 (((k : Nat) : Int) + 1)) rfl (vint (by omega))), trivial⟩, (by omega), HL28⟩
              omega
        · rw [decide_eq_false q14]
          refine W_cond_f rfl ?_
          refine W_exit ?_
          refine W_seq ?_
          refine W_region ?_
          refine Wl_v (r_mv (v := .int .u64 bits) rfl) ?_
          refine Wl_v (r_mv (v := .slice a4 (2 ^ bt l) c4) rfl) ?_
          refine Wl_v (r_len Try.underlying24 rfl) ?_
          refine Wl_v (r_cvt Try.underlying3 Try.underlying45 rfl (wu64 (by omega) (by omega))) ?_
          refine Wl_v (r_rem rfl rfl (by omega) (tr (by omega))) ?_
          obtain ⟨q, hq, hql⟩ := mod_nat15 (x := bits) (m := 2 ^ bt l) (by omega)
          have hdt := dec_top q2 hql
          rw [show (bits % ((2 ^ bt l : Nat) : Int) : Int) = ((q : Nat) : Int) from hq]
          refine Wl_v (r_as (v := .int .u64 ((q : Nat) : Int)) rfl) ?_
          refine Wl_nil ?_
          refine W_seq ?_
          refine W_region ?_
          refine Wl_v (r_mv (v := .pointer (some ⟨tb3, 0, none⟩)) rfl) ?_
          refine Wl_v (r_mv (v := .int .u64 ((q : Nat) : Int)) rfl) ?_
          refine Wl_v (r_mv (v := .int .i64 ((bt l : Nat) : Int)) rfl) ?_
          refine Wl_call (r_call3 rfl Try.call22 rfl rfl rfl) (tdec _ hT3 hE3.sl.any q2 (by omega) (by omega)) ?_
          rintro v w41 ⟨rfl, hU41⟩
          have hzw41 := hU41.size
          replace hs := hs.upd0 hU41
          replace HU := HU.trans0 hU41
          replace hT3 := hT3.upd0 hU41
          replace hE3 := hE3.upd0 hU41
          replace hL3 := hL3.upd0 hU41
          replace hO4 := hO4.upd0 hU41
          replace hO8 := hO8.upd0 hU41
          have hdr := dec_rng q2 (bits := ((q : Nat) : Int)) (m := ((bt l : Nat) : Int)) (by omega) (by omega)
          refine Wl_v (r_mv (v := .tuple #[.int .i64 ((dec l ((q : Nat) : Int) ((bt l : Nat) : Int)).1), .int .i64 ((dec l ((q : Nat) : Int) ((bt l : Nat) : Int)).2.1), .int .i64 ((dec l ((q : Nat) : Int) ((bt l : Nat) : Int)).2.2)]) rfl) ?_
          refine Wl_v (r_ext (v := .int .i64 ((dec l ((q : Nat) : Int) ((bt l : Nat) : Int)).1)) rfl rfl) ?_
          refine Wl_v (r_ext (v := .int .i64 ((dec l ((q : Nat) : Int) ((bt l : Nat) : Int)).2.1)) rfl rfl) ?_
          refine Wl_v (r_ext (v := .int .i64 ((dec l ((q : Nat) : Int) ((bt l : Nat) : Int)).2.2)) rfl rfl) ?_
          refine Wl_v (r_as (v := .int .i64 ((dec l ((q : Nat) : Int) ((bt l : Nat) : Int)).1)) rfl) ?_
          refine Wl_v (r_as (v := .int .i64 ((dec l ((q : Nat) : Int) ((bt l : Nat) : Int)).2.1)) rfl) ?_
          refine Wl_v (r_as (v := .int .i64 ((dec l ((q : Nat) : Int) ((bt l : Nat) : Int)).2.2)) rfl) ?_
          refine Wl_nil ?_
          refine W_seq ?_
          refine W_seq ?_
          refine W_region ?_
          refine Wl_v (r_mv (v := .int .i64 ((dec l ((q : Nat) : Int) ((bt l : Nat) : Int)).2.2)) rfl) ?_
          refine Wl_call (r_call1 rfl Try.call15 rfl) (num15 _ ) ?_
          rintro v w42 ⟨rfl, hU42⟩
          have hzw42 := hU42.size
          replace hs := hs.upd0 hU42
          replace HU := HU.trans0 hU42
          replace hT3 := hT3.upd0 hU42
          replace hE3 := hE3.upd0 hU42
          replace hL3 := hL3.upd0 hU42
          replace hO4 := hO4.upd0 hU42
          replace hO8 := hO8.upd0 hU42
          refine Wl_v (r_ne rfl rfl) ?_
          refine Wl_nil ?_
          have q21 : ¬ (((dec l ((q : Nat) : Int) ((bt l : Nat) : Int)).2.2) ≠ 0) := (by have := hdt.1; omega)
          rw [decide_eq_false q21]
          refine W_cond_f rfl ?_
          refine W_skip ?_
          refine W_seq ?_
          refine W_region ?_
          refine Wl_v (r_mv (v := .pointer (some ⟨tb3, 0, none⟩)) rfl) ?_
          refine Wl_v (r_mv (v := .int .u64 ((q : Nat) : Int)) rfl) ?_
          refine Wl_v (r_cvt Try.underlying45 Try.underlying3 rfl (wi64 (by omega) (by omega))) ?_
          refine Wl_call (r_call2 rfl Try.call24 rfl rfl) (two_nat _ hT3 hE3.sl.any q2 (by omega)) ?_
          rintro v w43 ⟨rfl, hU43⟩
          have hzw43 := hU43.size
          replace hs := hs.upd0 hU43
          replace HU := HU.trans0 hU43
          replace hT3 := hT3.upd0 hU43
          replace hE3 := hE3.upd0 hU43
          replace hL3 := hL3.upd0 hU43
          replace hO4 := hO4.upd0 hU43
          replace hO8 := hO8.upd0 hU43
          refine Wl_v (r_mv (v := .tuple #[.agg #[.int .i64 ((two l q).1), .int .i64 ((two l q).2.1), .int .i64 ((two l q).2.2.1), .int .i64 ((two l q).2.2.2)], .bool true]) rfl) ?_
          refine Wl_v (r_ext (v := .agg #[.int .i64 ((two l q).1), .int .i64 ((two l q).2.1), .int .i64 ((two l q).2.2.1), .int .i64 ((two l q).2.2.2)]) rfl rfl) ?_
          refine Wl_v (r_ext (v := .bool true) rfl rfl) ?_
          refine Wl_alloc (cs := [.int .i64 0, .int .i64 0, .int .i64 0, .int .i64 0]) Try.zeroValue52 rfl ?_
          intro B44 w44 hB44 hU44 hzz44 hb44
          have hzw44 := hU44.size
          replace hs := hs.upd0 hU44
          replace HU := HU.trans0 hU44
          replace hT3 := hT3.upd0 hU44
          replace hE3 := hE3.upd0 hU44
          replace hL3 := hL3.upd0 hU44
          replace hO4 := hO4.upd0 hU44
          replace hO8 := hO8.upd0 hU44
          refine Wl_storea (off := 0) (vs := [.int .i64 ((two l q).1), .int .i64 ((two l q).2.1), .int .i64 ((two l q).2.2.1), .int .i64 ((two l q).2.2.2)]) (cs' := [.int .i64 ((two l q).1), .int .i64 ((two l q).2.1), .int .i64 ((two l q).2.2.1), .int .i64 ((two l q).2.2.2)]) Try.sizeOf52 rfl rfl rfl (by simp only [List.mem_cons, List.not_mem_nil, or_false, forall_eq_or_imp, forall_eq]; exact ⟨rfl, rfl, rfl, rfl⟩) hb44 (by simp) rfl ?_
          intro w45 hU45 hzz45 hb44n
          replace hb44 := hb44n; clear hb44n
          have hzw45 := hU45.size
          replace hs := hs.upd1 hU45 (by intro h1; have h3 : B44 < w.heap.size := h1; omega)
          replace HU := HU.trans1 hU45 (by show (False) ∨ w.heap.size ≤ B44; omega)
          replace hT3 := hT3.upd1 hU45 (by omega)
          replace hE3 := hE3.upd1 hU45 (by intro h1; have h3 : ((w2.heap.size ≤ B44 ∧ B44 ≠ tb3) ∧ B44 < w3.heap.size) := h1; omega)
          replace hL3 := hL3.upd1 hU45 (by intro h1; have h3 : ((w2.heap.size ≤ B44 ∧ B44 ≠ tb3) ∧ B44 < w3.heap.size) := h1; omega)
          replace hO4 := hO4.upd1 hU45 (by intro h1; have h3 : ((w3.heap.size ≤ B44) ∧ B44 < w4.heap.size) := h1; omega)
          replace hO8 := hO8.upd1 hU45 (by intro h1; have h3 : B44 = B8 := h1; omega)
          refine Wl_v (r_as (v := .bool true) rfl) ?_
          refine Wl_nil ?_
          refine W_seq ?_
          refine W_region ?_
          refine Wl_v (r_mv (v := .pointer (some ⟨tb3, 0, none⟩)) rfl) ?_
          refine Wl_v (r_mv (v := .int .u64 ((q : Nat) : Int)) rfl) ?_
          refine Wl_v (r_mv (v := .int .i64 ((bt l : Nat) : Int)) rfl) ?_
          refine Wl_v (r_mv (v := .int .i64 ((dec l ((q : Nat) : Int) ((bt l : Nat) : Int)).2.1)) rfl) ?_
          refine Wl_v (r_sub rfl rfl (wi64 (by omega) (by omega))) ?_
          refine Wl_v (r_shl rfl rfl (by omega) (shlU (by omega) (by omega))) ?_
          have hp2b := p2n_le (d := ((bt l : Nat) : Int) - (dec l ((q : Nat) : Int) ((bt l : Nat) : Int)).2.1) (by omega)
          have hlow := Int.emod_nonneg ((q : Nat) : Int) (b := ((2 ^ (((bt l : Nat) : Int) - (dec l ((q : Nat) : Int) ((bt l : Nat) : Int)).2.1).toNat : Nat) : Int)) (by omega)
          have hlow2 := Int.emod_lt_of_pos ((q : Nat) : Int) (b := ((2 ^ (((bt l : Nat) : Int) - (dec l ((q : Nat) : Int) ((bt l : Nat) : Int)).2.1).toNat : Nat) : Int)) (by omega)
          refine Wl_v (r_rem rfl rfl (by omega) (tr (by omega))) ?_
          refine Wl_v (r_mv (v := .int .i64 ((bt l : Nat) : Int)) rfl) ?_
          refine Wl_v (r_mv (v := .int .i64 ((dec l ((q : Nat) : Int) ((bt l : Nat) : Int)).2.1)) rfl) ?_
          refine Wl_v (r_sub rfl rfl (wi64 (by omega) (by omega))) ?_
          refine Wl_call (r_call3 rfl Try.call22 rfl rfl rfl) (tdec _ hT3 hE3.sl.any q2 (by omega) (by omega)) ?_
          rintro v w46 ⟨rfl, hU46⟩
          have hzw46 := hU46.size
          replace hs := hs.upd0 hU46
          replace HU := HU.trans0 hU46
          replace hT3 := hT3.upd0 hU46
          replace hE3 := hE3.upd0 hU46
          replace hL3 := hL3.upd0 hU46
          replace hO4 := hO4.upd0 hU46
          replace hO8 := hO8.upd0 hU46
          replace hb44 := hb44.upd0 hU46
          have hdr2 := dec_rng q2 (bits := ((q : Nat) : Int) % ((2 ^ (((bt l : Nat) : Int) - ((dec l ((q : Nat) : Int) ((bt l : Nat) : Int)).2.1)).toNat : Nat) : Int)) (m := ((bt l : Nat) : Int) - ((dec l ((q : Nat) : Int) ((bt l : Nat) : Int)).2.1)) (by omega) (by omega)
          have htd0 := two_dec q2 hql (u := (dec l ((q : Nat) : Int) ((bt l : Nat) : Int)).2.1) rfl (D := dec l (((q : Nat) : Int) % ((2 ^ (((bt l : Nat) : Int) - (dec l ((q : Nat) : Int) ((bt l : Nat) : Int)).2.1).toNat : Nat) : Int)) (((bt l : Nat) : Int) - (dec l ((q : Nat) : Int) ((bt l : Nat) : Int)).2.1)) rfl
          refine Wl_v (r_mv (v := .tuple #[.int .i64 ((dec l (((q : Nat) : Int) % ((2 ^ (((bt l : Nat) : Int) - ((dec l ((q : Nat) : Int) ((bt l : Nat) : Int)).2.1)).toNat : Nat) : Int)) (((bt l : Nat) : Int) - ((dec l ((q : Nat) : Int) ((bt l : Nat) : Int)).2.1))).1), .int .i64 ((dec l (((q : Nat) : Int) % ((2 ^ (((bt l : Nat) : Int) - ((dec l ((q : Nat) : Int) ((bt l : Nat) : Int)).2.1)).toNat : Nat) : Int)) (((bt l : Nat) : Int) - ((dec l ((q : Nat) : Int) ((bt l : Nat) : Int)).2.1))).2.1), .int .i64 ((dec l (((q : Nat) : Int) % ((2 ^ (((bt l : Nat) : Int) - ((dec l ((q : Nat) : Int) ((bt l : Nat) : Int)).2.1)).toNat : Nat) : Int)) (((bt l : Nat) : Int) - ((dec l ((q : Nat) : Int) ((bt l : Nat) : Int)).2.1))).2.2)]) rfl) ?_
          refine Wl_v (r_ext (v := .int .i64 ((dec l (((q : Nat) : Int) % ((2 ^ (((bt l : Nat) : Int) - ((dec l ((q : Nat) : Int) ((bt l : Nat) : Int)).2.1)).toNat : Nat) : Int)) (((bt l : Nat) : Int) - ((dec l ((q : Nat) : Int) ((bt l : Nat) : Int)).2.1))).1)) rfl rfl) ?_
          refine Wl_v (r_ext (v := .int .i64 ((dec l (((q : Nat) : Int) % ((2 ^ (((bt l : Nat) : Int) - ((dec l ((q : Nat) : Int) ((bt l : Nat) : Int)).2.1)).toNat : Nat) : Int)) (((bt l : Nat) : Int) - ((dec l ((q : Nat) : Int) ((bt l : Nat) : Int)).2.1))).2.1)) rfl rfl) ?_
          refine Wl_v (r_ext (v := .int .i64 ((dec l (((q : Nat) : Int) % ((2 ^ (((bt l : Nat) : Int) - ((dec l ((q : Nat) : Int) ((bt l : Nat) : Int)).2.1)).toNat : Nat) : Int)) (((bt l : Nat) : Int) - ((dec l ((q : Nat) : Int) ((bt l : Nat) : Int)).2.1))).2.2)) rfl rfl) ?_
          refine Wl_v (r_as (v := .int .i64 ((dec l (((q : Nat) : Int) % ((2 ^ (((bt l : Nat) : Int) - ((dec l ((q : Nat) : Int) ((bt l : Nat) : Int)).2.1)).toNat : Nat) : Int)) (((bt l : Nat) : Int) - ((dec l ((q : Nat) : Int) ((bt l : Nat) : Int)).2.1))).1)) rfl) ?_
          refine Wl_v (r_as (v := .int .i64 ((dec l (((q : Nat) : Int) % ((2 ^ (((bt l : Nat) : Int) - ((dec l ((q : Nat) : Int) ((bt l : Nat) : Int)).2.1)).toNat : Nat) : Int)) (((bt l : Nat) : Int) - ((dec l ((q : Nat) : Int) ((bt l : Nat) : Int)).2.1))).2.1)) rfl) ?_
          refine Wl_v (r_as (v := .int .i64 ((dec l (((q : Nat) : Int) % ((2 ^ (((bt l : Nat) : Int) - ((dec l ((q : Nat) : Int) ((bt l : Nat) : Int)).2.1)).toNat : Nat) : Int)) (((bt l : Nat) : Int) - ((dec l ((q : Nat) : Int) ((bt l : Nat) : Int)).2.1))).2.2)) rfl) ?_
          refine Wl_nil ?_
          refine W_seq ?_
          refine W_seq ?_
          refine W_region ?_
          refine Wl_v (r_mv (v := .int .i64 ((dec l (((q : Nat) : Int) % ((2 ^ (((bt l : Nat) : Int) - ((dec l ((q : Nat) : Int) ((bt l : Nat) : Int)).2.1)).toNat : Nat) : Int)) (((bt l : Nat) : Int) - ((dec l ((q : Nat) : Int) ((bt l : Nat) : Int)).2.1))).2.2)) rfl) ?_
          refine Wl_call (r_call1 rfl Try.call15 rfl) (num15 _ ) ?_
          rintro v w47 ⟨rfl, hU47⟩
          have hzw47 := hU47.size
          replace hs := hs.upd0 hU47
          replace HU := HU.trans0 hU47
          replace hT3 := hT3.upd0 hU47
          replace hE3 := hE3.upd0 hU47
          replace hL3 := hL3.upd0 hU47
          replace hO4 := hO4.upd0 hU47
          replace hO8 := hO8.upd0 hU47
          replace hb44 := hb44.upd0 hU47
          refine Wl_v (r_ne rfl rfl) ?_
          refine Wl_nil ?_
          by_cases q22 : ((dec l (((q : Nat) : Int) % ((2 ^ (((bt l : Nat) : Int) - ((dec l ((q : Nat) : Int) ((bt l : Nat) : Int)).2.1)).toNat : Nat) : Int)) (((bt l : Nat) : Int) - ((dec l ((q : Nat) : Int) ((bt l : Nat) : Int)).2.1))).2.2) ≠ 0
          · rw [if_pos q22] at htd0
            have htd := htd0
            rw [decide_eq_true q22]
            refine W_cond_t rfl ?_
            refine W_seq ?_
            refine W_region ?_
            refine Wl_v (r_mv (v := .bool true) rfl) ?_
            refine Wl_v (r_mv (v := .bool true) rfl) ?_
            refine Wl_guard_t rfl ?_
            refine Wl_v (r_loada (b := B44) (off := 0) (cs := [.int .i64 ((two l q).1), .int .i64 ((two l q).2.1), .int .i64 ((two l q).2.2.1), .int .i64 ((two l q).2.2.2)]) Try.isAgg52 Try.sizeOf52 rfl rfl (fun j hj => by rw [hb44.cell]; match j, hj with | 0, _ => rfl | 1, _ => rfl | 2, _ => rfl | 3, _ => rfl)) ?_
            refine Wl_guard_t rfl ?_
            refine Wl_v (r_mv (v := .int .i64 ((dec l ((q : Nat) : Int) ((bt l : Nat) : Int)).1)) rfl) ?_
            refine Wl_guard_t rfl ?_
            refine Wl_v (r_mv (v := .int .i64 ((dec l ((q : Nat) : Int) ((bt l : Nat) : Int)).2.1)) rfl) ?_
            refine Wl_guard_t rfl ?_
            refine Wl_v (r_build (pl := #[(0, 1), (1, 1), (2, 1), (3, 1)]) (pv := [(0, .int .i64 1), (1, .int .i64 ((dec l ((q : Nat) : Int) ((bt l : Nat) : Int)).1)), (3, .int .i64 ((dec l ((q : Nat) : Int) ((bt l : Nat) : Int)).2.1))]) (cs := #[.int .i64 1, .int .i64 ((dec l ((q : Nat) : Int) ((bt l : Nat) : Int)).1), .int .i64 0, .int .i64 ((dec l ((q : Nat) : Int) ((bt l : Nat) : Int)).2.1)]) Try.zeroValue52 Try.underlying52 (fun w => by kernel_rfl) (by simp only [List.map_toArray, List.map_cons, List.map_nil] <;> rfl) (by kernel_rfl)) ?_
            refine Wl_guard_t rfl ?_
            refine Wl_v (r_eqag (pp := ((two l q).1) = 1 ∧ ((two l q).2.1) = ((dec l ((q : Nat) : Int) ((bt l : Nat) : Int)).1) ∧ ((two l q).2.2.1) = 0 ∧ ((two l q).2.2.2) = ((dec l ((q : Nat) : Int) ((bt l : Nat) : Int)).2.1)) Try.underlying52 (by kernel_rfl) (by kernel_rfl) rfl rfl (fun w => eqf_int (by decide) Try.underlying3 Try.isAgg3 rfl rfl (fun w => eqf_int (by decide) Try.underlying3 Try.isAgg3 rfl rfl (fun w => eqf_int (by decide) Try.underlying3 Try.isAgg3 rfl rfl (fun w => eqf_int (by decide) Try.underlying3 Try.isAgg3 rfl rfl (fun w => eqf_nil))))) (by simp [Bool.decide_and])) ?_
            refine Wl_v (r_pick_t (v := .bool (decide (((two l q).1) = 1 ∧ ((two l q).2.1) = ((dec l ((q : Nat) : Int) ((bt l : Nat) : Int)).1) ∧ ((two l q).2.2.1) = 0 ∧ ((two l q).2.2.2) = ((dec l ((q : Nat) : Int) ((bt l : Nat) : Int)).2.1)))) rfl rfl) ?_
            refine Wl_v (r_mv (v := .bool (decide (((two l q).1) = 1 ∧ ((two l q).2.1) = ((dec l ((q : Nat) : Int) ((bt l : Nat) : Int)).1) ∧ ((two l q).2.2.1) = 0 ∧ ((two l q).2.2.2) = ((dec l ((q : Nat) : Int) ((bt l : Nat) : Int)).2.1)))) rfl) ?_
            have q23 : ((two l q).1) = 1 ∧ ((two l q).2.1) = ((dec l ((q : Nat) : Int) ((bt l : Nat) : Int)).1) ∧ ((two l q).2.2.1) = 0 ∧ ((two l q).2.2.2) = ((dec l ((q : Nat) : Int) ((bt l : Nat) : Int)).2.1) := ⟨by rw [htd], by rw [htd], by rw [htd], by rw [htd]⟩
            rw [decide_eq_true q23]
            refine Wl_guard_t rfl ?_
            refine Wl_call (r_call0 rfl Try.call11 ) (works15 _ ) ?_
            rintro v w48 ⟨rfl, hU48⟩
            have hzw48 := hU48.size
            replace hs := hs.upd0 hU48
            replace HU := HU.trans0 hU48
            replace hT3 := hT3.upd0 hU48
            replace hE3 := hE3.upd0 hU48
            replace hL3 := hL3.upd0 hU48
            replace hO4 := hO4.upd0 hU48
            replace hO8 := hO8.upd0 hU48
            replace hb44 := hb44.upd0 hU48
            refine Wl_v (r_pick_t (v := .bool true) rfl rfl) ?_
            refine Wl_v (r_as (v := .bool true) rfl) ?_
            refine Wl_nil ?_
            refine W_ret ?_
            refine ret_end (v := .bool true) rfl (res1 Try.results8 rfl) ?_
            exact ⟨_, rfl, rfl, HU⟩
          · rw [if_neg q22] at htd0
            have htd := htd0
            rw [decide_eq_false q22]
            refine W_cond_f rfl ?_
            refine W_skip ?_
            refine W_seq ?_
            refine W_region ?_
            refine Wl_v (r_mv (v := .bool true) rfl) ?_
            refine Wl_v (r_mv (v := .bool true) rfl) ?_
            refine Wl_guard_t rfl ?_
            refine Wl_v (r_loada (b := B44) (off := 0) (cs := [.int .i64 ((two l q).1), .int .i64 ((two l q).2.1), .int .i64 ((two l q).2.2.1), .int .i64 ((two l q).2.2.2)]) Try.isAgg52 Try.sizeOf52 rfl rfl (fun j hj => by rw [hb44.cell]; match j, hj with | 0, _ => rfl | 1, _ => rfl | 2, _ => rfl | 3, _ => rfl)) ?_
            refine Wl_guard_t rfl ?_
            refine Wl_v (r_mv (v := .int .i64 ((dec l ((q : Nat) : Int) ((bt l : Nat) : Int)).1)) rfl) ?_
            refine Wl_guard_t rfl ?_
            refine Wl_v (r_mv (v := .int .i64 ((dec l (((q : Nat) : Int) % ((2 ^ (((bt l : Nat) : Int) - ((dec l ((q : Nat) : Int) ((bt l : Nat) : Int)).2.1)).toNat : Nat) : Int)) (((bt l : Nat) : Int) - ((dec l ((q : Nat) : Int) ((bt l : Nat) : Int)).2.1))).1)) rfl) ?_
            refine Wl_guard_t rfl ?_
            refine Wl_v (r_mv (v := .int .i64 ((dec l ((q : Nat) : Int) ((bt l : Nat) : Int)).2.1)) rfl) ?_
            refine Wl_guard_t rfl ?_
            refine Wl_v (r_mv (v := .int .i64 ((dec l (((q : Nat) : Int) % ((2 ^ (((bt l : Nat) : Int) - ((dec l ((q : Nat) : Int) ((bt l : Nat) : Int)).2.1)).toNat : Nat) : Int)) (((bt l : Nat) : Int) - ((dec l ((q : Nat) : Int) ((bt l : Nat) : Int)).2.1))).2.1)) rfl) ?_
            refine Wl_guard_t rfl ?_
            refine Wl_v (r_add rfl rfl (wi64 (by omega) (by omega))) ?_
            refine Wl_guard_t rfl ?_
            refine Wl_v (r_build (pl := #[(0, 1), (1, 1), (2, 1), (3, 1)]) (pv := [(0, .int .i64 2), (1, .int .i64 ((dec l ((q : Nat) : Int) ((bt l : Nat) : Int)).1)), (2, .int .i64 ((dec l (((q : Nat) : Int) % ((2 ^ (((bt l : Nat) : Int) - ((dec l ((q : Nat) : Int) ((bt l : Nat) : Int)).2.1)).toNat : Nat) : Int)) (((bt l : Nat) : Int) - ((dec l ((q : Nat) : Int) ((bt l : Nat) : Int)).2.1))).1)), (3, .int .i64 (((dec l ((q : Nat) : Int) ((bt l : Nat) : Int)).2.1) + ((dec l (((q : Nat) : Int) % ((2 ^ (((bt l : Nat) : Int) - ((dec l ((q : Nat) : Int) ((bt l : Nat) : Int)).2.1)).toNat : Nat) : Int)) (((bt l : Nat) : Int) - ((dec l ((q : Nat) : Int) ((bt l : Nat) : Int)).2.1))).2.1)))]) (cs := #[.int .i64 2, .int .i64 ((dec l ((q : Nat) : Int) ((bt l : Nat) : Int)).1), .int .i64 ((dec l (((q : Nat) : Int) % ((2 ^ (((bt l : Nat) : Int) - ((dec l ((q : Nat) : Int) ((bt l : Nat) : Int)).2.1)).toNat : Nat) : Int)) (((bt l : Nat) : Int) - ((dec l ((q : Nat) : Int) ((bt l : Nat) : Int)).2.1))).1), .int .i64 (((dec l ((q : Nat) : Int) ((bt l : Nat) : Int)).2.1) + ((dec l (((q : Nat) : Int) % ((2 ^ (((bt l : Nat) : Int) - ((dec l ((q : Nat) : Int) ((bt l : Nat) : Int)).2.1)).toNat : Nat) : Int)) (((bt l : Nat) : Int) - ((dec l ((q : Nat) : Int) ((bt l : Nat) : Int)).2.1))).2.1))]) Try.zeroValue52 Try.underlying52 (fun w => by kernel_rfl) (by simp only [List.map_toArray, List.map_cons, List.map_nil] <;> rfl) (by kernel_rfl)) ?_
            refine Wl_guard_t rfl ?_
            refine Wl_v (r_eqag (pp := ((two l q).1) = 2 ∧ ((two l q).2.1) = ((dec l ((q : Nat) : Int) ((bt l : Nat) : Int)).1) ∧ ((two l q).2.2.1) = ((dec l (((q : Nat) : Int) % ((2 ^ (((bt l : Nat) : Int) - ((dec l ((q : Nat) : Int) ((bt l : Nat) : Int)).2.1)).toNat : Nat) : Int)) (((bt l : Nat) : Int) - ((dec l ((q : Nat) : Int) ((bt l : Nat) : Int)).2.1))).1) ∧ ((two l q).2.2.2) = (((dec l ((q : Nat) : Int) ((bt l : Nat) : Int)).2.1) + ((dec l (((q : Nat) : Int) % ((2 ^ (((bt l : Nat) : Int) - ((dec l ((q : Nat) : Int) ((bt l : Nat) : Int)).2.1)).toNat : Nat) : Int)) (((bt l : Nat) : Int) - ((dec l ((q : Nat) : Int) ((bt l : Nat) : Int)).2.1))).2.1))) Try.underlying52 (by kernel_rfl) (by kernel_rfl) rfl rfl (fun w => eqf_int (by decide) Try.underlying3 Try.isAgg3 rfl rfl (fun w => eqf_int (by decide) Try.underlying3 Try.isAgg3 rfl rfl (fun w => eqf_int (by decide) Try.underlying3 Try.isAgg3 rfl rfl (fun w => eqf_int (by decide) Try.underlying3 Try.isAgg3 rfl rfl (fun w => eqf_nil))))) (by simp [Bool.decide_and])) ?_
            refine Wl_v (r_pick_t (v := .bool (decide (((two l q).1) = 2 ∧ ((two l q).2.1) = ((dec l ((q : Nat) : Int) ((bt l : Nat) : Int)).1) ∧ ((two l q).2.2.1) = ((dec l (((q : Nat) : Int) % ((2 ^ (((bt l : Nat) : Int) - ((dec l ((q : Nat) : Int) ((bt l : Nat) : Int)).2.1)).toNat : Nat) : Int)) (((bt l : Nat) : Int) - ((dec l ((q : Nat) : Int) ((bt l : Nat) : Int)).2.1))).1) ∧ ((two l q).2.2.2) = (((dec l ((q : Nat) : Int) ((bt l : Nat) : Int)).2.1) + ((dec l (((q : Nat) : Int) % ((2 ^ (((bt l : Nat) : Int) - ((dec l ((q : Nat) : Int) ((bt l : Nat) : Int)).2.1)).toNat : Nat) : Int)) (((bt l : Nat) : Int) - ((dec l ((q : Nat) : Int) ((bt l : Nat) : Int)).2.1))).2.1))))) rfl rfl) ?_
            refine Wl_v (r_mv (v := .bool (decide (((two l q).1) = 2 ∧ ((two l q).2.1) = ((dec l ((q : Nat) : Int) ((bt l : Nat) : Int)).1) ∧ ((two l q).2.2.1) = ((dec l (((q : Nat) : Int) % ((2 ^ (((bt l : Nat) : Int) - ((dec l ((q : Nat) : Int) ((bt l : Nat) : Int)).2.1)).toNat : Nat) : Int)) (((bt l : Nat) : Int) - ((dec l ((q : Nat) : Int) ((bt l : Nat) : Int)).2.1))).1) ∧ ((two l q).2.2.2) = (((dec l ((q : Nat) : Int) ((bt l : Nat) : Int)).2.1) + ((dec l (((q : Nat) : Int) % ((2 ^ (((bt l : Nat) : Int) - ((dec l ((q : Nat) : Int) ((bt l : Nat) : Int)).2.1)).toNat : Nat) : Int)) (((bt l : Nat) : Int) - ((dec l ((q : Nat) : Int) ((bt l : Nat) : Int)).2.1))).2.1))))) rfl) ?_
            have q24 : ((two l q).1) = 2 ∧ ((two l q).2.1) = ((dec l ((q : Nat) : Int) ((bt l : Nat) : Int)).1) ∧ ((two l q).2.2.1) = ((dec l (((q : Nat) : Int) % ((2 ^ (((bt l : Nat) : Int) - ((dec l ((q : Nat) : Int) ((bt l : Nat) : Int)).2.1)).toNat : Nat) : Int)) (((bt l : Nat) : Int) - ((dec l ((q : Nat) : Int) ((bt l : Nat) : Int)).2.1))).1) ∧ ((two l q).2.2.2) = (((dec l ((q : Nat) : Int) ((bt l : Nat) : Int)).2.1) + ((dec l (((q : Nat) : Int) % ((2 ^ (((bt l : Nat) : Int) - ((dec l ((q : Nat) : Int) ((bt l : Nat) : Int)).2.1)).toNat : Nat) : Int)) (((bt l : Nat) : Int) - ((dec l ((q : Nat) : Int) ((bt l : Nat) : Int)).2.1))).2.1)) := ⟨by rw [htd], by rw [htd], by rw [htd], by rw [htd]⟩
            rw [decide_eq_true q24]
            refine Wl_guard_t rfl ?_
            refine Wl_call (r_call0 rfl Try.call11 ) (works15 _ ) ?_
            rintro v w49 ⟨rfl, hU49⟩
            have hzw49 := hU49.size
            replace hs := hs.upd0 hU49
            replace HU := HU.trans0 hU49
            replace hT3 := hT3.upd0 hU49
            replace hE3 := hE3.upd0 hU49
            replace hL3 := hL3.upd0 hU49
            replace hO4 := hO4.upd0 hU49
            replace hO8 := hO8.upd0 hU49
            replace hb44 := hb44.upd0 hU49
            refine Wl_v (r_pick_t (v := .bool true) rfl rfl) ?_
            refine Wl_v (r_as (v := .bool true) rfl) ?_
            refine Wl_nil ?_
            refine W_ret ?_
            refine ret_end (v := .bool true) rfl (res1 Try.results8 rfl) ?_
            exact ⟨_, rfl, rfl, HU⟩
    · rw [decide_eq_false q2]
      simp only [Bool.not_true, Bool.not_false]
      refine W_cond_t rfl ?_
      refine W_seq ?_
      refine W_region ?_
      refine Wl_call (r_call0 rfl Try.call11 ) (works15 _ ) ?_
      rintro v w50 ⟨rfl, hU50⟩
      have hzw50 := hU50.size
      replace hs := hs.upd0 hU50
      replace HU := HU.trans0 hU50
      refine Wl_v (r_as (v := .bool true) rfl) ?_
      refine Wl_nil ?_
      refine W_ret ?_
      refine ret_end (v := .bool true) rfl (res1 Try.results8 rfl) ?_
      exact ⟨_, rfl, rfl, HU⟩

end Go.Proofs.Ytkgjdcjpnfjofaa
