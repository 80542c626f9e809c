/-
  Walks, printed by a small program of this project (gen.py).
-/
import Derived.Test.YtigojafhogjnfaaWk
set_option linter.unusedVariables false
namespace Go.Proofs.Ytigojafhogjnfaa
open Go.Fw

set_option maxHeartbeats 2000000 in
set_option maxRecDepth 100000 in
theorem numpeeks {a : Option Addr} {n c : Nat} {bs : List Int} {sk nn : Int} (w : World) (hb : Sl w (fun g => g < w.heap.size) 1 (.slice a n c) n (ints .u8 bs)) (bb : Byt bs) (nb : n ≤ 140737488351232) (rsk : -9223372036854775808 ≤ sk ∧ sk ≤ 9223372036854775807) (rnn : -9223372036854775808 ≤ nn ∧ nn ≤ 9223372036854775807) :
    Calls Try.prog 8 #[.slice a n c, .int .i64 sk, .int .i64 nn] w (Ret fun v w' => v = .bool true ∧ Upd No w w') := by
  have HU : Upd (fun b => False) w w := Upd.refl _ _
  have hl_hb := ilen hb
  have hc_hb := hb.cap.1
  refine calls_of_W Try.func8 rfl Try.ntmps8 (by simp) ?_
  refine W_seq ?_
  refine W_region ?_
  refine Wl_v (r_as (v := .bool false) rfl) ?_
  refine Wl_nil ?_
  refine W_seq ?_
  refine W_region ?_
  refine Wl_v (r_mv (v := .slice a n c) rfl) ?_
  refine Wl_call (r_call1 rfl Try.call15 rfl) (own_spec _ hb.any (by omega)) ?_
  rintro v w1 ⟨a1, c1, rfl, hO1, hU1⟩
  have hzw1 := hU1.size
  replace hb := hb.upd0 hU1
  replace HU := HU.trans0 hU1
  replace hO1 := hO1.tight
  have hl_hO1 := ilen hO1.sl
  have hc_hO1 := hO1.sl.cap.1
  refine Wl_call (r_call1 rfl Try.call21 rfl) (new_spec _ hO1.sl.any (by omega)) ?_
  rintro v w2 ⟨pb2, a2, c2, rfl, hp2, hO2, hpg_2, hU2⟩
  have hzw2 := hU2.size
  replace hb := hb.upd0 hU2
  replace HU := HU.trans0 hU2
  replace hO1 := hO1.upd0 hU2
  have hbl_hp2 := hp2.lt
  replace hO2 := hO2.tight
  have hl_hO2 := ilen hO2.sl
  have hc_hO2 := hO2.sl.cap.1
  refine Wl_v (r_as (v := .pointer (some ⟨pb2, 0, none⟩)) rfl) ?_
  refine Wl_nil ?_
  refine W_seq ?_
  refine W_region ?_
  refine Wl_v (r_as (v := .int .i64 0) rfl) ?_
  refine Wl_nil ?_
  refine W_seq ?_
  refine W_seq ?_
  refine W_region ?_
  refine Wl_v (r_mv (v := .int .i64 sk) rfl) ?_
  refine Wl_v (r_gt rfl rfl) ?_
  refine Wl_v (r_mv (v := .bool (decide (0 < sk))) rfl) ?_
  by_cases q1 : 0 < sk
  · rw [decide_eq_true q1]
    refine Wl_guard_t rfl ?_
    refine Wl_v (r_mv (v := .int .i64 sk) rfl) ?_
    refine Wl_guard_t rfl ?_
    refine Wl_v (r_mv (v := .slice a n c) rfl) ?_
    refine Wl_guard_t rfl ?_
    refine Wl_v (r_len Try.underlying22 rfl) ?_
    refine Wl_guard_t rfl ?_
    refine Wl_v (r_le rfl rfl) ?_
    refine Wl_v (r_pick_t (v := .bool (decide (sk ≤ ((n : Nat) : Int)))) rfl rfl) ?_
    refine Wl_nil ?_
    by_cases q2 : sk ≤ ((n : Nat) : Int)
    · rw [decide_eq_true q2]
      refine W_cond_t rfl ?_
      refine W_seq ?_
      refine W_region ?_
      refine Wl_v (r_mv (v := .pointer (some ⟨pb2, 0, none⟩)) rfl) ?_
      refine Wl_v (r_mv (v := .int .i64 sk) rfl) ?_
      refine Wl_call (r_call2 rfl Try.call26 rfl rfl) (cbytes_ok (p := 0) _ hp2 (hO2.sl.cur (by intro h1; have h3 : ((w1.heap.size ≤ pb2 ∧ pb2 ≠ pb2) ∧ pb2 < w2.heap.size) := h1; first | omega | simp at h3)) bb (by omega) (by omega) (by omega) (by omega)) ?_
      rintro v w3 ⟨a3, c3, rfl, hp3, hO3, hU3⟩
      have hzw3 := hU3.size
      replace hb := hb.upd1 hU3 (by intro h1; have h3 : pb2 < w.heap.size := h1; omega)
      replace HU := HU.trans1 hU3 (by show (False) ∨ w.heap.size ≤ pb2; omega)
      replace hO1 := hO1.upd1 hU3 (by intro h1; have h3 : ((w.heap.size ≤ pb2) ∧ pb2 < w1.heap.size) := h1; omega)
      replace hO2 := hO2.upd1 hU3 (by intro h1; have h3 : ((w1.heap.size ≤ pb2 ∧ pb2 ≠ pb2) ∧ pb2 < w2.heap.size) := h1; omega)
      have hbl_hp3 := hp3.lt
      replace hO3 := hO3.tight
      have hl_hO3 := ilen hO3.sl
      have hc_hO3 := hO3.sl.cap.1
      refine Wl_nil ?_
      refine W_region ?_
      refine Wl_v (r_mv (v := .int .i64 sk) rfl) ?_
      refine Wl_v (r_as (v := .int .i64 sk) rfl) ?_
      refine Wl_nil ?_
      refine W_seq ?_
      refine W_region ?_
      refine Wl_v (r_mv (v := .pointer (some ⟨pb2, 0, none⟩)) rfl) ?_
      refine Wl_v (r_mv (v := .int .i64 nn) rfl) ?_
      refine Wl_call (r_call2 rfl Try.call27 rfl rfl) (peek_spec (t := (min (max nn 0) (((n : Nat) : Int) - ((0 + sk.toNat : Nat) : Int))).toNat) _ hp3 (hO2.sl.cur (by intro h1; have h3 : ((w1.heap.size ≤ pb2 ∧ pb2 ≠ pb2) ∧ pb2 < w2.heap.size) := h1; first | omega | simp at h3)) bb (by omega) (by omega) (by omega)) ?_
      rintro v w4 ⟨a4, c4, rfl, hO4, hU4⟩
      have hzw4 := hU4.size
      replace hb := hb.upd0 hU4
      replace HU := HU.trans0 hU4
      replace hO1 := hO1.upd0 hU4
      replace hO2 := hO2.upd0 hU4
      replace hp3 := hp3.upd0 hU4
      replace hO3 := hO3.upd0 hU4
      replace hO4 := hO4.tight
      have hl_hO4 := ilen hO4.sl
      have hc_hO4 := hO4.sl.cap.1
      refine Wl_v (r_as (v := .slice a4 ((min (max nn 0) (((n : Nat) : Int) - ((0 + sk.toNat : Nat) : Int))).toNat) c4) rfl) ?_
      refine Wl_nil ?_
      refine W_seq ?_
      refine W_region ?_
      refine Wl_v (r_mv (v := .int .i64 nn) rfl) ?_
      refine Wl_v (r_max rfl rfl) ?_
      refine Wl_v (r_as (v := .int .i64 (max nn 0)) rfl) ?_
      refine Wl_nil ?_
      refine W_seq ?_
      refine W_seq ?_
      refine W_region ?_
      refine Wl_v (r_mv (v := .int .i64 (max nn 0)) rfl) ?_
      refine Wl_v (r_mv (v := .slice a n c) rfl) ?_
      refine Wl_v (r_len Try.underlying22 rfl) ?_
      refine Wl_v (r_mv (v := .int .i64 sk) rfl) ?_
      refine Wl_v (r_sub rfl rfl (wi64 (by omega) (by omega))) ?_
      refine Wl_v (r_gt rfl rfl) ?_
      refine Wl_nil ?_
      by_cases q3 : (((n : Nat) : Int) - sk) < (max nn 0)
      · rw [decide_eq_true q3]
        refine W_cond_t rfl ?_
        refine W_region ?_
        refine Wl_v (r_mv (v := .slice a n c) rfl) ?_
        refine Wl_v (r_len Try.underlying22 rfl) ?_
        refine Wl_v (r_mv (v := .int .i64 sk) rfl) ?_
        refine Wl_v (r_sub rfl rfl (wi64 (by omega) (by omega))) ?_
        refine Wl_v (r_as (v := .int .i64 (((n : Nat) : Int) - sk)) rfl) ?_
        refine Wl_nil ?_
        refine W_seq ?_
        refine W_seq ?_
        refine W_region ?_
        refine Wl_v (r_mv (v := .slice a4 ((min (max nn 0) (((n : Nat) : Int) - ((0 + sk.toNat : Nat) : Int))).toNat) c4) rfl) ?_
        refine Wl_v (r_mv (v := .slice a n c) rfl) ?_
        refine Wl_v (r_mv (v := .int .i64 sk) rfl) ?_
        refine Wl_v (r_mv (v := .int .i64 sk) rfl) ?_
        refine Wl_v (r_mv (v := .int .i64 (((n : Nat) : Int) - sk)) rfl) ?_
        refine Wl_v (r_add rfl rfl (wi64 (by omega) (by omega))) ?_
        refine Wl_v (r_slicen (l' := (sk).toNat) (h' := (sk + (((n : Nat) : Int) - sk)).toNat) (n' := (sk + (((n : Nat) : Int) - sk)).toNat - (sk).toNat) Try.underlying22 Try.sizeOf5 rfl rfl rfl (by omega) (by omega) (by omega) (by omega) (by omega)) ?_
        have hT5 := Sl.cutn (l := (sk).toNat) (n := (sk + (((n : Nat) : Int) - sk)).toNat - (sk).toNat) hb (by omega)
        have hl_hT5 := ilen hT5
        have hc_hT5 := hT5.cap.1
        refine Wl_call (r_call2 rfl Try.call13 rfl rfl) (same_spec _ hO4.sl.any hT5.any (byt_take (byt_drop bb _) _) (byt_take (byt_drop bb _) _)) ?_
        rintro v w6 ⟨rfl, hU6⟩
        have hzw6 := hU6.size
        replace hb := hb.upd0 hU6
        replace HU := HU.trans0 hU6
        replace hO1 := hO1.upd0 hU6
        replace hO2 := hO2.upd0 hU6
        replace hp3 := hp3.upd0 hU6
        replace hO3 := hO3.upd0 hU6
        replace hO4 := hO4.upd0 hU6
        replace hT5 := hT5.upd0 hU6
        refine Wl_v (r_not rfl) ?_
        refine Wl_v (r_mv (v := .bool (!decide (((bs.drop (0 + sk.toNat)).take ((min (max nn 0) (((n : Nat) : Int) - ((0 + sk.toNat : Nat) : Int))).toNat)) = ((bs.drop ((sk).toNat)).take ((sk + (((n : Nat) : Int) - sk)).toNat - (sk).toNat))))) rfl) ?_
        have q4 : ((bs.drop (0 + sk.toNat)).take ((min (max nn 0) (((n : Nat) : Int) - ((0 + sk.toNat : Nat) : Int))).toNat)) = ((bs.drop ((sk).toNat)).take ((sk + (((n : Nat) : Int) - sk)).toNat - (sk).toNat)) := (by first | rfl | exact dt_eq (by omega) (by omega) | exact d_eq (by omega))
        rw [decide_eq_true q4]
        simp only [Bool.not_true, Bool.not_false]
        refine Wl_guard_t rfl ?_
        refine Wl_v (r_mv (v := .pointer (some ⟨pb2, 0, none⟩)) rfl) ?_
        refine Wl_guard_t rfl ?_
        refine Wl_call (r_call1 rfl Try.call24 rfl) (at_spec _ hp3 (by omega) (by omega) (by omega)) ?_
        rintro v w7 ⟨rfl, hU7⟩
        have hzw7 := hU7.size
        replace hb := hb.upd0 hU7
        replace HU := HU.trans0 hU7
        replace hO1 := hO1.upd0 hU7
        replace hO2 := hO2.upd0 hU7
        replace hp3 := hp3.upd0 hU7
        replace hO3 := hO3.upd0 hU7
        replace hO4 := hO4.upd0 hU7
        replace hT5 := hT5.upd0 hU7
        refine Wl_guard_t rfl ?_
        refine Wl_v (r_mv (v := .int .i64 sk) rfl) ?_
        refine Wl_guard_t rfl ?_
        refine Wl_v (r_ne rfl rfl) ?_
        refine Wl_v (r_pick_f (v := .bool (decide (((0 + sk.toNat : Nat) : Int) ≠ sk))) rfl rfl) ?_
        refine Wl_nil ?_
        have q5 : ¬ (((0 + sk.toNat : Nat) : Int) ≠ sk) := (by omega)
        rw [decide_eq_false q5]
        refine W_cond_f rfl ?_
        refine W_skip ?_
        refine W_seq ?_
        refine W_seq ?_
        refine W_region ?_
        refine Wl_v (r_as (v := .int .i64 0) rfl) ?_
        refine Wl_nil ?_
        refine W_block ?_
        refine W_loop (fun mu ρ ds w' => ∃ (k : Nat) (ys : List Int), ((min (max nn 0) (((n : Nat) : Int) - ((0 + sk.toNat : Nat) : Int))).toNat) - k = mu ∧ ds = [] ∧ Liv ρ [(0, .slice a n c), (7, .pointer (some ⟨pb2, 0, none⟩)), (8, .int .i64 sk), (9, .slice a4 ((min (max nn 0) (((n : Nat) : Int) - ((0 + sk.toNat : Nat) : Int))).toNat) c4), (11, .int .i64 ((k : Nat) : Int))] ∧ k ≤ (min (max nn 0) (((n : Nat) : Int) - ((0 + sk.toNat : Nat) : Int))).toNat ∧ Own w' (fun g => ((w3.heap.size ≤ g) ∧ g < w4.heap.size)) 5 1 (.slice a4 ((min (max nn 0) (((n : Nat) : Int) - ((0 + sk.toNat : Nat) : Int))).toNat) c4) ((min (max nn 0) (((n : Nat) : Int) - ((0 + sk.toNat : Nat) : Int))).toNat) (ints .u8 ys) ∧ Upd (fun g => ((w3.heap.size ≤ g) ∧ g < w4.heap.size)) w7 w') _ ⟨0, (bs.drop (0 + sk.toNat)).take ((min (max nn 0) (((n : Nat) : Int) - ((0 + sk.toNat : Nat) : Int))).toNat), rfl, rfl, ⟨rfl, rfl, rfl, rfl, (by first | rfl | exact vint (by omega) | exact vint (by simp)), trivial⟩, (by omega), hO4, Upd.refl _ _⟩ ?_
        rintro m8 ρ8 ds8 w8 ⟨k, ys, rfl, rfl, hl8, hk, hO4, hU8⟩
        obtain ⟨ρ8x, rfl⟩ : ∃ ρx, ρ8 = upds ρx [(0, .slice a n c), (7, .pointer (some ⟨pb2, 0, none⟩)), (8, .int .i64 sk), (9, .slice a4 ((min (max nn 0) (((n : Nat) : Int) - ((0 + sk.toNat : Nat) : Int))).toNat) c4), (11, .int .i64 ((k : Nat) : Int))] := ⟨_, upds_self hl8⟩
        clear hl8
        have hzw8 := hU8.size
        replace hb := hb.upd hU8 (by intro x h1 h2; have h3 : x < w.heap.size := h1; have h4 : ((w3.heap.size ≤ x) ∧ x < w4.heap.size) := h2; omega)
        replace HU := HU.trans hU8 (by intro x hx; have hx2 : ((w3.heap.size ≤ x) ∧ x < w4.heap.size) := hx; show (False) ∨ w.heap.size ≤ x; omega)
        replace hO1 := hO1.upd hU8 (by intro x h1 h2; have h3 : ((w.heap.size ≤ x) ∧ x < w1.heap.size) := h1; have h4 : ((w3.heap.size ≤ x) ∧ x < w4.heap.size) := h2; omega)
        replace hO2 := hO2.upd hU8 (by intro x h1 h2; have h3 : ((w1.heap.size ≤ x ∧ x ≠ pb2) ∧ x < w2.heap.size) := h1; have h4 : ((w3.heap.size ≤ x) ∧ x < w4.heap.size) := h2; omega)
        replace hp3 := hp3.upd hU8 (by intro hx; have hx2 : ((w3.heap.size ≤ pb2) ∧ pb2 < w4.heap.size) := hx; omega)
        replace hO3 := hO3.upd hU8 (by intro x h1 h2; have h3 : ((w2.heap.size ≤ x) ∧ x < w3.heap.size) := h1; have h4 : ((w3.heap.size ≤ x) ∧ x < w4.heap.size) := h2; omega)
        replace hT5 := hT5.upd hU8 (by intro x h1 h2; have h3 : x < w.heap.size := h1; have h4 : ((w3.heap.size ≤ x) ∧ x < w4.heap.size) := h2; omega)
        have HL8 := hU8
        refine W_seq ?_
        refine W_seq ?_
        refine W_region ?_
        refine Wl_v (r_mv (v := .int .i64 ((k : Nat) : Int)) rfl) ?_
        refine Wl_v (r_mv (v := .slice a4 ((min (max nn 0) (((n : Nat) : Int) - ((0 + sk.toNat : Nat) : Int))).toNat) c4) rfl) ?_
        refine Wl_v (r_len Try.underlying22 rfl) ?_
        refine Wl_v (r_lt rfl rfl) ?_
        refine Wl_nil ?_
        by_cases q6 : ((k : Nat) : Int) < (((min (max nn 0) (((n : Nat) : Int) - ((0 + sk.toNat : Nat) : Int))).toNat : Nat) : Int)
        · rw [decide_eq_true q6]
          refine W_cond_t rfl ?_
          refine W_skip ?_
          refine W_seq ?_
          refine W_block ?_
          refine W_region ?_
          refine Wl_v (r_mv (v := .slice a4 ((min (max nn 0) (((n : Nat) : Int) - ((0 + sk.toNat : Nat) : Int))).toNat) c4) rfl) ?_
          refine Wl_v (r_mv (v := .int .i64 ((k : Nat) : Int)) rfl) ?_
          refine Wl_v (r_mv (v := .slice a4 ((min (max nn 0) (((n : Nat) : Int) - ((0 + sk.toNat : Nat) : Int))).toNat) c4) rfl) ?_
          refine Wl_v (r_mv (v := .int .i64 ((k : Nat) : Int)) rfl) ?_
          refine Wl_idxi Try.underlying22 Try.sizeOf5 rfl rfl hO4.sl (by omega) (by omega) ?_
          intro ib9 io9 hc9
          refine Wl_loadc Try.isAgg5 rfl hc9 ?_
          refine Wl_v (r_add rfl rfl (mu8 _)) ?_
          obtain ⟨g10, rfl, hg10⟩ := hO4.addr (by omega)
          replace hg10 : ((w3.heap.size ≤ g10) ∧ g10 < w4.heap.size) := hg10
          refine Wl_idxo (i' := k) Try.underlying22 Try.sizeOf5 rfl rfl hO4 (by omega) (by omega) ?_
          intro hc11
          refine Wl_storeo (i := k) Try.sizeOf5 rfl rfl hO4 (by omega) ?_
          intro w12 hU12 hzz12 hO12
          clear hO4
          have hzw12 := hU12.size
          replace hb := hb.upd1 hU12 (by intro h1; have h3 : g10 < w.heap.size := h1; omega)
          replace HU := HU.trans1 hU12 (by show (False) ∨ w.heap.size ≤ g10; omega)
          replace hO1 := hO1.upd1 hU12 (by intro h1; have h3 : ((w.heap.size ≤ g10) ∧ g10 < w1.heap.size) := h1; omega)
          replace hO2 := hO2.upd1 hU12 (by intro h1; have h3 : ((w1.heap.size ≤ g10 ∧ g10 ≠ pb2) ∧ g10 < w2.heap.size) := h1; omega)
          replace hp3 := hp3.upd1 hU12 (by omega)
          replace hO3 := hO3.upd1 hU12 (by intro h1; have h3 : ((w2.heap.size ≤ g10) ∧ g10 < w3.heap.size) := h1; omega)
          replace hT5 := hT5.upd1 hU12 (by intro h1; have h3 : g10 < w.heap.size := h1; omega)
          replace HL8 := HL8.trans1 hU12 (by show (((w3.heap.size ≤ g10) ∧ g10 < w4.heap.size)) ∨ w7.heap.size ≤ g10; omega)
          have hl_hO12 := ilen hO12.sl
          have hc_hO12 := hO12.sl.cap.1
          refine Wl_nil ?_
          refine W_region ?_
          refine Wl_v (r_mv (v := .int .i64 ((k : Nat) : Int)) rfl) ?_
          refine Wl_v (r_add rfl rfl (wi64 (by omega) (by omega))) ?_
          refine Wl_v (r_as (v := .int .i64 (((k : Nat) : Int) + 1)) rfl) ?_
          refine Wl_nil ?_
          refine ⟨_, ?_, (k + 1), ys.set k (((ys.getD k 0) + 1) % 256), rfl, rfl, ⟨rfl, rfl, rfl, rfl, (by first | rfl | exact vint (by omega) | exact vint (by simp)), trivial⟩, (by omega), hO12, HL8⟩
          omega
        · rw [decide_eq_false q6]
          refine W_cond_f rfl ?_
          refine W_exit ?_
          refine W_seq ?_
          refine W_drawt rfl (l0 := #[false, false, false, false, false, false, false, false, false, false]) (by kernel_rfl) ?_
          refine Wt_take (i := 0) (listed' := #[true, false, false, false, false, false, false, false, false, false]) (by kernel_rfl) rfl (by kernel_rfl) (by kernel_rfl) (by kernel_rfl) (by kernel_rfl) (YI_v (v := .pointer (some ⟨pb2, 0, none⟩)) rfl (fun w' hw' => r_mv (v := .pointer (some ⟨pb2, 0, none⟩)) rfl)) ?_
          refine Wt_take (i := 2) (listed' := #[true, false, true, false, false, false, false, false, false, false]) (by kernel_rfl) rfl (by kernel_rfl) (by kernel_rfl) (by kernel_rfl) (by kernel_rfl) (YI_v (v := .slice a n c) rfl (fun w' hw' => r_mv (v := .slice a n c) rfl)) ?_
          refine Wt_take (i := 3) (listed' := #[true, false, true, true, false, false, false, false, false, false]) (by kernel_rfl) rfl (by kernel_rfl) (by kernel_rfl) (by kernel_rfl) (by kernel_rfl) (YI_v (v := .int .i64 sk) rfl (fun w' hw' => r_mv (v := .int .i64 sk) rfl)) ?_
          refine Wt_take (i := 4) (listed' := #[true, false, true, true, true, false, false, false, false, false]) (by kernel_rfl) rfl (by kernel_rfl) (by kernel_rfl) (by kernel_rfl) (by kernel_rfl) (YI_v (v := .slice (if c = (sk).toNat then a else a.map (·.add (((sk).toNat) * 1))) (n - (sk).toNat) (c - ((sk).toNat))) rfl (fun w' hw' => r_slicelen (l' := (sk).toNat) (n' := n - (sk).toNat) Try.underlying22 Try.sizeOf5 rfl rfl (by omega) (by omega) (by omega))) ?_
          have hT13 := Sl.cutl (l := (sk).toNat) (n := n - (sk).toNat) hb (by omega) (by omega)
          have hl_hT13 := ilen hT13
          have hc_hT13 := hT13.cap.1
          intro w14 hU14
          have hzw14 := hU14.size
          replace hb := hb.upd0 hU14
          replace HU := HU.trans0 hU14
          replace hO1 := hO1.upd0 hU14
          replace hO2 := hO2.upd0 hU14
          replace hp3 := hp3.upd0 hU14
          replace hO3 := hO3.upd0 hU14
          replace hT5 := hT5.upd0 hU14
          replace hO4 := hO4.upd0 hU14
          replace HL8 := HL8.trans0 hU14
          replace hT13 := hT13.upd0 hU14
          refine Wa_one (i := 1) (listed' := #[true, true, true, true, true, false, false, false, false, false]) (by kernel_rfl) rfl (by kernel_rfl) ?_
          refine Ws_of_Wl ?_
          have hW : Upd No w8 w14 := hU14
          refine Wl_call (r_call1 rfl Try.call25 rfl) (rest_spec _ hp3 (hO2.sl.cur (by intro h1; have h3 : ((w1.heap.size ≤ pb2 ∧ pb2 ≠ pb2) ∧ pb2 < w2.heap.size) := h1; first | omega | simp at h3)) bb (by omega) (by omega)) ?_
          rintro v w15 ⟨a15, c15, rfl, hO15, hU15⟩
          have hzw15 := hU15.size
          replace hb := hb.upd0 hU15
          replace HU := HU.trans0 hU15
          replace hO1 := hO1.upd0 hU15
          replace hO2 := hO2.upd0 hU15
          replace hp3 := hp3.upd0 hU15
          replace hO3 := hO3.upd0 hU15
          replace hT5 := hT5.upd0 hU15
          replace hO4 := hO4.upd0 hU15
          replace HL8 := HL8.trans0 hU15
          replace hT13 := hT13.upd0 hU15
          try replace hW := hW.trans0 hU15
          replace hO15 := hO15.tight
          have hl_hO15 := ilen hO15.sl
          have hc_hO15 := hO15.sl.cap.1
          refine Wl_nil ?_
          intro w16 hS16
          have hX : Upd No w8 w16 := hW.trans0 hS16.upd
          refine ⟨fun _ => ⟨hX, ?_⟩, fun h => absurd h (by rw [show barOp _ 1 = false from by kernel_rfl]; simp)⟩
          have hU16 := hS16.upd
          have hzw16 := hU16.size
          replace hb := hb.upd0 hU16
          replace HU := HU.trans0 hU16
          replace hO1 := hO1.upd0 hU16
          replace hO2 := hO2.upd0 hU16
          replace hp3 := hp3.upd0 hU16
          replace hO3 := hO3.upd0 hU16
          replace hT5 := hT5.upd0 hU16
          replace hO4 := hO4.upd0 hU16
          replace HL8 := HL8.trans0 hU16
          replace hT13 := hT13.upd0 hU16
          replace hO15 := hO15.upd0 hU16
          try replace hW := hW.trans0 hU16
          refine Wt_base hX ?_
          refine Wt_take (i := 5) (listed' := #[true, true, true, true, true, true, false, false, false, false]) (by kernel_rfl) rfl (by kernel_rfl) (by kernel_rfl) (by kernel_rfl) (by kernel_rfl) (YI_c (v := .bool (decide ((bs.drop (0 + sk.toNat)) = (bs.drop ((sk).toNat))))) rfl (fun w' => r_call2 rfl Try.call13 rfl rfl) (fun w' hw' => same_spec w' ((hO15.upd0 hw').sl.any) ((hT13.upd0 hw').any) (byt_drop bb _) (byt_drop bb _))) ?_
          refine Wt_take (i := 6) (listed' := #[true, true, true, true, true, true, true, false, false, false]) (by kernel_rfl) rfl (by kernel_rfl) (by kernel_rfl) (by kernel_rfl) (by kernel_rfl) (YI_v (v := .bool (decide ((bs.drop (0 + sk.toNat)) = (bs.drop ((sk).toNat))))) rfl (fun w' hw' => r_mv (v := .bool (decide ((bs.drop (0 + sk.toNat)) = (bs.drop ((sk).toNat))))) rfl)) ?_
          have q7 : (bs.drop (0 + sk.toNat)) = (bs.drop ((sk).toNat)) := (by first | rfl | exact dt_eq (by omega) (by omega) | exact d_eq (by omega))
          rw [decide_eq_true q7]
          refine Wt_take (i := 7) (listed' := #[true, true, true, true, true, true, true, true, false, false]) (by kernel_rfl) rfl (by kernel_rfl) (by kernel_rfl) (by kernel_rfl) (by kernel_rfl) (YI_c (v := .bool true) rfl (fun w' => r_call0 rfl Try.call19 ) (fun w' hw' => known_spec w' )) ?_
          refine Wt_take (i := 8) (listed' := #[true, true, true, true, true, true, true, true, true, false]) (by kernel_rfl) rfl (by kernel_rfl) (by kernel_rfl) (by kernel_rfl) (by kernel_rfl) (YI_v rfl (fun w' hw' => r_pick_t (v := .bool true) rfl rfl)) ?_
          refine Wt_take (i := 9) (listed' := #[true, true, true, true, true, true, true, true, true, true]) (by kernel_rfl) rfl (by kernel_rfl) (by kernel_rfl) (by kernel_rfl) (by kernel_rfl) (YI_v (v := .bool true) rfl (fun w' hw' => r_as (v := .bool true) rfl)) ?_
          intro w17 hU17
          have hzw17 := hU17.size
          replace hb := hb.upd0 hU17
          replace HU := HU.trans0 hU17
          replace hO1 := hO1.upd0 hU17
          replace hO2 := hO2.upd0 hU17
          replace hp3 := hp3.upd0 hU17
          replace hO3 := hO3.upd0 hU17
          replace hT5 := hT5.upd0 hU17
          replace hO4 := hO4.upd0 hU17
          replace HL8 := HL8.trans0 hU17
          replace hT13 := hT13.upd0 hU17
          replace hO15 := hO15.upd0 hU17
          try replace hW := hW.trans0 hU17
          refine Wa_done (by kernel_rfl) ?_
          refine W_ret ?_
          refine ret_end (v := .bool true) rfl (res1 Try.results8 rfl) ?_
          exact ⟨_, rfl, rfl, HU⟩
      · rw [decide_eq_false q3]
        refine W_cond_f rfl ?_
        refine W_skip ?_
        refine W_seq ?_
        refine W_seq ?_
        refine W_region ?_
        refine Wl_v (r_mv (v := .slice a4 ((min (max nn 0) (((n : Nat) : Int) - ((0 + sk.toNat : Nat) : Int))).toNat) c4) rfl) ?_
        refine Wl_v (r_mv (v := .slice a n c) rfl) ?_
        refine Wl_v (r_mv (v := .int .i64 sk) rfl) ?_
        refine Wl_v (r_mv (v := .int .i64 sk) rfl) ?_
        refine Wl_v (r_mv (v := .int .i64 (max nn 0)) rfl) ?_
        refine Wl_v (r_add rfl rfl (wi64 (by omega) (by omega))) ?_
        refine Wl_v (r_slicen (l' := (sk).toNat) (h' := (sk + (max nn 0)).toNat) (n' := (sk + (max nn 0)).toNat - (sk).toNat) Try.underlying22 Try.sizeOf5 rfl rfl rfl (by omega) (by omega) (by omega) (by omega) (by omega)) ?_
        have hT18 := Sl.cutn (l := (sk).toNat) (n := (sk + (max nn 0)).toNat - (sk).toNat) hb (by omega)
        have hl_hT18 := ilen hT18
        have hc_hT18 := hT18.cap.1
        refine Wl_call (r_call2 rfl Try.call13 rfl rfl) (same_spec _ hO4.sl.any hT18.any (byt_take (byt_drop bb _) _) (byt_take (byt_drop bb _) _)) ?_
        rintro v w19 ⟨rfl, hU19⟩
        have hzw19 := hU19.size
        replace hb := hb.upd0 hU19
        replace HU := HU.trans0 hU19
        replace hO1 := hO1.upd0 hU19
        replace hO2 := hO2.upd0 hU19
        replace hp3 := hp3.upd0 hU19
        replace hO3 := hO3.upd0 hU19
        replace hO4 := hO4.upd0 hU19
        replace hT18 := hT18.upd0 hU19
        refine Wl_v (r_not rfl) ?_
        refine Wl_v (r_mv (v := .bool (!decide (((bs.drop (0 + sk.toNat)).take ((min (max nn 0) (((n : Nat) : Int) - ((0 + sk.toNat : Nat) : Int))).toNat)) = ((bs.drop ((sk).toNat)).take ((sk + (max nn 0)).toNat - (sk).toNat))))) rfl) ?_
        have q8 : ((bs.drop (0 + sk.toNat)).take ((min (max nn 0) (((n : Nat) : Int) - ((0 + sk.toNat : Nat) : Int))).toNat)) = ((bs.drop ((sk).toNat)).take ((sk + (max nn 0)).toNat - (sk).toNat)) := (by first | rfl | exact dt_eq (by omega) (by omega) | exact d_eq (by omega))
        rw [decide_eq_true q8]
        simp only [Bool.not_true, Bool.not_false]
        refine Wl_guard_t rfl ?_
        refine Wl_v (r_mv (v := .pointer (some ⟨pb2, 0, none⟩)) rfl) ?_
        refine Wl_guard_t rfl ?_
        refine Wl_call (r_call1 rfl Try.call24 rfl) (at_spec _ hp3 (by omega) (by omega) (by omega)) ?_
        rintro v w20 ⟨rfl, hU20⟩
        have hzw20 := hU20.size
        replace hb := hb.upd0 hU20
        replace HU := HU.trans0 hU20
        replace hO1 := hO1.upd0 hU20
        replace hO2 := hO2.upd0 hU20
        replace hp3 := hp3.upd0 hU20
        replace hO3 := hO3.upd0 hU20
        replace hO4 := hO4.upd0 hU20
        replace hT18 := hT18.upd0 hU20
        refine Wl_guard_t rfl ?_
        refine Wl_v (r_mv (v := .int .i64 sk) rfl) ?_
        refine Wl_guard_t rfl ?_
        refine Wl_v (r_ne rfl rfl) ?_
        refine Wl_v (r_pick_f (v := .bool (decide (((0 + sk.toNat : Nat) : Int) ≠ sk))) rfl rfl) ?_
        refine Wl_nil ?_
        have q9 : ¬ (((0 + sk.toNat : Nat) : Int) ≠ sk) := (by omega)
        rw [decide_eq_false q9]
        refine W_cond_f rfl ?_
        refine W_skip ?_
        refine W_seq ?_
        refine W_seq ?_
        refine W_region ?_
        refine Wl_v (r_as (v := .int .i64 0) rfl) ?_
        refine Wl_nil ?_
        refine W_block ?_
        refine W_loop (fun mu ρ ds w' => ∃ (k : Nat) (ys : List Int), ((min (max nn 0) (((n : Nat) : Int) - ((0 + sk.toNat : Nat) : Int))).toNat) - k = mu ∧ ds = [] ∧ Liv ρ [(0, .slice a n c), (7, .pointer (some ⟨pb2, 0, none⟩)), (8, .int .i64 sk), (9, .slice a4 ((min (max nn 0) (((n : Nat) : Int) - ((0 + sk.toNat : Nat) : Int))).toNat) c4), (11, .int .i64 ((k : Nat) : Int))] ∧ k ≤ (min (max nn 0) (((n : Nat) : Int) - ((0 + sk.toNat : Nat) : Int))).toNat ∧ Own w' (fun g => ((w3.heap.size ≤ g) ∧ g < w4.heap.size)) 5 1 (.slice a4 ((min (max nn 0) (((n : Nat) : Int) - ((0 + sk.toNat : Nat) : Int))).toNat) c4) ((min (max nn 0) (((n : Nat) : Int) - ((0 + sk.toNat : Nat) : Int))).toNat) (ints .u8 ys) ∧ Upd (fun g => ((w3.heap.size ≤ g) ∧ g < w4.heap.size)) w20 w') _ ⟨0, (bs.drop (0 + sk.toNat)).take ((min (max nn 0) (((n : Nat) : Int) - ((0 + sk.toNat : Nat) : Int))).toNat), rfl, rfl, ⟨rfl, rfl, rfl, rfl, (by first | rfl | exact vint (by omega) | exact vint (by simp)), trivial⟩, (by omega), hO4, Upd.refl _ _⟩ ?_
        rintro m21 ρ21 ds21 w21 ⟨k, ys, rfl, rfl, hl21, hk, hO4, hU21⟩
        obtain ⟨ρ21x, rfl⟩ : ∃ ρx, ρ21 = upds ρx [(0, .slice a n c), (7, .pointer (some ⟨pb2, 0, none⟩)), (8, .int .i64 sk), (9, .slice a4 ((min (max nn 0) (((n : Nat) : Int) - ((0 + sk.toNat : Nat) : Int))).toNat) c4), (11, .int .i64 ((k : Nat) : Int))] := ⟨_, upds_self hl21⟩
        clear hl21
        have hzw21 := hU21.size
        replace hb := hb.upd hU21 (by intro x h1 h2; have h3 : x < w.heap.size := h1; have h4 : ((w3.heap.size ≤ x) ∧ x < w4.heap.size) := h2; omega)
        replace HU := HU.trans hU21 (by intro x hx; have hx2 : ((w3.heap.size ≤ x) ∧ x < w4.heap.size) := hx; show (False) ∨ w.heap.size ≤ x; omega)
        replace hO1 := hO1.upd hU21 (by intro x h1 h2; have h3 : ((w.heap.size ≤ x) ∧ x < w1.heap.size) := h1; have h4 : ((w3.heap.size ≤ x) ∧ x < w4.heap.size) := h2; omega)
        replace hO2 := hO2.upd hU21 (by intro x h1 h2; have h3 : ((w1.heap.size ≤ x ∧ x ≠ pb2) ∧ x < w2.heap.size) := h1; have h4 : ((w3.heap.size ≤ x) ∧ x < w4.heap.size) := h2; omega)
        replace hp3 := hp3.upd hU21 (by intro hx; have hx2 : ((w3.heap.size ≤ pb2) ∧ pb2 < w4.heap.size) := hx; omega)
        replace hO3 := hO3.upd hU21 (by intro x h1 h2; have h3 : ((w2.heap.size ≤ x) ∧ x < w3.heap.size) := h1; have h4 : ((w3.heap.size ≤ x) ∧ x < w4.heap.size) := h2; omega)
        replace hT18 := hT18.upd hU21 (by intro x h1 h2; have h3 : x < w.heap.size := h1; have h4 : ((w3.heap.size ≤ x) ∧ x < w4.heap.size) := h2; omega)
        have HL21 := hU21
        refine W_seq ?_
        refine W_seq ?_
        refine W_region ?_
        refine Wl_v (r_mv (v := .int .i64 ((k : Nat) : Int)) rfl) ?_
        refine Wl_v (r_mv (v := .slice a4 ((min (max nn 0) (((n : Nat) : Int) - ((0 + sk.toNat : Nat) : Int))).toNat) c4) rfl) ?_
        refine Wl_v (r_len Try.underlying22 rfl) ?_
        refine Wl_v (r_lt rfl rfl) ?_
        refine Wl_nil ?_
        by_cases q10 : ((k : Nat) : Int) < (((min (max nn 0) (((n : Nat) : Int) - ((0 + sk.toNat : Nat) : Int))).toNat : Nat) : Int)
        · rw [decide_eq_true q10]
          refine W_cond_t rfl ?_
          refine W_skip ?_
          refine W_seq ?_
          refine W_block ?_
          refine W_region ?_
          refine Wl_v (r_mv (v := .slice a4 ((min (max nn 0) (((n : Nat) : Int) - ((0 + sk.toNat : Nat) : Int))).toNat) c4) rfl) ?_
          refine Wl_v (r_mv (v := .int .i64 ((k : Nat) : Int)) rfl) ?_
          refine Wl_v (r_mv (v := .slice a4 ((min (max nn 0) (((n : Nat) : Int) - ((0 + sk.toNat : Nat) : Int))).toNat) c4) rfl) ?_
          refine Wl_v (r_mv (v := .int .i64 ((k : Nat) : Int)) rfl) ?_
          refine Wl_idxi Try.underlying22 Try.sizeOf5 rfl rfl hO4.sl (by omega) (by omega) ?_
          intro ib22 io22 hc22
          refine Wl_loadc Try.isAgg5 rfl hc22 ?_
          refine Wl_v (r_add rfl rfl (mu8 _)) ?_
          obtain ⟨g23, rfl, hg23⟩ := hO4.addr (by omega)
          replace hg23 : ((w3.heap.size ≤ g23) ∧ g23 < w4.heap.size) := hg23
          refine Wl_idxo (i' := k) Try.underlying22 Try.sizeOf5 rfl rfl hO4 (by omega) (by omega) ?_
          intro hc24
          refine Wl_storeo (i := k) Try.sizeOf5 rfl rfl hO4 (by omega) ?_
          intro w25 hU25 hzz25 hO25
          clear hO4
          have hzw25 := hU25.size
          replace hb := hb.upd1 hU25 (by intro h1; have h3 : g23 < w.heap.size := h1; omega)
          replace HU := HU.trans1 hU25 (by show (False) ∨ w.heap.size ≤ g23; omega)
          replace hO1 := hO1.upd1 hU25 (by intro h1; have h3 : ((w.heap.size ≤ g23) ∧ g23 < w1.heap.size) := h1; omega)
          replace hO2 := hO2.upd1 hU25 (by intro h1; have h3 : ((w1.heap.size ≤ g23 ∧ g23 ≠ pb2) ∧ g23 < w2.heap.size) := h1; omega)
          replace hp3 := hp3.upd1 hU25 (by omega)
          replace hO3 := hO3.upd1 hU25 (by intro h1; have h3 : ((w2.heap.size ≤ g23) ∧ g23 < w3.heap.size) := h1; omega)
          replace hT18 := hT18.upd1 hU25 (by intro h1; have h3 : g23 < w.heap.size := h1; omega)
          replace HL21 := HL21.trans1 hU25 (by show (((w3.heap.size ≤ g23) ∧ g23 < w4.heap.size)) ∨ w20.heap.size ≤ g23; omega)
          have hl_hO25 := ilen hO25.sl
          have hc_hO25 := hO25.sl.cap.1
          refine Wl_nil ?_
          refine W_region ?_
          refine Wl_v (r_mv (v := .int .i64 ((k : Nat) : Int)) rfl) ?_
          refine Wl_v (r_add rfl rfl (wi64 (by omega) (by omega))) ?_
          refine Wl_v (r_as (v := .int .i64 (((k : Nat) : Int) + 1)) rfl) ?_
          refine Wl_nil ?_
          refine ⟨_, ?_, (k + 1), ys.set k (((ys.getD k 0) + 1) % 256), rfl, rfl, ⟨rfl, rfl, rfl, rfl, (by first | rfl | exact vint (by omega) | exact vint (by simp)), trivial⟩, (by omega), hO25, HL21⟩
          omega
        · rw [decide_eq_false q10]
          refine W_cond_f rfl ?_
          refine W_exit ?_
          refine W_seq ?_
          refine W_drawt rfl (l0 := #[false, false, false, false, false, false, false, false, false, false]) (by kernel_rfl) ?_
          refine Wt_take (i := 0) (listed' := #[true, false, false, false, false, false, false, false, false, false]) (by kernel_rfl) rfl (by kernel_rfl) (by kernel_rfl) (by kernel_rfl) (by kernel_rfl) (YI_v (v := .pointer (some ⟨pb2, 0, none⟩)) rfl (fun w' hw' => r_mv (v := .pointer (some ⟨pb2, 0, none⟩)) rfl)) ?_
          refine Wt_take (i := 2) (listed' := #[true, false, true, false, false, false, false, false, false, false]) (by kernel_rfl) rfl (by kernel_rfl) (by kernel_rfl) (by kernel_rfl) (by kernel_rfl) (YI_v (v := .slice a n c) rfl (fun w' hw' => r_mv (v := .slice a n c) rfl)) ?_
          refine Wt_take (i := 3) (listed' := #[true, false, true, true, false, false, false, false, false, false]) (by kernel_rfl) rfl (by kernel_rfl) (by kernel_rfl) (by kernel_rfl) (by kernel_rfl) (YI_v (v := .int .i64 sk) rfl (fun w' hw' => r_mv (v := .int .i64 sk) rfl)) ?_
          refine Wt_take (i := 4) (listed' := #[true, false, true, true, true, false, false, false, false, false]) (by kernel_rfl) rfl (by kernel_rfl) (by kernel_rfl) (by kernel_rfl) (by kernel_rfl) (YI_v (v := .slice (if c = (sk).toNat then a else a.map (·.add (((sk).toNat) * 1))) (n - (sk).toNat) (c - ((sk).toNat))) rfl (fun w' hw' => r_slicelen (l' := (sk).toNat) (n' := n - (sk).toNat) Try.underlying22 Try.sizeOf5 rfl rfl (by omega) (by omega) (by omega))) ?_
          have hT26 := Sl.cutl (l := (sk).toNat) (n := n - (sk).toNat) hb (by omega) (by omega)
          have hl_hT26 := ilen hT26
          have hc_hT26 := hT26.cap.1
          intro w27 hU27
          have hzw27 := hU27.size
          replace hb := hb.upd0 hU27
          replace HU := HU.trans0 hU27
          replace hO1 := hO1.upd0 hU27
          replace hO2 := hO2.upd0 hU27
          replace hp3 := hp3.upd0 hU27
          replace hO3 := hO3.upd0 hU27
          replace hT18 := hT18.upd0 hU27
          replace hO4 := hO4.upd0 hU27
          replace HL21 := HL21.trans0 hU27
          replace hT26 := hT26.upd0 hU27
          refine Wa_one (i := 1) (listed' := #[true, true, true, true, true, false, false, false, false, false]) (by kernel_rfl) rfl (by kernel_rfl) ?_
          refine Ws_of_Wl ?_
          have hW : Upd No w21 w27 := hU27
          refine Wl_call (r_call1 rfl Try.call25 rfl) (rest_spec _ hp3 (hO2.sl.cur (by intro h1; have h3 : ((w1.heap.size ≤ pb2 ∧ pb2 ≠ pb2) ∧ pb2 < w2.heap.size) := h1; first | omega | simp at h3)) bb (by omega) (by omega)) ?_
          rintro v w28 ⟨a28, c28, rfl, hO28, hU28⟩
          have hzw28 := hU28.size
          replace hb := hb.upd0 hU28
          replace HU := HU.trans0 hU28
          replace hO1 := hO1.upd0 hU28
          replace hO2 := hO2.upd0 hU28
          replace hp3 := hp3.upd0 hU28
          replace hO3 := hO3.upd0 hU28
          replace hT18 := hT18.upd0 hU28
          replace hO4 := hO4.upd0 hU28
          replace HL21 := HL21.trans0 hU28
          replace hT26 := hT26.upd0 hU28
          try replace hW := hW.trans0 hU28
          replace hO28 := hO28.tight
          have hl_hO28 := ilen hO28.sl
          have hc_hO28 := hO28.sl.cap.1
          refine Wl_nil ?_
          intro w29 hS29
          have hX : Upd No w21 w29 := hW.trans0 hS29.upd
          refine ⟨fun _ => ⟨hX, ?_⟩, fun h => absurd h (by rw [show barOp _ 1 = false from by kernel_rfl]; simp)⟩
          have hU29 := hS29.upd
          have hzw29 := hU29.size
          replace hb := hb.upd0 hU29
          replace HU := HU.trans0 hU29
          replace hO1 := hO1.upd0 hU29
          replace hO2 := hO2.upd0 hU29
          replace hp3 := hp3.upd0 hU29
          replace hO3 := hO3.upd0 hU29
          replace hT18 := hT18.upd0 hU29
          replace hO4 := hO4.upd0 hU29
          replace HL21 := HL21.trans0 hU29
          replace hT26 := hT26.upd0 hU29
          replace hO28 := hO28.upd0 hU29
          try replace hW := hW.trans0 hU29
          refine Wt_base hX ?_
          refine Wt_take (i := 5) (listed' := #[true, true, true, true, true, true, false, false, false, false]) (by kernel_rfl) rfl (by kernel_rfl) (by kernel_rfl) (by kernel_rfl) (by kernel_rfl) (YI_c (v := .bool (decide ((bs.drop (0 + sk.toNat)) = (bs.drop ((sk).toNat))))) rfl (fun w' => r_call2 rfl Try.call13 rfl rfl) (fun w' hw' => same_spec w' ((hO28.upd0 hw').sl.any) ((hT26.upd0 hw').any) (byt_drop bb _) (byt_drop bb _))) ?_
          refine Wt_take (i := 6) (listed' := #[true, true, true, true, true, true, true, false, false, false]) (by kernel_rfl) rfl (by kernel_rfl) (by kernel_rfl) (by kernel_rfl) (by kernel_rfl) (YI_v (v := .bool (decide ((bs.drop (0 + sk.toNat)) = (bs.drop ((sk).toNat))))) rfl (fun w' hw' => r_mv (v := .bool (decide ((bs.drop (0 + sk.toNat)) = (bs.drop ((sk).toNat))))) rfl)) ?_
          have q11 : (bs.drop (0 + sk.toNat)) = (bs.drop ((sk).toNat)) := (by first | rfl | exact dt_eq (by omega) (by omega) | exact d_eq (by omega))
          rw [decide_eq_true q11]
          refine Wt_take (i := 7) (listed' := #[true, true, true, true, true, true, true, true, false, false]) (by kernel_rfl) rfl (by kernel_rfl) (by kernel_rfl) (by kernel_rfl) (by kernel_rfl) (YI_c (v := .bool true) rfl (fun w' => r_call0 rfl Try.call19 ) (fun w' hw' => known_spec w' )) ?_
          refine Wt_take (i := 8) (listed' := #[true, true, true, true, true, true, true, true, true, false]) (by kernel_rfl) rfl (by kernel_rfl) (by kernel_rfl) (by kernel_rfl) (by kernel_rfl) (YI_v rfl (fun w' hw' => r_pick_t (v := .bool true) rfl rfl)) ?_
          refine Wt_take (i := 9) (listed' := #[true, true, true, true, true, true, true, true, true, true]) (by kernel_rfl) rfl (by kernel_rfl) (by kernel_rfl) (by kernel_rfl) (by kernel_rfl) (YI_v (v := .bool true) rfl (fun w' hw' => r_as (v := .bool true) rfl)) ?_
          intro w30 hU30
          have hzw30 := hU30.size
          replace hb := hb.upd0 hU30
          replace HU := HU.trans0 hU30
          replace hO1 := hO1.upd0 hU30
          replace hO2 := hO2.upd0 hU30
          replace hp3 := hp3.upd0 hU30
          replace hO3 := hO3.upd0 hU30
          replace hT18 := hT18.upd0 hU30
          replace hO4 := hO4.upd0 hU30
          replace HL21 := HL21.trans0 hU30
          replace hT26 := hT26.upd0 hU30
          replace hO28 := hO28.upd0 hU30
          try replace hW := hW.trans0 hU30
          refine Wa_done (by kernel_rfl) ?_
          refine W_ret ?_
          refine ret_end (v := .bool true) rfl (res1 Try.results8 rfl) ?_
          exact ⟨_, rfl, rfl, HU⟩
    · rw [decide_eq_false q2]
      refine W_cond_f rfl ?_
      refine W_skip ?_
      refine W_seq ?_
      refine W_region ?_
      refine Wl_v (r_mv (v := .pointer (some ⟨pb2, 0, none⟩)) rfl) ?_
      refine Wl_v (r_mv (v := .int .i64 nn) rfl) ?_
      refine Wl_call (r_call2 rfl Try.call27 rfl rfl) (peek_spec (t := (min (max nn 0) (((n : Nat) : Int) - ((0 : Nat) : Int))).toNat) (p := 0) _ hp2 (hO2.sl.cur (by intro h1; have h3 : ((w1.heap.size ≤ pb2 ∧ pb2 ≠ pb2) ∧ pb2 < w2.heap.size) := h1; first | omega | simp at h3)) bb (by omega) (by omega) (by omega)) ?_
      rintro v w31 ⟨a31, c31, rfl, hO31, hU31⟩
      have hzw31 := hU31.size
      replace hb := hb.upd0 hU31
      replace HU := HU.trans0 hU31
      replace hO1 := hO1.upd0 hU31
      replace hp2 := hp2.upd0 hU31
      replace hO2 := hO2.upd0 hU31
      replace hO31 := hO31.tight
      have hl_hO31 := ilen hO31.sl
      have hc_hO31 := hO31.sl.cap.1
      refine Wl_v (r_as (v := .slice a31 ((min (max nn 0) (((n : Nat) : Int) - ((0 : Nat) : Int))).toNat) c31) rfl) ?_
      refine Wl_nil ?_
      refine W_seq ?_
      refine W_region ?_
      refine Wl_v (r_mv (v := .int .i64 nn) rfl) ?_
      refine Wl_v (r_max rfl rfl) ?_
      refine Wl_v (r_as (v := .int .i64 (max nn 0)) rfl) ?_
      refine Wl_nil ?_
      refine W_seq ?_
      refine W_seq ?_
      refine W_region ?_
      refine Wl_v (r_mv (v := .int .i64 (max nn 0)) rfl) ?_
      refine Wl_v (r_mv (v := .slice a n c) rfl) ?_
      refine Wl_v (r_len Try.underlying22 rfl) ?_
      refine Wl_v (r_mv (v := .int .i64 0) rfl) ?_
      refine Wl_v (r_sub rfl rfl (wi64 (by omega) (by omega))) ?_
      refine Wl_v (r_gt rfl rfl) ?_
      refine Wl_nil ?_
      by_cases q12 : (((n : Nat) : Int) - 0) < (max nn 0)
      · rw [decide_eq_true q12]
        refine W_cond_t rfl ?_
        refine W_region ?_
        refine Wl_v (r_mv (v := .slice a n c) rfl) ?_
        refine Wl_v (r_len Try.underlying22 rfl) ?_
        refine Wl_v (r_mv (v := .int .i64 0) rfl) ?_
        refine Wl_v (r_sub rfl rfl (wi64 (by omega) (by omega))) ?_
        refine Wl_v (r_as (v := .int .i64 (((n : Nat) : Int) - 0)) rfl) ?_
        refine Wl_nil ?_
        refine W_seq ?_
        refine W_seq ?_
        refine W_region ?_
        refine Wl_v (r_mv (v := .slice a31 ((min (max nn 0) (((n : Nat) : Int) - ((0 : Nat) : Int))).toNat) c31) rfl) ?_
        refine Wl_v (r_mv (v := .slice a n c) rfl) ?_
        refine Wl_v (r_mv (v := .int .i64 0) rfl) ?_
        refine Wl_v (r_mv (v := .int .i64 0) rfl) ?_
        refine Wl_v (r_mv (v := .int .i64 (((n : Nat) : Int) - 0)) rfl) ?_
        refine Wl_v (r_add rfl rfl (wi64 (by omega) (by omega))) ?_
        refine Wl_v (r_slicen (l' := 0) (h' := (0 + (((n : Nat) : Int) - 0)).toNat) (n' := (0 + (((n : Nat) : Int) - 0)).toNat - 0) Try.underlying22 Try.sizeOf5 rfl rfl rfl (by omega) (by omega) (by omega) (by omega) (by omega)) ?_
        have hT32 := Sl.cutn (l := 0) (n := (0 + (((n : Nat) : Int) - 0)).toNat - 0) hb (by omega)
        have hl_hT32 := ilen hT32
        have hc_hT32 := hT32.cap.1
        refine Wl_call (r_call2 rfl Try.call13 rfl rfl) (same_spec _ hO31.sl.any hT32.any (byt_take (byt_drop bb _) _) (byt_take (byt_drop bb _) _)) ?_
        rintro v w33 ⟨rfl, hU33⟩
        have hzw33 := hU33.size
        replace hb := hb.upd0 hU33
        replace HU := HU.trans0 hU33
        replace hO1 := hO1.upd0 hU33
        replace hp2 := hp2.upd0 hU33
        replace hO2 := hO2.upd0 hU33
        replace hO31 := hO31.upd0 hU33
        replace hT32 := hT32.upd0 hU33
        refine Wl_v (r_not rfl) ?_
        refine Wl_v (r_mv (v := .bool (!decide (((bs.drop 0).take ((min (max nn 0) (((n : Nat) : Int) - ((0 : Nat) : Int))).toNat)) = ((bs.drop 0).take ((0 + (((n : Nat) : Int) - 0)).toNat - 0))))) rfl) ?_
        have q13 : ((bs.drop 0).take ((min (max nn 0) (((n : Nat) : Int) - ((0 : Nat) : Int))).toNat)) = ((bs.drop 0).take ((0 + (((n : Nat) : Int) - 0)).toNat - 0)) := (by first | rfl | exact dt_eq (by omega) (by omega) | exact d_eq (by omega))
        rw [decide_eq_true q13]
        simp only [Bool.not_true, Bool.not_false]
        refine Wl_guard_t rfl ?_
        refine Wl_v (r_mv (v := .pointer (some ⟨pb2, 0, none⟩)) rfl) ?_
        refine Wl_guard_t rfl ?_
        refine Wl_call (r_call1 rfl Try.call24 rfl) (at_spec _ hp2 (by omega) (by omega) (by omega)) ?_
        rintro v w34 ⟨rfl, hU34⟩
        have hzw34 := hU34.size
        replace hb := hb.upd0 hU34
        replace HU := HU.trans0 hU34
        replace hO1 := hO1.upd0 hU34
        replace hp2 := hp2.upd0 hU34
        replace hO2 := hO2.upd0 hU34
        replace hO31 := hO31.upd0 hU34
        replace hT32 := hT32.upd0 hU34
        refine Wl_guard_t rfl ?_
        refine Wl_v (r_mv (v := .int .i64 0) rfl) ?_
        refine Wl_guard_t rfl ?_
        refine Wl_v (v := .bool false) (r_ne (a := 0) (b := 0) rfl rfl) ?_
        refine Wl_v (r_pick_f (v := .bool false) rfl rfl) ?_
        refine Wl_nil ?_
        refine W_cond_f rfl ?_
        refine W_skip ?_
        refine W_seq ?_
        refine W_seq ?_
        refine W_region ?_
        refine Wl_v (r_as (v := .int .i64 0) rfl) ?_
        refine Wl_nil ?_
        refine W_block ?_
        refine W_loop (fun mu ρ ds w' => ∃ (k : Nat) (ys : List Int), ((min (max nn 0) (((n : Nat) : Int) - ((0 : Nat) : Int))).toNat) - k = mu ∧ ds = [] ∧ Liv ρ [(0, .slice a n c), (7, .pointer (some ⟨pb2, 0, none⟩)), (8, .int .i64 0), (9, .slice a31 ((min (max nn 0) (((n : Nat) : Int) - ((0 : Nat) : Int))).toNat) c31), (11, .int .i64 ((k : Nat) : Int))] ∧ k ≤ (min (max nn 0) (((n : Nat) : Int) - ((0 : Nat) : Int))).toNat ∧ Own w' (fun g => ((w2.heap.size ≤ g) ∧ g < w31.heap.size)) 5 1 (.slice a31 ((min (max nn 0) (((n : Nat) : Int) - ((0 : Nat) : Int))).toNat) c31) ((min (max nn 0) (((n : Nat) : Int) - ((0 : Nat) : Int))).toNat) (ints .u8 ys) ∧ Upd (fun g => ((w2.heap.size ≤ g) ∧ g < w31.heap.size)) w34 w') _ ⟨0, (bs.drop 0).take ((min (max nn 0) (((n : Nat) : Int) - ((0 : Nat) : Int))).toNat), rfl, rfl, ⟨rfl, rfl, rfl, rfl, (by first | rfl | exact vint (by omega) | exact vint (by simp)), trivial⟩, (by omega), hO31, Upd.refl _ _⟩ ?_
        rintro m35 ρ35 ds35 w35 ⟨k, ys, rfl, rfl, hl35, hk, hO31, hU35⟩
        obtain ⟨ρ35x, rfl⟩ : ∃ ρx, ρ35 = upds ρx [(0, .slice a n c), (7, .pointer (some ⟨pb2, 0, none⟩)), (8, .int .i64 0), (9, .slice a31 ((min (max nn 0) (((n : Nat) : Int) - ((0 : Nat) : Int))).toNat) c31), (11, .int .i64 ((k : Nat) : Int))] := ⟨_, upds_self hl35⟩
        clear hl35
        have hzw35 := hU35.size
        replace hb := hb.upd hU35 (by intro x h1 h2; have h3 : x < w.heap.size := h1; have h4 : ((w2.heap.size ≤ x) ∧ x < w31.heap.size) := h2; omega)
        replace HU := HU.trans hU35 (by intro x hx; have hx2 : ((w2.heap.size ≤ x) ∧ x < w31.heap.size) := hx; show (False) ∨ w.heap.size ≤ x; omega)
        replace hO1 := hO1.upd hU35 (by intro x h1 h2; have h3 : ((w.heap.size ≤ x) ∧ x < w1.heap.size) := h1; have h4 : ((w2.heap.size ≤ x) ∧ x < w31.heap.size) := h2; omega)
        replace hp2 := hp2.upd hU35 (by intro hx; have hx2 : ((w2.heap.size ≤ pb2) ∧ pb2 < w31.heap.size) := hx; omega)
        replace hO2 := hO2.upd hU35 (by intro x h1 h2; have h3 : ((w1.heap.size ≤ x ∧ x ≠ pb2) ∧ x < w2.heap.size) := h1; have h4 : ((w2.heap.size ≤ x) ∧ x < w31.heap.size) := h2; omega)
        replace hT32 := hT32.upd hU35 (by intro x h1 h2; have h3 : x < w.heap.size := h1; have h4 : ((w2.heap.size ≤ x) ∧ x < w31.heap.size) := h2; omega)
        have HL35 := hU35
        refine W_seq ?_
        refine W_seq ?_
        refine W_region ?_
        refine Wl_v (r_mv (v := .int .i64 ((k : Nat) : Int)) rfl) ?_
        refine Wl_v (r_mv (v := .slice a31 ((min (max nn 0) (((n : Nat) : Int) - ((0 : Nat) : Int))).toNat) c31) rfl) ?_
        refine Wl_v (r_len Try.underlying22 rfl) ?_
        refine Wl_v (r_lt rfl rfl) ?_
        refine Wl_nil ?_
        by_cases q14 : ((k : Nat) : Int) < (((min (max nn 0) (((n : Nat) : Int) - ((0 : Nat) : Int))).toNat : Nat) : Int)
        · rw [decide_eq_true q14]
          refine W_cond_t rfl ?_
          refine W_skip ?_
          refine W_seq ?_
          refine W_block ?_
          refine W_region ?_
          refine Wl_v (r_mv (v := .slice a31 ((min (max nn 0) (((n : Nat) : Int) - ((0 : Nat) : Int))).toNat) c31) rfl) ?_
          refine Wl_v (r_mv (v := .int .i64 ((k : Nat) : Int)) rfl) ?_
          refine Wl_v (r_mv (v := .slice a31 ((min (max nn 0) (((n : Nat) : Int) - ((0 : Nat) : Int))).toNat) c31) rfl) ?_
          refine Wl_v (r_mv (v := .int .i64 ((k : Nat) : Int)) rfl) ?_
          refine Wl_idxi Try.underlying22 Try.sizeOf5 rfl rfl hO31.sl (by omega) (by omega) ?_
          intro ib36 io36 hc36
          refine Wl_loadc Try.isAgg5 rfl hc36 ?_
          refine Wl_v (r_add rfl rfl (mu8 _)) ?_
          obtain ⟨g37, rfl, hg37⟩ := hO31.addr (by omega)
          replace hg37 : ((w2.heap.size ≤ g37) ∧ g37 < w31.heap.size) := hg37
          refine Wl_idxo (i' := k) Try.underlying22 Try.sizeOf5 rfl rfl hO31 (by omega) (by omega) ?_
          intro hc38
          refine Wl_storeo (i := k) Try.sizeOf5 rfl rfl hO31 (by omega) ?_
          intro w39 hU39 hzz39 hO39
          clear hO31
          have hzw39 := hU39.size
          replace hb := hb.upd1 hU39 (by intro h1; have h3 : g37 < w.heap.size := h1; omega)
          replace HU := HU.trans1 hU39 (by show (False) ∨ w.heap.size ≤ g37; omega)
          replace hO1 := hO1.upd1 hU39 (by intro h1; have h3 : ((w.heap.size ≤ g37) ∧ g37 < w1.heap.size) := h1; omega)
          replace hp2 := hp2.upd1 hU39 (by omega)
          replace hO2 := hO2.upd1 hU39 (by intro h1; have h3 : ((w1.heap.size ≤ g37 ∧ g37 ≠ pb2) ∧ g37 < w2.heap.size) := h1; omega)
          replace hT32 := hT32.upd1 hU39 (by intro h1; have h3 : g37 < w.heap.size := h1; omega)
          replace HL35 := HL35.trans1 hU39 (by show (((w2.heap.size ≤ g37) ∧ g37 < w31.heap.size)) ∨ w34.heap.size ≤ g37; omega)
          have hl_hO39 := ilen hO39.sl
          have hc_hO39 := hO39.sl.cap.1
          refine Wl_nil ?_
          refine W_region ?_
          refine Wl_v (r_mv (v := .int .i64 ((k : Nat) : Int)) rfl) ?_
          refine Wl_v (r_add rfl rfl (wi64 (by omega) (by omega))) ?_
          refine Wl_v (r_as (v := .int .i64 (((k : Nat) : Int) + 1)) rfl) ?_
          refine Wl_nil ?_
          refine ⟨_, ?_, (k + 1), ys.set k (((ys.getD k 0) + 1) % 256), rfl, rfl, ⟨rfl, rfl, rfl, rfl, (by first | rfl | exact vint (by omega) | exact vint (by simp)), trivial⟩, (by omega), hO39, HL35⟩
          omega
        · rw [decide_eq_false q14]
          refine W_cond_f rfl ?_
          refine W_exit ?_
          refine W_seq ?_
          refine W_drawt rfl (l0 := #[false, false, false, false, false, false, false, false, false, false]) (by kernel_rfl) ?_
          refine Wt_take (i := 0) (listed' := #[true, false, false, false, false, false, false, false, false, false]) (by kernel_rfl) rfl (by kernel_rfl) (by kernel_rfl) (by kernel_rfl) (by kernel_rfl) (YI_v (v := .pointer (some ⟨pb2, 0, none⟩)) rfl (fun w' hw' => r_mv (v := .pointer (some ⟨pb2, 0, none⟩)) rfl)) ?_
          refine Wt_take (i := 2) (listed' := #[true, false, true, false, false, false, false, false, false, false]) (by kernel_rfl) rfl (by kernel_rfl) (by kernel_rfl) (by kernel_rfl) (by kernel_rfl) (YI_v (v := .slice a n c) rfl (fun w' hw' => r_mv (v := .slice a n c) rfl)) ?_
          refine Wt_take (i := 3) (listed' := #[true, false, true, true, false, false, false, false, false, false]) (by kernel_rfl) rfl (by kernel_rfl) (by kernel_rfl) (by kernel_rfl) (by kernel_rfl) (YI_v (v := .int .i64 0) rfl (fun w' hw' => r_mv (v := .int .i64 0) rfl)) ?_
          refine Wt_take (i := 4) (listed' := #[true, false, true, true, true, false, false, false, false, false]) (by kernel_rfl) rfl (by kernel_rfl) (by kernel_rfl) (by kernel_rfl) (by kernel_rfl) (YI_v (v := .slice (if c = 0 then a else a.map (·.add (0 * 1))) (n - 0) (c - 0)) rfl (fun w' hw' => r_slicelen (l' := 0) (n' := n - 0) Try.underlying22 Try.sizeOf5 rfl rfl (by omega) (by omega) (by omega))) ?_
          have hT40 := Sl.cutl (l := 0) (n := n - 0) hb (by omega) (by omega)
          have hl_hT40 := ilen hT40
          have hc_hT40 := hT40.cap.1
          intro w41 hU41
          have hzw41 := hU41.size
          replace hb := hb.upd0 hU41
          replace HU := HU.trans0 hU41
          replace hO1 := hO1.upd0 hU41
          replace hp2 := hp2.upd0 hU41
          replace hO2 := hO2.upd0 hU41
          replace hT32 := hT32.upd0 hU41
          replace hO31 := hO31.upd0 hU41
          replace HL35 := HL35.trans0 hU41
          replace hT40 := hT40.upd0 hU41
          refine Wa_one (i := 1) (listed' := #[true, true, true, true, true, false, false, false, false, false]) (by kernel_rfl) rfl (by kernel_rfl) ?_
          refine Ws_of_Wl ?_
          have hW : Upd No w35 w41 := hU41
          refine Wl_call (r_call1 rfl Try.call25 rfl) (rest_spec (p := 0) _ hp2 (hO2.sl.cur (by intro h1; have h3 : ((w1.heap.size ≤ pb2 ∧ pb2 ≠ pb2) ∧ pb2 < w2.heap.size) := h1; first | omega | simp at h3)) bb (by omega) (by omega)) ?_
          rintro v w42 ⟨a42, c42, rfl, hO42, hU42⟩
          have hzw42 := hU42.size
          replace hb := hb.upd0 hU42
          replace HU := HU.trans0 hU42
          replace hO1 := hO1.upd0 hU42
          replace hp2 := hp2.upd0 hU42
          replace hO2 := hO2.upd0 hU42
          replace hT32 := hT32.upd0 hU42
          replace hO31 := hO31.upd0 hU42
          replace HL35 := HL35.trans0 hU42
          replace hT40 := hT40.upd0 hU42
          try replace hW := hW.trans0 hU42
          replace hO42 := hO42.tight
          have hl_hO42 := ilen hO42.sl
          have hc_hO42 := hO42.sl.cap.1
          refine Wl_nil ?_
          intro w43 hS43
          have hX : Upd No w35 w43 := hW.trans0 hS43.upd
          refine ⟨fun _ => ⟨hX, ?_⟩, fun h => absurd h (by rw [show barOp _ 1 = false from by kernel_rfl]; simp)⟩
          have hU43 := hS43.upd
          have hzw43 := hU43.size
          replace hb := hb.upd0 hU43
          replace HU := HU.trans0 hU43
          replace hO1 := hO1.upd0 hU43
          replace hp2 := hp2.upd0 hU43
          replace hO2 := hO2.upd0 hU43
          replace hT32 := hT32.upd0 hU43
          replace hO31 := hO31.upd0 hU43
          replace HL35 := HL35.trans0 hU43
          replace hT40 := hT40.upd0 hU43
          replace hO42 := hO42.upd0 hU43
          try replace hW := hW.trans0 hU43
          refine Wt_base hX ?_
          refine Wt_take (i := 5) (listed' := #[true, true, true, true, true, true, false, false, false, false]) (by kernel_rfl) rfl (by kernel_rfl) (by kernel_rfl) (by kernel_rfl) (by kernel_rfl) (YI_c (v := .bool (decide ((bs.drop 0) = (bs.drop 0)))) rfl (fun w' => r_call2 rfl Try.call13 rfl rfl) (fun w' hw' => same_spec w' ((hO42.upd0 hw').sl.any) ((hT40.upd0 hw').any) (byt_drop bb _) (byt_drop bb _))) ?_
          refine Wt_take (i := 6) (listed' := #[true, true, true, true, true, true, true, false, false, false]) (by kernel_rfl) rfl (by kernel_rfl) (by kernel_rfl) (by kernel_rfl) (by kernel_rfl) (YI_v (v := .bool (decide ((bs.drop 0) = (bs.drop 0)))) rfl (fun w' hw' => r_mv (v := .bool (decide ((bs.drop 0) = (bs.drop 0)))) rfl)) ?_
          have q15 : (bs.drop 0) = (bs.drop 0) := (by first | rfl | exact dt_eq (by omega) (by omega) | exact d_eq (by omega))
          rw [decide_eq_true q15]
          refine Wt_take (i := 7) (listed' := #[true, true, true, true, true, true, true, true, false, false]) (by kernel_rfl) rfl (by kernel_rfl) (by kernel_rfl) (by kernel_rfl) (by kernel_rfl) (YI_c (v := .bool true) rfl (fun w' => r_call0 rfl Try.call19 ) (fun w' hw' => known_spec w' )) ?_
          refine Wt_take (i := 8) (listed' := #[true, true, true, true, true, true, true, true, true, false]) (by kernel_rfl) rfl (by kernel_rfl) (by kernel_rfl) (by kernel_rfl) (by kernel_rfl) (YI_v rfl (fun w' hw' => r_pick_t (v := .bool true) rfl rfl)) ?_
          refine Wt_take (i := 9) (listed' := #[true, true, true, true, true, true, true, true, true, true]) (by kernel_rfl) rfl (by kernel_rfl) (by kernel_rfl) (by kernel_rfl) (by kernel_rfl) (YI_v (v := .bool true) rfl (fun w' hw' => r_as (v := .bool true) rfl)) ?_
          intro w44 hU44
          have hzw44 := hU44.size
          replace hb := hb.upd0 hU44
          replace HU := HU.trans0 hU44
          replace hO1 := hO1.upd0 hU44
          replace hp2 := hp2.upd0 hU44
          replace hO2 := hO2.upd0 hU44
          replace hT32 := hT32.upd0 hU44
          replace hO31 := hO31.upd0 hU44
          replace HL35 := HL35.trans0 hU44
          replace hT40 := hT40.upd0 hU44
          replace hO42 := hO42.upd0 hU44
          try replace hW := hW.trans0 hU44
          refine Wa_done (by kernel_rfl) ?_
          refine W_ret ?_
          refine ret_end (v := .bool true) rfl (res1 Try.results8 rfl) ?_
          exact ⟨_, rfl, rfl, HU⟩
      · rw [decide_eq_false q12]
        refine W_cond_f rfl ?_
        refine W_skip ?_
        refine W_seq ?_
        refine W_seq ?_
        refine W_region ?_
        refine Wl_v (r_mv (v := .slice a31 ((min (max nn 0) (((n : Nat) : Int) - ((0 : Nat) : Int))).toNat) c31) rfl) ?_
        refine Wl_v (r_mv (v := .slice a n c) rfl) ?_
        refine Wl_v (r_mv (v := .int .i64 0) rfl) ?_
        refine Wl_v (r_mv (v := .int .i64 0) rfl) ?_
        refine Wl_v (r_mv (v := .int .i64 (max nn 0)) rfl) ?_
        refine Wl_v (r_add rfl rfl (wi64 (by omega) (by omega))) ?_
        refine Wl_v (r_slicen (l' := 0) (h' := (0 + (max nn 0)).toNat) (n' := (0 + (max nn 0)).toNat - 0) Try.underlying22 Try.sizeOf5 rfl rfl rfl (by omega) (by omega) (by omega) (by omega) (by omega)) ?_
        have hT45 := Sl.cutn (l := 0) (n := (0 + (max nn 0)).toNat - 0) hb (by omega)
        have hl_hT45 := ilen hT45
        have hc_hT45 := hT45.cap.1
        refine Wl_call (r_call2 rfl Try.call13 rfl rfl) (same_spec _ hO31.sl.any hT45.any (byt_take (byt_drop bb _) _) (byt_take (byt_drop bb _) _)) ?_
        rintro v w46 ⟨rfl, hU46⟩
        have hzw46 := hU46.size
        replace hb := hb.upd0 hU46
        replace HU := HU.trans0 hU46
        replace hO1 := hO1.upd0 hU46
        replace hp2 := hp2.upd0 hU46
        replace hO2 := hO2.upd0 hU46
        replace hO31 := hO31.upd0 hU46
        replace hT45 := hT45.upd0 hU46
        refine Wl_v (r_not rfl) ?_
        refine Wl_v (r_mv (v := .bool (!decide (((bs.drop 0).take ((min (max nn 0) (((n : Nat) : Int) - ((0 : Nat) : Int))).toNat)) = ((bs.drop 0).take ((0 + (max nn 0)).toNat - 0))))) rfl) ?_
        have q16 : ((bs.drop 0).take ((min (max nn 0) (((n : Nat) : Int) - ((0 : Nat) : Int))).toNat)) = ((bs.drop 0).take ((0 + (max nn 0)).toNat - 0)) := (by first | rfl | exact dt_eq (by omega) (by omega) | exact d_eq (by omega))
        rw [decide_eq_true q16]
        simp only [Bool.not_true, Bool.not_false]
        refine Wl_guard_t rfl ?_
        refine Wl_v (r_mv (v := .pointer (some ⟨pb2, 0, none⟩)) rfl) ?_
        refine Wl_guard_t rfl ?_
        refine Wl_call (r_call1 rfl Try.call24 rfl) (at_spec _ hp2 (by omega) (by omega) (by omega)) ?_
        rintro v w47 ⟨rfl, hU47⟩
        have hzw47 := hU47.size
        replace hb := hb.upd0 hU47
        replace HU := HU.trans0 hU47
        replace hO1 := hO1.upd0 hU47
        replace hp2 := hp2.upd0 hU47
        replace hO2 := hO2.upd0 hU47
        replace hO31 := hO31.upd0 hU47
        replace hT45 := hT45.upd0 hU47
        refine Wl_guard_t rfl ?_
        refine Wl_v (r_mv (v := .int .i64 0) rfl) ?_
        refine Wl_guard_t rfl ?_
        refine Wl_v (v := .bool false) (r_ne (a := 0) (b := 0) rfl rfl) ?_
        refine Wl_v (r_pick_f (v := .bool false) rfl rfl) ?_
        refine Wl_nil ?_
        refine W_cond_f rfl ?_
        refine W_skip ?_
        refine W_seq ?_
        refine W_seq ?_
        refine W_region ?_
        refine Wl_v (r_as (v := .int .i64 0) rfl) ?_
        refine Wl_nil ?_
        refine W_block ?_
        refine W_loop (fun mu ρ ds w' => ∃ (k : Nat) (ys : List Int), ((min (max nn 0) (((n : Nat) : Int) - ((0 : Nat) : Int))).toNat) - k = mu ∧ ds = [] ∧ Liv ρ [(0, .slice a n c), (7, .pointer (some ⟨pb2, 0, none⟩)), (8, .int .i64 0), (9, .slice a31 ((min (max nn 0) (((n : Nat) : Int) - ((0 : Nat) : Int))).toNat) c31), (11, .int .i64 ((k : Nat) : Int))] ∧ k ≤ (min (max nn 0) (((n : Nat) : Int) - ((0 : Nat) : Int))).toNat ∧ Own w' (fun g => ((w2.heap.size ≤ g) ∧ g < w31.heap.size)) 5 1 (.slice a31 ((min (max nn 0) (((n : Nat) : Int) - ((0 : Nat) : Int))).toNat) c31) ((min (max nn 0) (((n : Nat) : Int) - ((0 : Nat) : Int))).toNat) (ints .u8 ys) ∧ Upd (fun g => ((w2.heap.size ≤ g) ∧ g < w31.heap.size)) w47 w') _ ⟨0, (bs.drop 0).take ((min (max nn 0) (((n : Nat) : Int) - ((0 : Nat) : Int))).toNat), rfl, rfl, ⟨rfl, rfl, rfl, rfl, (by first | rfl | exact vint (by omega) | exact vint (by simp)), trivial⟩, (by omega), hO31, Upd.refl _ _⟩ ?_
        rintro m48 ρ48 ds48 w48 ⟨k, ys, rfl, rfl, hl48, hk, hO31, hU48⟩
        obtain ⟨ρ48x, rfl⟩ : ∃ ρx, ρ48 = upds ρx [(0, .slice a n c), (7, .pointer (some ⟨pb2, 0, none⟩)), (8, .int .i64 0), (9, .slice a31 ((min (max nn 0) (((n : Nat) : Int) - ((0 : Nat) : Int))).toNat) c31), (11, .int .i64 ((k : Nat) : Int))] := ⟨_, upds_self hl48⟩
        clear hl48
        have hzw48 := hU48.size
        replace hb := hb.upd hU48 (by intro x h1 h2; have h3 : x < w.heap.size := h1; have h4 : ((w2.heap.size ≤ x) ∧ x < w31.heap.size) := h2; omega)
        replace HU := HU.trans hU48 (by intro x hx; have hx2 : ((w2.heap.size ≤ x) ∧ x < w31.heap.size) := hx; show (False) ∨ w.heap.size ≤ x; omega)
        replace hO1 := hO1.upd hU48 (by intro x h1 h2; have h3 : ((w.heap.size ≤ x) ∧ x < w1.heap.size) := h1; have h4 : ((w2.heap.size ≤ x) ∧ x < w31.heap.size) := h2; omega)
        replace hp2 := hp2.upd hU48 (by intro hx; have hx2 : ((w2.heap.size ≤ pb2) ∧ pb2 < w31.heap.size) := hx; omega)
        replace hO2 := hO2.upd hU48 (by intro x h1 h2; have h3 : ((w1.heap.size ≤ x ∧ x ≠ pb2) ∧ x < w2.heap.size) := h1; have h4 : ((w2.heap.size ≤ x) ∧ x < w31.heap.size) := h2; omega)
        replace hT45 := hT45.upd hU48 (by intro x h1 h2; have h3 : x < w.heap.size := h1; have h4 : ((w2.heap.size ≤ x) ∧ x < w31.heap.size) := h2; omega)
        have HL48 := hU48
        refine W_seq ?_
        refine W_seq ?_
        refine W_region ?_
        refine Wl_v (r_mv (v := .int .i64 ((k : Nat) : Int)) rfl) ?_
        refine Wl_v (r_mv (v := .slice a31 ((min (max nn 0) (((n : Nat) : Int) - ((0 : Nat) : Int))).toNat) c31) rfl) ?_
        refine Wl_v (r_len Try.underlying22 rfl) ?_
        refine Wl_v (r_lt rfl rfl) ?_
        refine Wl_nil ?_
        by_cases q17 : ((k : Nat) : Int) < (((min (max nn 0) (((n : Nat) : Int) - ((0 : Nat) : Int))).toNat : Nat) : Int)
        · rw [decide_eq_true q17]
          refine W_cond_t rfl ?_
          refine W_skip ?_
          refine W_seq ?_
          refine W_block ?_
          refine W_region ?_
          refine Wl_v (r_mv (v := .slice a31 ((min (max nn 0) (((n : Nat) : Int) - ((0 : Nat) : Int))).toNat) c31) rfl) ?_
          refine Wl_v (r_mv (v := .int .i64 ((k : Nat) : Int)) rfl) ?_
          refine Wl_v (r_mv (v := .slice a31 ((min (max nn 0) (((n : Nat) : Int) - ((0 : Nat) : Int))).toNat) c31) rfl) ?_
          refine Wl_v (r_mv (v := .int .i64 ((k : Nat) : Int)) rfl) ?_
          refine Wl_idxi Try.underlying22 Try.sizeOf5 rfl rfl hO31.sl (by omega) (by omega) ?_
          intro ib49 io49 hc49
          refine Wl_loadc Try.isAgg5 rfl hc49 ?_
          refine Wl_v (r_add rfl rfl (mu8 _)) ?_
          obtain ⟨g50, rfl, hg50⟩ := hO31.addr (by omega)
          replace hg50 : ((w2.heap.size ≤ g50) ∧ g50 < w31.heap.size) := hg50
          refine Wl_idxo (i' := k) Try.underlying22 Try.sizeOf5 rfl rfl hO31 (by omega) (by omega) ?_
          intro hc51
          refine Wl_storeo (i := k) Try.sizeOf5 rfl rfl hO31 (by omega) ?_
          intro w52 hU52 hzz52 hO52
          clear hO31
          have hzw52 := hU52.size
          replace hb := hb.upd1 hU52 (by intro h1; have h3 : g50 < w.heap.size := h1; omega)
          replace HU := HU.trans1 hU52 (by show (False) ∨ w.heap.size ≤ g50; omega)
          replace hO1 := hO1.upd1 hU52 (by intro h1; have h3 : ((w.heap.size ≤ g50) ∧ g50 < w1.heap.size) := h1; omega)
          replace hp2 := hp2.upd1 hU52 (by omega)
          replace hO2 := hO2.upd1 hU52 (by intro h1; have h3 : ((w1.heap.size ≤ g50 ∧ g50 ≠ pb2) ∧ g50 < w2.heap.size) := h1; omega)
          replace hT45 := hT45.upd1 hU52 (by intro h1; have h3 : g50 < w.heap.size := h1; omega)
          replace HL48 := HL48.trans1 hU52 (by show (((w2.heap.size ≤ g50) ∧ g50 < w31.heap.size)) ∨ w47.heap.size ≤ g50; omega)
          have hl_hO52 := ilen hO52.sl
          have hc_hO52 := hO52.sl.cap.1
          refine Wl_nil ?_
          refine W_region ?_
          refine Wl_v (r_mv (v := .int .i64 ((k : Nat) : Int)) rfl) ?_
          refine Wl_v (r_add rfl rfl (wi64 (by omega) (by omega))) ?_
          refine Wl_v (r_as (v := .int .i64 (((k : Nat) : Int) + 1)) rfl) ?_
          refine Wl_nil ?_
          refine ⟨_, ?_, (k + 1), ys.set k (((ys.getD k 0) + 1) % 256), rfl, rfl, ⟨rfl, rfl, rfl, rfl, (by first | rfl | exact vint (by omega) | exact vint (by simp)), trivial⟩, (by omega), hO52, HL48⟩
          omega
        · rw [decide_eq_false q17]
          refine W_cond_f rfl ?_
          refine W_exit ?_
          refine W_seq ?_
          refine W_drawt rfl (l0 := #[false, false, false, false, false, false, false, false, false, false]) (by kernel_rfl) ?_
          refine Wt_take (i := 0) (listed' := #[true, false, false, false, false, false, false, false, false, false]) (by kernel_rfl) rfl (by kernel_rfl) (by kernel_rfl) (by kernel_rfl) (by kernel_rfl) (YI_v (v := .pointer (some ⟨pb2, 0, none⟩)) rfl (fun w' hw' => r_mv (v := .pointer (some ⟨pb2, 0, none⟩)) rfl)) ?_
          refine Wt_take (i := 2) (listed' := #[true, false, true, false, false, false, false, false, false, false]) (by kernel_rfl) rfl (by kernel_rfl) (by kernel_rfl) (by kernel_rfl) (by kernel_rfl) (YI_v (v := .slice a n c) rfl (fun w' hw' => r_mv (v := .slice a n c) rfl)) ?_
          refine Wt_take (i := 3) (listed' := #[true, false, true, true, false, false, false, false, false, false]) (by kernel_rfl) rfl (by kernel_rfl) (by kernel_rfl) (by kernel_rfl) (by kernel_rfl) (YI_v (v := .int .i64 0) rfl (fun w' hw' => r_mv (v := .int .i64 0) rfl)) ?_
          refine Wt_take (i := 4) (listed' := #[true, false, true, true, true, false, false, false, false, false]) (by kernel_rfl) rfl (by kernel_rfl) (by kernel_rfl) (by kernel_rfl) (by kernel_rfl) (YI_v (v := .slice (if c = 0 then a else a.map (·.add (0 * 1))) (n - 0) (c - 0)) rfl (fun w' hw' => r_slicelen (l' := 0) (n' := n - 0) Try.underlying22 Try.sizeOf5 rfl rfl (by omega) (by omega) (by omega))) ?_
          have hT53 := Sl.cutl (l := 0) (n := n - 0) hb (by omega) (by omega)
          have hl_hT53 := ilen hT53
          have hc_hT53 := hT53.cap.1
          intro w54 hU54
          have hzw54 := hU54.size
          replace hb := hb.upd0 hU54
          replace HU := HU.trans0 hU54
          replace hO1 := hO1.upd0 hU54
          replace hp2 := hp2.upd0 hU54
          replace hO2 := hO2.upd0 hU54
          replace hT45 := hT45.upd0 hU54
          replace hO31 := hO31.upd0 hU54
          replace HL48 := HL48.trans0 hU54
          replace hT53 := hT53.upd0 hU54
          refine Wa_one (i := 1) (listed' := #[true, true, true, true, true, false, false, false, false, false]) (by kernel_rfl) rfl (by kernel_rfl) ?_
          refine Ws_of_Wl ?_
          have hW : Upd No w48 w54 := hU54
          refine Wl_call (r_call1 rfl Try.call25 rfl) (rest_spec (p := 0) _ hp2 (hO2.sl.cur (by intro h1; have h3 : ((w1.heap.size ≤ pb2 ∧ pb2 ≠ pb2) ∧ pb2 < w2.heap.size) := h1; first | omega | simp at h3)) bb (by omega) (by omega)) ?_
          rintro v w55 ⟨a55, c55, rfl, hO55, hU55⟩
          have hzw55 := hU55.size
          replace hb := hb.upd0 hU55
          replace HU := HU.trans0 hU55
          replace hO1 := hO1.upd0 hU55
          replace hp2 := hp2.upd0 hU55
          replace hO2 := hO2.upd0 hU55
          replace hT45 := hT45.upd0 hU55
          replace hO31 := hO31.upd0 hU55
          replace HL48 := HL48.trans0 hU55
          replace hT53 := hT53.upd0 hU55
          try replace hW := hW.trans0 hU55
          replace hO55 := hO55.tight
          have hl_hO55 := ilen hO55.sl
          have hc_hO55 := hO55.sl.cap.1
          refine Wl_nil ?_
          intro w56 hS56
          have hX : Upd No w48 w56 := hW.trans0 hS56.upd
          refine ⟨fun _ => ⟨hX, ?_⟩, fun h => absurd h (by rw [show barOp _ 1 = false from by kernel_rfl]; simp)⟩
          have hU56 := hS56.upd
          have hzw56 := hU56.size
          replace hb := hb.upd0 hU56
          replace HU := HU.trans0 hU56
          replace hO1 := hO1.upd0 hU56
          replace hp2 := hp2.upd0 hU56
          replace hO2 := hO2.upd0 hU56
          replace hT45 := hT45.upd0 hU56
          replace hO31 := hO31.upd0 hU56
          replace HL48 := HL48.trans0 hU56
          replace hT53 := hT53.upd0 hU56
          replace hO55 := hO55.upd0 hU56
          try replace hW := hW.trans0 hU56
          refine Wt_base hX ?_
          refine Wt_take (i := 5) (listed' := #[true, true, true, true, true, true, false, false, false, false]) (by kernel_rfl) rfl (by kernel_rfl) (by kernel_rfl) (by kernel_rfl) (by kernel_rfl) (YI_c (v := .bool (decide ((bs.drop 0) = (bs.drop 0)))) rfl (fun w' => r_call2 rfl Try.call13 rfl rfl) (fun w' hw' => same_spec w' ((hO55.upd0 hw').sl.any) ((hT53.upd0 hw').any) (byt_drop bb _) (byt_drop bb _))) ?_
          refine Wt_take (i := 6) (listed' := #[true, true, true, true, true, true, true, false, false, false]) (by kernel_rfl) rfl (by kernel_rfl) (by kernel_rfl) (by kernel_rfl) (by kernel_rfl) (YI_v (v := .bool (decide ((bs.drop 0) = (bs.drop 0)))) rfl (fun w' hw' => r_mv (v := .bool (decide ((bs.drop 0) = (bs.drop 0)))) rfl)) ?_
          have q18 : (bs.drop 0) = (bs.drop 0) := (by first | rfl | exact dt_eq (by omega) (by omega) | exact d_eq (by omega))
          rw [decide_eq_true q18]
          refine Wt_take (i := 7) (listed' := #[true, true, true, true, true, true, true, true, false, false]) (by kernel_rfl) rfl (by kernel_rfl) (by kernel_rfl) (by kernel_rfl) (by kernel_rfl) (YI_c (v := .bool true) rfl (fun w' => r_call0 rfl Try.call19 ) (fun w' hw' => known_spec w' )) ?_
          refine Wt_take (i := 8) (listed' := #[true, true, true, true, true, true, true, true, true, false]) (by kernel_rfl) rfl (by kernel_rfl) (by kernel_rfl) (by kernel_rfl) (by kernel_rfl) (YI_v rfl (fun w' hw' => r_pick_t (v := .bool true) rfl rfl)) ?_
          refine Wt_take (i := 9) (listed' := #[true, true, true, true, true, true, true, true, true, true]) (by kernel_rfl) rfl (by kernel_rfl) (by kernel_rfl) (by kernel_rfl) (by kernel_rfl) (YI_v (v := .bool true) rfl (fun w' hw' => r_as (v := .bool true) rfl)) ?_
          intro w57 hU57
          have hzw57 := hU57.size
          replace hb := hb.upd0 hU57
          replace HU := HU.trans0 hU57
          replace hO1 := hO1.upd0 hU57
          replace hp2 := hp2.upd0 hU57
          replace hO2 := hO2.upd0 hU57
          replace hT45 := hT45.upd0 hU57
          replace hO31 := hO31.upd0 hU57
          replace HL48 := HL48.trans0 hU57
          replace hT53 := hT53.upd0 hU57
          replace hO55 := hO55.upd0 hU57
          try replace hW := hW.trans0 hU57
          refine Wa_done (by kernel_rfl) ?_
          refine W_ret ?_
          refine ret_end (v := .bool true) rfl (res1 Try.results8 rfl) ?_
          exact ⟨_, rfl, rfl, HU⟩
  · rw [decide_eq_false q1]
    refine Wl_guard_f rfl ?_
    refine Wl_guard_f rfl ?_
    refine Wl_guard_f rfl ?_
    refine Wl_guard_f rfl ?_
    refine Wl_v (r_pick_f (v := .bool false) rfl rfl) ?_
    refine Wl_nil ?_
    refine W_cond_f rfl ?_
    refine W_skip ?_
    refine W_seq ?_
    refine W_region ?_
    refine Wl_v (r_mv (v := .pointer (some ⟨pb2, 0, none⟩)) rfl) ?_
    refine Wl_v (r_mv (v := .int .i64 nn) rfl) ?_
    refine Wl_call (r_call2 rfl Try.call27 rfl rfl) (peek_spec (t := (min (max nn 0) (((n : Nat) : Int) - ((0 : Nat) : Int))).toNat) (p := 0) _ hp2 (hO2.sl.cur (by intro h1; have h3 : ((w1.heap.size ≤ pb2 ∧ pb2 ≠ pb2) ∧ pb2 < w2.heap.size) := h1; first | omega | simp at h3)) bb (by omega) (by omega) (by omega)) ?_
    rintro v w58 ⟨a58, c58, rfl, hO58, hU58⟩
    have hzw58 := hU58.size
    replace hb := hb.upd0 hU58
    replace HU := HU.trans0 hU58
    replace hO1 := hO1.upd0 hU58
    replace hp2 := hp2.upd0 hU58
    replace hO2 := hO2.upd0 hU58
    replace hO58 := hO58.tight
    have hl_hO58 := ilen hO58.sl
    have hc_hO58 := hO58.sl.cap.1
    refine Wl_v (r_as (v := .slice a58 ((min (max nn 0) (((n : Nat) : Int) - ((0 : Nat) : Int))).toNat) c58) rfl) ?_
    refine Wl_nil ?_
    refine W_seq ?_
    refine W_region ?_
    refine Wl_v (r_mv (v := .int .i64 nn) rfl) ?_
    refine Wl_v (r_max rfl rfl) ?_
    refine Wl_v (r_as (v := .int .i64 (max nn 0)) rfl) ?_
    refine Wl_nil ?_
    refine W_seq ?_
    refine W_seq ?_
    refine W_region ?_
    refine Wl_v (r_mv (v := .int .i64 (max nn 0)) rfl) ?_
    refine Wl_v (r_mv (v := .slice a n c) rfl) ?_
    refine Wl_v (r_len Try.underlying22 rfl) ?_
    refine Wl_v (r_mv (v := .int .i64 0) rfl) ?_
    refine Wl_v (r_sub rfl rfl (wi64 (by omega) (by omega))) ?_
    refine Wl_v (r_gt rfl rfl) ?_
    refine Wl_nil ?_
    by_cases q19 : (((n : Nat) : Int) - 0) < (max nn 0)
    · rw [decide_eq_true q19]
      refine W_cond_t rfl ?_
      refine W_region ?_
      refine Wl_v (r_mv (v := .slice a n c) rfl) ?_
      refine Wl_v (r_len Try.underlying22 rfl) ?_
      refine Wl_v (r_mv (v := .int .i64 0) rfl) ?_
      refine Wl_v (r_sub rfl rfl (wi64 (by omega) (by omega))) ?_
      refine Wl_v (r_as (v := .int .i64 (((n : Nat) : Int) - 0)) rfl) ?_
      refine Wl_nil ?_
      refine W_seq ?_
      refine W_seq ?_
      refine W_region ?_
      refine Wl_v (r_mv (v := .slice a58 ((min (max nn 0) (((n : Nat) : Int) - ((0 : Nat) : Int))).toNat) c58) rfl) ?_
      refine Wl_v (r_mv (v := .slice a n c) rfl) ?_
      refine Wl_v (r_mv (v := .int .i64 0) rfl) ?_
      refine Wl_v (r_mv (v := .int .i64 0) rfl) ?_
      refine Wl_v (r_mv (v := .int .i64 (((n : Nat) : Int) - 0)) rfl) ?_
      refine Wl_v (r_add rfl rfl (wi64 (by omega) (by omega))) ?_
      refine Wl_v (r_slicen (l' := 0) (h' := (0 + (((n : Nat) : Int) - 0)).toNat) (n' := (0 + (((n : Nat) : Int) - 0)).toNat - 0) Try.underlying22 Try.sizeOf5 rfl rfl rfl (by omega) (by omega) (by omega) (by omega) (by omega)) ?_
      have hT59 := Sl.cutn (l := 0) (n := (0 + (((n : Nat) : Int) - 0)).toNat - 0) hb (by omega)
      have hl_hT59 := ilen hT59
      have hc_hT59 := hT59.cap.1
      refine Wl_call (r_call2 rfl Try.call13 rfl rfl) (same_spec _ hO58.sl.any hT59.any (byt_take (byt_drop bb _) _) (byt_take (byt_drop bb _) _)) ?_
      rintro v w60 ⟨rfl, hU60⟩
      have hzw60 := hU60.size
      replace hb := hb.upd0 hU60
      replace HU := HU.trans0 hU60
      replace hO1 := hO1.upd0 hU60
      replace hp2 := hp2.upd0 hU60
      replace hO2 := hO2.upd0 hU60
      replace hO58 := hO58.upd0 hU60
      replace hT59 := hT59.upd0 hU60
      refine Wl_v (r_not rfl) ?_
      refine Wl_v (r_mv (v := .bool (!decide (((bs.drop 0).take ((min (max nn 0) (((n : Nat) : Int) - ((0 : Nat) : Int))).toNat)) = ((bs.drop 0).take ((0 + (((n : Nat) : Int) - 0)).toNat - 0))))) rfl) ?_
      have q20 : ((bs.drop 0).take ((min (max nn 0) (((n : Nat) : Int) - ((0 : Nat) : Int))).toNat)) = ((bs.drop 0).take ((0 + (((n : Nat) : Int) - 0)).toNat - 0)) := (by first | rfl | exact dt_eq (by omega) (by omega) | exact d_eq (by omega))
      rw [decide_eq_true q20]
      simp only [Bool.not_true, Bool.not_false]
      refine Wl_guard_t rfl ?_
      refine Wl_v (r_mv (v := .pointer (some ⟨pb2, 0, none⟩)) rfl) ?_
      refine Wl_guard_t rfl ?_
      refine Wl_call (r_call1 rfl Try.call24 rfl) (at_spec _ hp2 (by omega) (by omega) (by omega)) ?_
      rintro v w61 ⟨rfl, hU61⟩
      have hzw61 := hU61.size
      replace hb := hb.upd0 hU61
      replace HU := HU.trans0 hU61
      replace hO1 := hO1.upd0 hU61
      replace hp2 := hp2.upd0 hU61
      replace hO2 := hO2.upd0 hU61
      replace hO58 := hO58.upd0 hU61
      replace hT59 := hT59.upd0 hU61
      refine Wl_guard_t rfl ?_
      refine Wl_v (r_mv (v := .int .i64 0) rfl) ?_
      refine Wl_guard_t rfl ?_
      refine Wl_v (v := .bool false) (r_ne (a := 0) (b := 0) rfl rfl) ?_
      refine Wl_v (r_pick_f (v := .bool false) rfl rfl) ?_
      refine Wl_nil ?_
      refine W_cond_f rfl ?_
      refine W_skip ?_
      refine W_seq ?_
      refine W_seq ?_
      refine W_region ?_
      refine Wl_v (r_as (v := .int .i64 0) rfl) ?_
      refine Wl_nil ?_
      refine W_block ?_
      refine W_loop (fun mu ρ ds w' => ∃ (k : Nat) (ys : List Int), ((min (max nn 0) (((n : Nat) : Int) - ((0 : Nat) : Int))).toNat) - k = mu ∧ ds = [] ∧ Liv ρ [(0, .slice a n c), (7, .pointer (some ⟨pb2, 0, none⟩)), (8, .int .i64 0), (9, .slice a58 ((min (max nn 0) (((n : Nat) : Int) - ((0 : Nat) : Int))).toNat) c58), (11, .int .i64 ((k : Nat) : Int))] ∧ k ≤ (min (max nn 0) (((n : Nat) : Int) - ((0 : Nat) : Int))).toNat ∧ Own w' (fun g => ((w2.heap.size ≤ g) ∧ g < w58.heap.size)) 5 1 (.slice a58 ((min (max nn 0) (((n : Nat) : Int) - ((0 : Nat) : Int))).toNat) c58) ((min (max nn 0) (((n : Nat) : Int) - ((0 : Nat) : Int))).toNat) (ints .u8 ys) ∧ Upd (fun g => ((w2.heap.size ≤ g) ∧ g < w58.heap.size)) w61 w') _ ⟨0, (bs.drop 0).take ((min (max nn 0) (((n : Nat) : Int) - ((0 : Nat) : Int))).toNat), rfl, rfl, ⟨rfl, rfl, rfl, rfl, (by first | rfl | exact vint (by omega) | exact vint (by simp)), trivial⟩, (by omega), hO58, Upd.refl _ _⟩ ?_
      rintro m62 ρ62 ds62 w62 ⟨k, ys, rfl, rfl, hl62, hk, hO58, hU62⟩
      obtain ⟨ρ62x, rfl⟩ : ∃ ρx, ρ62 = upds ρx [(0, .slice a n c), (7, .pointer (some ⟨pb2, 0, none⟩)), (8, .int .i64 0), (9, .slice a58 ((min (max nn 0) (((n : Nat) : Int) - ((0 : Nat) : Int))).toNat) c58), (11, .int .i64 ((k : Nat) : Int))] := ⟨_, upds_self hl62⟩
      clear hl62
      have hzw62 := hU62.size
      replace hb := hb.upd hU62 (by intro x h1 h2; have h3 : x < w.heap.size := h1; have h4 : ((w2.heap.size ≤ x) ∧ x < w58.heap.size) := h2; omega)
      replace HU := HU.trans hU62 (by intro x hx; have hx2 : ((w2.heap.size ≤ x) ∧ x < w58.heap.size) := hx; show (False) ∨ w.heap.size ≤ x; omega)
      replace hO1 := hO1.upd hU62 (by intro x h1 h2; have h3 : ((w.heap.size ≤ x) ∧ x < w1.heap.size) := h1; have h4 : ((w2.heap.size ≤ x) ∧ x < w58.heap.size) := h2; omega)
      replace hp2 := hp2.upd hU62 (by intro hx; have hx2 : ((w2.heap.size ≤ pb2) ∧ pb2 < w58.heap.size) := hx; omega)
      replace hO2 := hO2.upd hU62 (by intro x h1 h2; have h3 : ((w1.heap.size ≤ x ∧ x ≠ pb2) ∧ x < w2.heap.size) := h1; have h4 : ((w2.heap.size ≤ x) ∧ x < w58.heap.size) := h2; omega)
      replace hT59 := hT59.upd hU62 (by intro x h1 h2; have h3 : x < w.heap.size := h1; have h4 : ((w2.heap.size ≤ x) ∧ x < w58.heap.size) := h2; omega)
      have HL62 := hU62
      refine W_seq ?_
      refine W_seq ?_
      refine W_region ?_
      refine Wl_v (r_mv (v := .int .i64 ((k : Nat) : Int)) rfl) ?_
      refine Wl_v (r_mv (v := .slice a58 ((min (max nn 0) (((n : Nat) : Int) - ((0 : Nat) : Int))).toNat) c58) rfl) ?_
      refine Wl_v (r_len Try.underlying22 rfl) ?_
      refine Wl_v (r_lt rfl rfl) ?_
      refine Wl_nil ?_
      by_cases q21 : ((k : Nat) : Int) < (((min (max nn 0) (((n : Nat) : Int) - ((0 : Nat) : Int))).toNat : Nat) : Int)
      · rw [decide_eq_true q21]
        refine W_cond_t rfl ?_
        refine W_skip ?_
        refine W_seq ?_
        refine W_block ?_
        refine W_region ?_
        refine Wl_v (r_mv (v := .slice a58 ((min (max nn 0) (((n : Nat) : Int) - ((0 : Nat) : Int))).toNat) c58) rfl) ?_
        refine Wl_v (r_mv (v := .int .i64 ((k : Nat) : Int)) rfl) ?_
        refine Wl_v (r_mv (v := .slice a58 ((min (max nn 0) (((n : Nat) : Int) - ((0 : Nat) : Int))).toNat) c58) rfl) ?_
        refine Wl_v (r_mv (v := .int .i64 ((k : Nat) : Int)) rfl) ?_
        refine Wl_idxi Try.underlying22 Try.sizeOf5 rfl rfl hO58.sl (by omega) (by omega) ?_
        intro ib63 io63 hc63
        refine Wl_loadc Try.isAgg5 rfl hc63 ?_
        refine Wl_v (r_add rfl rfl (mu8 _)) ?_
        obtain ⟨g64, rfl, hg64⟩ := hO58.addr (by omega)
        replace hg64 : ((w2.heap.size ≤ g64) ∧ g64 < w58.heap.size) := hg64
        refine Wl_idxo (i' := k) Try.underlying22 Try.sizeOf5 rfl rfl hO58 (by omega) (by omega) ?_
        intro hc65
        refine Wl_storeo (i := k) Try.sizeOf5 rfl rfl hO58 (by omega) ?_
        intro w66 hU66 hzz66 hO66
        clear hO58
        have hzw66 := hU66.size
        replace hb := hb.upd1 hU66 (by intro h1; have h3 : g64 < w.heap.size := h1; omega)
        replace HU := HU.trans1 hU66 (by show (False) ∨ w.heap.size ≤ g64; omega)
        replace hO1 := hO1.upd1 hU66 (by intro h1; have h3 : ((w.heap.size ≤ g64) ∧ g64 < w1.heap.size) := h1; omega)
        replace hp2 := hp2.upd1 hU66 (by omega)
        replace hO2 := hO2.upd1 hU66 (by intro h1; have h3 : ((w1.heap.size ≤ g64 ∧ g64 ≠ pb2) ∧ g64 < w2.heap.size) := h1; omega)
        replace hT59 := hT59.upd1 hU66 (by intro h1; have h3 : g64 < w.heap.size := h1; omega)
        replace HL62 := HL62.trans1 hU66 (by show (((w2.heap.size ≤ g64) ∧ g64 < w58.heap.size)) ∨ w61.heap.size ≤ g64; omega)
        have hl_hO66 := ilen hO66.sl
        have hc_hO66 := hO66.sl.cap.1
        refine Wl_nil ?_
        refine W_region ?_
        refine Wl_v (r_mv (v := .int .i64 ((k : Nat) : Int)) rfl) ?_
        refine Wl_v (r_add rfl rfl (wi64 (by omega) (by omega))) ?_
        refine Wl_v (r_as (v := .int .i64 (((k : Nat) : Int) + 1)) rfl) ?_
        refine Wl_nil ?_
        refine ⟨_, ?_, (k + 1), ys.set k (((ys.getD k 0) + 1) % 256), rfl, rfl, ⟨rfl, rfl, rfl, rfl, (by first | rfl | exact vint (by omega) | exact vint (by simp)), trivial⟩, (by omega), hO66, HL62⟩
        omega
      · rw [decide_eq_false q21]
        refine W_cond_f rfl ?_
        refine W_exit ?_
        refine W_seq ?_
        refine W_drawt rfl (l0 := #[false, false, false, false, false, false, false, false, false, false]) (by kernel_rfl) ?_
        refine Wt_take (i := 0) (listed' := #[true, false, false, false, false, false, false, false, false, false]) (by kernel_rfl) rfl (by kernel_rfl) (by kernel_rfl) (by kernel_rfl) (by kernel_rfl) (YI_v (v := .pointer (some ⟨pb2, 0, none⟩)) rfl (fun w' hw' => r_mv (v := .pointer (some ⟨pb2, 0, none⟩)) rfl)) ?_
        refine Wt_take (i := 2) (listed' := #[true, false, true, false, false, false, false, false, false, false]) (by kernel_rfl) rfl (by kernel_rfl) (by kernel_rfl) (by kernel_rfl) (by kernel_rfl) (YI_v (v := .slice a n c) rfl (fun w' hw' => r_mv (v := .slice a n c) rfl)) ?_
        refine Wt_take (i := 3) (listed' := #[true, false, true, true, false, false, false, false, false, false]) (by kernel_rfl) rfl (by kernel_rfl) (by kernel_rfl) (by kernel_rfl) (by kernel_rfl) (YI_v (v := .int .i64 0) rfl (fun w' hw' => r_mv (v := .int .i64 0) rfl)) ?_
        refine Wt_take (i := 4) (listed' := #[true, false, true, true, true, false, false, false, false, false]) (by kernel_rfl) rfl (by kernel_rfl) (by kernel_rfl) (by kernel_rfl) (by kernel_rfl) (YI_v (v := .slice (if c = 0 then a else a.map (·.add (0 * 1))) (n - 0) (c - 0)) rfl (fun w' hw' => r_slicelen (l' := 0) (n' := n - 0) Try.underlying22 Try.sizeOf5 rfl rfl (by omega) (by omega) (by omega))) ?_
        have hT67 := Sl.cutl (l := 0) (n := n - 0) hb (by omega) (by omega)
        have hl_hT67 := ilen hT67
        have hc_hT67 := hT67.cap.1
        intro w68 hU68
        have hzw68 := hU68.size
        replace hb := hb.upd0 hU68
        replace HU := HU.trans0 hU68
        replace hO1 := hO1.upd0 hU68
        replace hp2 := hp2.upd0 hU68
        replace hO2 := hO2.upd0 hU68
        replace hT59 := hT59.upd0 hU68
        replace hO58 := hO58.upd0 hU68
        replace HL62 := HL62.trans0 hU68
        replace hT67 := hT67.upd0 hU68
        refine Wa_one (i := 1) (listed' := #[true, true, true, true, true, false, false, false, false, false]) (by kernel_rfl) rfl (by kernel_rfl) ?_
        refine Ws_of_Wl ?_
        have hW : Upd No w62 w68 := hU68
        refine Wl_call (r_call1 rfl Try.call25 rfl) (rest_spec (p := 0) _ hp2 (hO2.sl.cur (by intro h1; have h3 : ((w1.heap.size ≤ pb2 ∧ pb2 ≠ pb2) ∧ pb2 < w2.heap.size) := h1; first | omega | simp at h3)) bb (by omega) (by omega)) ?_
        rintro v w69 ⟨a69, c69, rfl, hO69, hU69⟩
        have hzw69 := hU69.size
        replace hb := hb.upd0 hU69
        replace HU := HU.trans0 hU69
        replace hO1 := hO1.upd0 hU69
        replace hp2 := hp2.upd0 hU69
        replace hO2 := hO2.upd0 hU69
        replace hT59 := hT59.upd0 hU69
        replace hO58 := hO58.upd0 hU69
        replace HL62 := HL62.trans0 hU69
        replace hT67 := hT67.upd0 hU69
        try replace hW := hW.trans0 hU69
        replace hO69 := hO69.tight
        have hl_hO69 := ilen hO69.sl
        have hc_hO69 := hO69.sl.cap.1
        refine Wl_nil ?_
        intro w70 hS70
        have hX : Upd No w62 w70 := hW.trans0 hS70.upd
        refine ⟨fun _ => ⟨hX, ?_⟩, fun h => absurd h (by rw [show barOp _ 1 = false from by kernel_rfl]; simp)⟩
        have hU70 := hS70.upd
        have hzw70 := hU70.size
        replace hb := hb.upd0 hU70
        replace HU := HU.trans0 hU70
        replace hO1 := hO1.upd0 hU70
        replace hp2 := hp2.upd0 hU70
        replace hO2 := hO2.upd0 hU70
        replace hT59 := hT59.upd0 hU70
        replace hO58 := hO58.upd0 hU70
        replace HL62 := HL62.trans0 hU70
        replace hT67 := hT67.upd0 hU70
        replace hO69 := hO69.upd0 hU70
        try replace hW := hW.trans0 hU70
        refine Wt_base hX ?_
        refine Wt_take (i := 5) (listed' := #[true, true, true, true, true, true, false, false, false, false]) (by kernel_rfl) rfl (by kernel_rfl) (by kernel_rfl) (by kernel_rfl) (by kernel_rfl) (YI_c (v := .bool (decide ((bs.drop 0) = (bs.drop 0)))) rfl (fun w' => r_call2 rfl Try.call13 rfl rfl) (fun w' hw' => same_spec w' ((hO69.upd0 hw').sl.any) ((hT67.upd0 hw').any) (byt_drop bb _) (byt_drop bb _))) ?_
        refine Wt_take (i := 6) (listed' := #[true, true, true, true, true, true, true, false, false, false]) (by kernel_rfl) rfl (by kernel_rfl) (by kernel_rfl) (by kernel_rfl) (by kernel_rfl) (YI_v (v := .bool (decide ((bs.drop 0) = (bs.drop 0)))) rfl (fun w' hw' => r_mv (v := .bool (decide ((bs.drop 0) = (bs.drop 0)))) rfl)) ?_
        have q22 : (bs.drop 0) = (bs.drop 0) := (by first | rfl | exact dt_eq (by omega) (by omega) | exact d_eq (by omega))
        rw [decide_eq_true q22]
        refine Wt_take (i := 7) (listed' := #[true, true, true, true, true, true, true, true, false, false]) (by kernel_rfl) rfl (by kernel_rfl) (by kernel_rfl) (by kernel_rfl) (by kernel_rfl) (YI_c (v := .bool true) rfl (fun w' => r_call0 rfl Try.call19 ) (fun w' hw' => known_spec w' )) ?_
        refine Wt_take (i := 8) (listed' := #[true, true, true, true, true, true, true, true, true, false]) (by kernel_rfl) rfl (by kernel_rfl) (by kernel_rfl) (by kernel_rfl) (by kernel_rfl) (YI_v rfl (fun w' hw' => r_pick_t (v := .bool true) rfl rfl)) ?_
        refine Wt_take (i := 9) (listed' := #[true, true, true, true, true, true, true, true, true, true]) (by kernel_rfl) rfl (by kernel_rfl) (by kernel_rfl) (by kernel_rfl) (by kernel_rfl) (YI_v (v := .bool true) rfl (fun w' hw' => r_as (v := .bool true) rfl)) ?_
        intro w71 hU71
        have hzw71 := hU71.size
        replace hb := hb.upd0 hU71
        replace HU := HU.trans0 hU71
        replace hO1 := hO1.upd0 hU71
        replace hp2 := hp2.upd0 hU71
        replace hO2 := hO2.upd0 hU71
        replace hT59 := hT59.upd0 hU71
        replace hO58 := hO58.upd0 hU71
        replace HL62 := HL62.trans0 hU71
        replace hT67 := hT67.upd0 hU71
        replace hO69 := hO69.upd0 hU71
        try replace hW := hW.trans0 hU71
        refine Wa_done (by kernel_rfl) ?_
        refine W_ret ?_
        refine ret_end (v := .bool true) rfl (res1 Try.results8 rfl) ?_
        exact ⟨_, rfl, rfl, HU⟩
    · rw [decide_eq_false q19]
      refine W_cond_f rfl ?_
      refine W_skip ?_
      refine W_seq ?_
      refine W_seq ?_
      refine W_region ?_
      refine Wl_v (r_mv (v := .slice a58 ((min (max nn 0) (((n : Nat) : Int) - ((0 : Nat) : Int))).toNat) c58) rfl) ?_
      refine Wl_v (r_mv (v := .slice a n c) rfl) ?_
      refine Wl_v (r_mv (v := .int .i64 0) rfl) ?_
      refine Wl_v (r_mv (v := .int .i64 0) rfl) ?_
      refine Wl_v (r_mv (v := .int .i64 (max nn 0)) rfl) ?_
      refine Wl_v (r_add rfl rfl (wi64 (by omega) (by omega))) ?_
      refine Wl_v (r_slicen (l' := 0) (h' := (0 + (max nn 0)).toNat) (n' := (0 + (max nn 0)).toNat - 0) Try.underlying22 Try.sizeOf5 rfl rfl rfl (by omega) (by omega) (by omega) (by omega) (by omega)) ?_
      have hT72 := Sl.cutn (l := 0) (n := (0 + (max nn 0)).toNat - 0) hb (by omega)
      have hl_hT72 := ilen hT72
      have hc_hT72 := hT72.cap.1
      refine Wl_call (r_call2 rfl Try.call13 rfl rfl) (same_spec _ hO58.sl.any hT72.any (byt_take (byt_drop bb _) _) (byt_take (byt_drop bb _) _)) ?_
      rintro v w73 ⟨rfl, hU73⟩
      have hzw73 := hU73.size
      replace hb := hb.upd0 hU73
      replace HU := HU.trans0 hU73
      replace hO1 := hO1.upd0 hU73
      replace hp2 := hp2.upd0 hU73
      replace hO2 := hO2.upd0 hU73
      replace hO58 := hO58.upd0 hU73
      replace hT72 := hT72.upd0 hU73
      refine Wl_v (r_not rfl) ?_
      refine Wl_v (r_mv (v := .bool (!decide (((bs.drop 0).take ((min (max nn 0) (((n : Nat) : Int) - ((0 : Nat) : Int))).toNat)) = ((bs.drop 0).take ((0 + (max nn 0)).toNat - 0))))) rfl) ?_
      have q23 : ((bs.drop 0).take ((min (max nn 0) (((n : Nat) : Int) - ((0 : Nat) : Int))).toNat)) = ((bs.drop 0).take ((0 + (max nn 0)).toNat - 0)) := (by first | rfl | exact dt_eq (by omega) (by omega) | exact d_eq (by omega))
      rw [decide_eq_true q23]
      simp only [Bool.not_true, Bool.not_false]
      refine Wl_guard_t rfl ?_
      refine Wl_v (r_mv (v := .pointer (some ⟨pb2, 0, none⟩)) rfl) ?_
      refine Wl_guard_t rfl ?_
      refine Wl_call (r_call1 rfl Try.call24 rfl) (at_spec _ hp2 (by omega) (by omega) (by omega)) ?_
      rintro v w74 ⟨rfl, hU74⟩
      have hzw74 := hU74.size
      replace hb := hb.upd0 hU74
      replace HU := HU.trans0 hU74
      replace hO1 := hO1.upd0 hU74
      replace hp2 := hp2.upd0 hU74
      replace hO2 := hO2.upd0 hU74
      replace hO58 := hO58.upd0 hU74
      replace hT72 := hT72.upd0 hU74
      refine Wl_guard_t rfl ?_
      refine Wl_v (r_mv (v := .int .i64 0) rfl) ?_
      refine Wl_guard_t rfl ?_
      refine Wl_v (v := .bool false) (r_ne (a := 0) (b := 0) rfl rfl) ?_
      refine Wl_v (r_pick_f (v := .bool false) rfl rfl) ?_
      refine Wl_nil ?_
      refine W_cond_f rfl ?_
      refine W_skip ?_
      refine W_seq ?_
      refine W_seq ?_
      refine W_region ?_
      refine Wl_v (r_as (v := .int .i64 0) rfl) ?_
      refine Wl_nil ?_
      refine W_block ?_
      refine W_loop (fun mu ρ ds w' => ∃ (k : Nat) (ys : List Int), ((min (max nn 0) (((n : Nat) : Int) - ((0 : Nat) : Int))).toNat) - k = mu ∧ ds = [] ∧ Liv ρ [(0, .slice a n c), (7, .pointer (some ⟨pb2, 0, none⟩)), (8, .int .i64 0), (9, .slice a58 ((min (max nn 0) (((n : Nat) : Int) - ((0 : Nat) : Int))).toNat) c58), (11, .int .i64 ((k : Nat) : Int))] ∧ k ≤ (min (max nn 0) (((n : Nat) : Int) - ((0 : Nat) : Int))).toNat ∧ Own w' (fun g => ((w2.heap.size ≤ g) ∧ g < w58.heap.size)) 5 1 (.slice a58 ((min (max nn 0) (((n : Nat) : Int) - ((0 : Nat) : Int))).toNat) c58) ((min (max nn 0) (((n : Nat) : Int) - ((0 : Nat) : Int))).toNat) (ints .u8 ys) ∧ Upd (fun g => ((w2.heap.size ≤ g) ∧ g < w58.heap.size)) w74 w') _ ⟨0, (bs.drop 0).take ((min (max nn 0) (((n : Nat) : Int) - ((0 : Nat) : Int))).toNat), rfl, rfl, ⟨rfl, rfl, rfl, rfl, (by first | rfl | exact vint (by omega) | exact vint (by simp)), trivial⟩, (by omega), hO58, Upd.refl _ _⟩ ?_
      rintro m75 ρ75 ds75 w75 ⟨k, ys, rfl, rfl, hl75, hk, hO58, hU75⟩
      obtain ⟨ρ75x, rfl⟩ : ∃ ρx, ρ75 = upds ρx [(0, .slice a n c), (7, .pointer (some ⟨pb2, 0, none⟩)), (8, .int .i64 0), (9, .slice a58 ((min (max nn 0) (((n : Nat) : Int) - ((0 : Nat) : Int))).toNat) c58), (11, .int .i64 ((k : Nat) : Int))] := ⟨_, upds_self hl75⟩
      clear hl75
      have hzw75 := hU75.size
      replace hb := hb.upd hU75 (by intro x h1 h2; have h3 : x < w.heap.size := h1; have h4 : ((w2.heap.size ≤ x) ∧ x < w58.heap.size) := h2; omega)
      replace HU := HU.trans hU75 (by intro x hx; have hx2 : ((w2.heap.size ≤ x) ∧ x < w58.heap.size) := hx; show (False) ∨ w.heap.size ≤ x; omega)
      replace hO1 := hO1.upd hU75 (by intro x h1 h2; have h3 : ((w.heap.size ≤ x) ∧ x < w1.heap.size) := h1; have h4 : ((w2.heap.size ≤ x) ∧ x < w58.heap.size) := h2; omega)
      replace hp2 := hp2.upd hU75 (by intro hx; have hx2 : ((w2.heap.size ≤ pb2) ∧ pb2 < w58.heap.size) := hx; omega)
      replace hO2 := hO2.upd hU75 (by intro x h1 h2; have h3 : ((w1.heap.size ≤ x ∧ x ≠ pb2) ∧ x < w2.heap.size) := h1; have h4 : ((w2.heap.size ≤ x) ∧ x < w58.heap.size) := h2; omega)
      replace hT72 := hT72.upd hU75 (by intro x h1 h2; have h3 : x < w.heap.size := h1; have h4 : ((w2.heap.size ≤ x) ∧ x < w58.heap.size) := h2; omega)
      have HL75 := hU75
      refine W_seq ?_
      refine W_seq ?_
      refine W_region ?_
      refine Wl_v (r_mv (v := .int .i64 ((k : Nat) : Int)) rfl) ?_
      refine Wl_v (r_mv (v := .slice a58 ((min (max nn 0) (((n : Nat) : Int) - ((0 : Nat) : Int))).toNat) c58) rfl) ?_
      refine Wl_v (r_len Try.underlying22 rfl) ?_
      refine Wl_v (r_lt rfl rfl) ?_
      refine Wl_nil ?_
      by_cases q24 : ((k : Nat) : Int) < (((min (max nn 0) (((n : Nat) : Int) - ((0 : Nat) : Int))).toNat : Nat) : Int)
      · rw [decide_eq_true q24]
        refine W_cond_t rfl ?_
        refine W_skip ?_
        refine W_seq ?_
        refine W_block ?_
        refine W_region ?_
        refine Wl_v (r_mv (v := .slice a58 ((min (max nn 0) (((n : Nat) : Int) - ((0 : Nat) : Int))).toNat) c58) rfl) ?_
        refine Wl_v (r_mv (v := .int .i64 ((k : Nat) : Int)) rfl) ?_
        refine Wl_v (r_mv (v := .slice a58 ((min (max nn 0) (((n : Nat) : Int) - ((0 : Nat) : Int))).toNat) c58) rfl) ?_
        refine Wl_v (r_mv (v := .int .i64 ((k : Nat) : Int)) rfl) ?_
        refine Wl_idxi Try.underlying22 Try.sizeOf5 rfl rfl hO58.sl (by omega) (by omega) ?_
        intro ib76 io76 hc76
        refine Wl_loadc Try.isAgg5 rfl hc76 ?_
        refine Wl_v (r_add rfl rfl (mu8 _)) ?_
        obtain ⟨g77, rfl, hg77⟩ := hO58.addr (by omega)
        replace hg77 : ((w2.heap.size ≤ g77) ∧ g77 < w58.heap.size) := hg77
        refine Wl_idxo (i' := k) Try.underlying22 Try.sizeOf5 rfl rfl hO58 (by omega) (by omega) ?_
        intro hc78
        refine Wl_storeo (i := k) Try.sizeOf5 rfl rfl hO58 (by omega) ?_
        intro w79 hU79 hzz79 hO79
        clear hO58
        have hzw79 := hU79.size
        replace hb := hb.upd1 hU79 (by intro h1; have h3 : g77 < w.heap.size := h1; omega)
        replace HU := HU.trans1 hU79 (by show (False) ∨ w.heap.size ≤ g77; omega)
        replace hO1 := hO1.upd1 hU79 (by intro h1; have h3 : ((w.heap.size ≤ g77) ∧ g77 < w1.heap.size) := h1; omega)
        replace hp2 := hp2.upd1 hU79 (by omega)
        replace hO2 := hO2.upd1 hU79 (by intro h1; have h3 : ((w1.heap.size ≤ g77 ∧ g77 ≠ pb2) ∧ g77 < w2.heap.size) := h1; omega)
        replace hT72 := hT72.upd1 hU79 (by intro h1; have h3 : g77 < w.heap.size := h1; omega)
        replace HL75 := HL75.trans1 hU79 (by show (((w2.heap.size ≤ g77) ∧ g77 < w58.heap.size)) ∨ w74.heap.size ≤ g77; omega)
        have hl_hO79 := ilen hO79.sl
        have hc_hO79 := hO79.sl.cap.1
        refine Wl_nil ?_
        refine W_region ?_
        refine Wl_v (r_mv (v := .int .i64 ((k : Nat) : Int)) rfl) ?_
        refine Wl_v (r_add rfl rfl (wi64 (by omega) (by omega))) ?_
        refine Wl_v (r_as (v := .int .i64 (((k : Nat) : Int) + 1)) rfl) ?_
        refine Wl_nil ?_
        refine ⟨_, ?_, (k + 1), ys.set k (((ys.getD k 0) + 1) % 256), rfl, rfl, ⟨rfl, rfl, rfl, rfl, (by first | rfl | exact vint (by omega) | exact vint (by simp)), trivial⟩, (by omega), hO79, HL75⟩
        omega
      · rw [decide_eq_false q24]
        refine W_cond_f rfl ?_
        refine W_exit ?_
        refine W_seq ?_
        refine W_drawt rfl (l0 := #[false, false, false, false, false, false, false, false, false, false]) (by kernel_rfl) ?_
        refine Wt_take (i := 0) (listed' := #[true, false, false, false, false, false, false, false, false, false]) (by kernel_rfl) rfl (by kernel_rfl) (by kernel_rfl) (by kernel_rfl) (by kernel_rfl) (YI_v (v := .pointer (some ⟨pb2, 0, none⟩)) rfl (fun w' hw' => r_mv (v := .pointer (some ⟨pb2, 0, none⟩)) rfl)) ?_
        refine Wt_take (i := 2) (listed' := #[true, false, true, false, false, false, false, false, false, false]) (by kernel_rfl) rfl (by kernel_rfl) (by kernel_rfl) (by kernel_rfl) (by kernel_rfl) (YI_v (v := .slice a n c) rfl (fun w' hw' => r_mv (v := .slice a n c) rfl)) ?_
        refine Wt_take (i := 3) (listed' := #[true, false, true, true, false, false, false, false, false, false]) (by kernel_rfl) rfl (by kernel_rfl) (by kernel_rfl) (by kernel_rfl) (by kernel_rfl) (YI_v (v := .int .i64 0) rfl (fun w' hw' => r_mv (v := .int .i64 0) rfl)) ?_
        refine Wt_take (i := 4) (listed' := #[true, false, true, true, true, false, false, false, false, false]) (by kernel_rfl) rfl (by kernel_rfl) (by kernel_rfl) (by kernel_rfl) (by kernel_rfl) (YI_v (v := .slice (if c = 0 then a else a.map (·.add (0 * 1))) (n - 0) (c - 0)) rfl (fun w' hw' => r_slicelen (l' := 0) (n' := n - 0) Try.underlying22 Try.sizeOf5 rfl rfl (by omega) (by omega) (by omega))) ?_
        have hT80 := Sl.cutl (l := 0) (n := n - 0) hb (by omega) (by omega)
        have hl_hT80 := ilen hT80
        have hc_hT80 := hT80.cap.1
        intro w81 hU81
        have hzw81 := hU81.size
        replace hb := hb.upd0 hU81
        replace HU := HU.trans0 hU81
        replace hO1 := hO1.upd0 hU81
        replace hp2 := hp2.upd0 hU81
        replace hO2 := hO2.upd0 hU81
        replace hT72 := hT72.upd0 hU81
        replace hO58 := hO58.upd0 hU81
        replace HL75 := HL75.trans0 hU81
        replace hT80 := hT80.upd0 hU81
        refine Wa_one (i := 1) (listed' := #[true, true, true, true, true, false, false, false, false, false]) (by kernel_rfl) rfl (by kernel_rfl) ?_
        refine Ws_of_Wl ?_
        have hW : Upd No w75 w81 := hU81
        refine Wl_call (r_call1 rfl Try.call25 rfl) (rest_spec (p := 0) _ hp2 (hO2.sl.cur (by intro h1; have h3 : ((w1.heap.size ≤ pb2 ∧ pb2 ≠ pb2) ∧ pb2 < w2.heap.size) := h1; first | omega | simp at h3)) bb (by omega) (by omega)) ?_
        rintro v w82 ⟨a82, c82, rfl, hO82, hU82⟩
        have hzw82 := hU82.size
        replace hb := hb.upd0 hU82
        replace HU := HU.trans0 hU82
        replace hO1 := hO1.upd0 hU82
        replace hp2 := hp2.upd0 hU82
        replace hO2 := hO2.upd0 hU82
        replace hT72 := hT72.upd0 hU82
        replace hO58 := hO58.upd0 hU82
        replace HL75 := HL75.trans0 hU82
        replace hT80 := hT80.upd0 hU82
        try replace hW := hW.trans0 hU82
        replace hO82 := hO82.tight
        have hl_hO82 := ilen hO82.sl
        have hc_hO82 := hO82.sl.cap.1
        refine Wl_nil ?_
        intro w83 hS83
        have hX : Upd No w75 w83 := hW.trans0 hS83.upd
        refine ⟨fun _ => ⟨hX, ?_⟩, fun h => absurd h (by rw [show barOp _ 1 = false from by kernel_rfl]; simp)⟩
        have hU83 := hS83.upd
        have hzw83 := hU83.size
        replace hb := hb.upd0 hU83
        replace HU := HU.trans0 hU83
        replace hO1 := hO1.upd0 hU83
        replace hp2 := hp2.upd0 hU83
        replace hO2 := hO2.upd0 hU83
        replace hT72 := hT72.upd0 hU83
        replace hO58 := hO58.upd0 hU83
        replace HL75 := HL75.trans0 hU83
        replace hT80 := hT80.upd0 hU83
        replace hO82 := hO82.upd0 hU83
        try replace hW := hW.trans0 hU83
        refine Wt_base hX ?_
        refine Wt_take (i := 5) (listed' := #[true, true, true, true, true, true, false, false, false, false]) (by kernel_rfl) rfl (by kernel_rfl) (by kernel_rfl) (by kernel_rfl) (by kernel_rfl) (YI_c (v := .bool (decide ((bs.drop 0) = (bs.drop 0)))) rfl (fun w' => r_call2 rfl Try.call13 rfl rfl) (fun w' hw' => same_spec w' ((hO82.upd0 hw').sl.any) ((hT80.upd0 hw').any) (byt_drop bb _) (byt_drop bb _))) ?_
        refine Wt_take (i := 6) (listed' := #[true, true, true, true, true, true, true, false, false, false]) (by kernel_rfl) rfl (by kernel_rfl) (by kernel_rfl) (by kernel_rfl) (by kernel_rfl) (YI_v (v := .bool (decide ((bs.drop 0) = (bs.drop 0)))) rfl (fun w' hw' => r_mv (v := .bool (decide ((bs.drop 0) = (bs.drop 0)))) rfl)) ?_
        have q25 : (bs.drop 0) = (bs.drop 0) := (by first | rfl | exact dt_eq (by omega) (by omega) | exact d_eq (by omega))
        rw [decide_eq_true q25]
        refine Wt_take (i := 7) (listed' := #[true, true, true, true, true, true, true, true, false, false]) (by kernel_rfl) rfl (by kernel_rfl) (by kernel_rfl) (by kernel_rfl) (by kernel_rfl) (YI_c (v := .bool true) rfl (fun w' => r_call0 rfl Try.call19 ) (fun w' hw' => known_spec w' )) ?_
        refine Wt_take (i := 8) (listed' := #[true, true, true, true, true, true, true, true, true, false]) (by kernel_rfl) rfl (by kernel_rfl) (by kernel_rfl) (by kernel_rfl) (by kernel_rfl) (YI_v rfl (fun w' hw' => r_pick_t (v := .bool true) rfl rfl)) ?_
        refine Wt_take (i := 9) (listed' := #[true, true, true, true, true, true, true, true, true, true]) (by kernel_rfl) rfl (by kernel_rfl) (by kernel_rfl) (by kernel_rfl) (by kernel_rfl) (YI_v (v := .bool true) rfl (fun w' hw' => r_as (v := .bool true) rfl)) ?_
        intro w84 hU84
        have hzw84 := hU84.size
        replace hb := hb.upd0 hU84
        replace HU := HU.trans0 hU84
        replace hO1 := hO1.upd0 hU84
        replace hp2 := hp2.upd0 hU84
        replace hO2 := hO2.upd0 hU84
        replace hT72 := hT72.upd0 hU84
        replace hO58 := hO58.upd0 hU84
        replace HL75 := HL75.trans0 hU84
        replace hT80 := hT80.upd0 hU84
        replace hO82 := hO82.upd0 hU84
        try replace hW := hW.trans0 hU84
        refine Wa_done (by kernel_rfl) ?_
        refine W_ret ?_
        refine ret_end (v := .bool true) rfl (res1 Try.results8 rfl) ?_
        exact ⟨_, rfl, rfl, HU⟩

end Go.Proofs.Ytigojafhogjnfaa
