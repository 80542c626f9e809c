/-
  Walks, printed by a small program of this project (gen.py).
-/
import Derived.Test.YtigojafhogjnfaaWk
import Derived.Test.YtigojafhogjnfaaFn
set_option linter.unusedVariables false
set_option linter.unusedSimpArgs false
namespace Go.Proofs.Ytigojafhogjnfaa
open Go.Fw

set_option maxHeartbeats 2000000 in
set_option maxRecDepth 100000 in
theorem numown {a : Option Addr} {n c : Nat} {bs : List Int} (w : World) (hb : Sl w (fun g => g < w.heap.size) 1 (.slice a n c) n (ints .u8 bs)) (bb : Byt bs) (nb : n ≤ 140737488351232) :
    Calls Try.prog 7 #[.slice a n c] w (Ret fun v w' => v = .bool true ∧ Upd No w w') := by
  have HU : Upd (fun b => False) w w := Upd.refl _ _
  have hl_hb := ilen hb
  have hc_hb := hb.cap.1
  have hv7 : (vi 7).length = 1 := by decide
  refine calls_of_W Try.func7 rfl Try.ntmps7 (by simp) ?_
  refine W_seq ?_
  refine W_region ?_
  refine Wl_v (r_as (v := .bool false) rfl) ?_
  refine Wl_nil ?_
  refine W_seq ?_
  refine W_region ?_
  refine Wl_v (r_mv (v := .slice a n c) rfl) ?_
  refine Wl_v (r_len Try.underlying22 rfl) ?_
  refine Wl_v (r_mv (v := .slice a n c) rfl) ?_
  refine Wl_v (r_len Try.underlying22 rfl) ?_
  refine Wl_v (r_add rfl rfl (wi64 (by omega) (by omega))) ?_
  refine Wl_make (l' := n) (c' := n + 16) (zc := [.int .u8 0]) Try.underlying22 (ti := Try.t5) (z := .int .u8 0) rfl rfl rfl rfl (by decide) rfl rfl (by omega) (by omega) (by omega) (by show 1 * _ ≤ _; omega) (by omega) ?_
  intro B1 w1 hB1 hU1 hzz1 hX
  have hzw1 := hU1.size
  replace hb := hb.upd0 hU1
  replace HU := HU.trans0 hU1
  replace hX : Blk w1 B1 (ints .u8 (List.replicate (n + 16) 0)) := by simpa [ints] using hX
  refine Wl_v (r_as (v := .slice (some ⟨B1, 0, none⟩) n (n + 16)) rfl) ?_
  refine Wl_nil ?_
  refine W_seq ?_
  refine W_region ?_
  refine Wl_v (r_mv (v := .slice (some ⟨B1, 0, none⟩) n (n + 16)) rfl) ?_
  refine Wl_v (r_mv (v := .slice a n c) rfl) ?_
  refine Wl_copy Try.underlying22 (by kernel_rfl) rfl rfl hX hb (by simp) ?_
  intro w2 hU2 hzz2 hXn
  replace hX := hXn
  clear hXn
  rw [List.drop_replicate, show n + 16 - n = 16 from by omega] at hX
  have hzw2 := hU2.size
  replace hb := hb.upd1 hU2 (by intro h1; have h3 : B1 < w.heap.size := h1; omega)
  replace HU := HU.trans1 hU2 (by show (False) ∨ w.heap.size ≤ B1; omega)
  have hXs := hX.slh (n := n) (c := n + 16) hl_hb (by omega) (by simp only [maxLen]; omega)
  refine Wl_nil ?_
  refine W_seq ?_
  refine W_region ?_
  refine Wl_v (r_mv (v := .slice (some ⟨B1, 0, none⟩) n (n + 16)) rfl) ?_
  refine Wl_call (r_call2 rfl Try.call14 rfl rfl) (putword_spec _ hXs.any (by omega) (by omega) (by omega)) ?_
  rintro v w3 ⟨a3, c3, rfl, hO3, hU3⟩
  have hzw3 := hU3.size
  replace hb := hb.upd0 hU3
  replace HU := HU.trans0 hU3
  replace hX := hX.upd0 hU3
  replace hXs := hXs.upd0 hU3
  replace hO3 := hO3.tight
  have hl_hO3 := ilen hO3.sl
  have hc_hO3 := hO3.sl.cap.1
  refine Wl_v (r_as (v := .slice a3 (n + 4) c3) rfl) ?_
  refine Wl_nil ?_
  refine W_seq ?_
  refine W_region ?_
  refine Wl_v (r_mv (v := .slice (some ⟨B1, 0, none⟩) n (n + 16)) rfl) ?_
  have q1 : ¬ (4611686018427387903 < 7) := (by decide)
  refine Wl_call (r_call2 rfl Try.call17 rfl rfl) (putvarint_spec _ hXs.any (by omega) (by omega) (by omega)) ?_
  rintro v w4 ⟨a4, c4, rfl, hO4, hU4⟩
  have hzw4 := hU4.size
  replace hb := hb.upd0 hU4
  replace HU := HU.trans0 hU4
  replace hX := hX.upd0 hU4
  replace hXs := hXs.upd0 hU4
  replace hO3 := hO3.upd0 hU4
  replace hO4 := hO4.tight
  have hl_hO4 := ilen hO4.sl
  have hc_hO4 := hO4.sl.cap.1
  refine Wl_v (r_mv (v := .tuple #[.slice a4 (n + (vi 7).length) c4, .int .i64 0]) rfl) ?_
  refine Wl_v (r_ext (v := .slice a4 (n + (vi 7).length) c4) rfl rfl) ?_
  refine Wl_v (r_ext (v := .int .i64 0) rfl rfl) ?_
  refine Wl_v (r_as (v := .slice a4 (n + (vi 7).length) c4) rfl) ?_
  refine Wl_v (r_as (v := .int .i64 0) rfl) ?_
  refine Wl_nil ?_
  refine W_seq ?_
  refine W_region ?_
  refine Wl_v (r_mv (v := .slice (some ⟨B1, 0, none⟩) n (n + 16)) rfl) ?_
  refine Wl_call (r_call1 rfl Try.call21 rfl) (new_spec _ hXs.any (by omega)) ?_
  rintro v w5 ⟨pb5, a5, c5, rfl, hp5, hO5, hpg_5, hU5⟩
  have hzw5 := hU5.size
  replace hb := hb.upd0 hU5
  replace HU := HU.trans0 hU5
  replace hX := hX.upd0 hU5
  replace hXs := hXs.upd0 hU5
  replace hO3 := hO3.upd0 hU5
  replace hO4 := hO4.upd0 hU5
  have hbl_hp5 := hp5.lt
  replace hO5 := hO5.tight
  have hl_hO5 := ilen hO5.sl
  have hc_hO5 := hO5.sl.cap.1
  refine Wl_v (r_as (v := .pointer (some ⟨pb5, 0, none⟩)) rfl) ?_
  refine Wl_nil ?_
  refine W_seq ?_
  refine W_seq ?_
  refine W_region ?_
  refine Wl_v (r_mv (v := .int .i64 0) rfl) ?_
  refine Wl_v (v := .bool false) (r_ne (a := 0) (b := 0) rfl rfl) ?_
  refine Wl_v (r_mv (v := .bool false) rfl) ?_
  refine Wl_guard_t rfl ?_
  refine Wl_v (r_mv (v := .slice a3 (n + 4) c3) rfl) ?_
  refine Wl_guard_t rfl ?_
  refine Wl_v (r_len Try.underlying22 rfl) ?_
  refine Wl_guard_t rfl ?_
  refine Wl_v (r_mv (v := .slice a n c) rfl) ?_
  refine Wl_guard_t rfl ?_
  refine Wl_v (r_len Try.underlying22 rfl) ?_
  refine Wl_guard_t rfl ?_
  refine Wl_v (r_add rfl rfl (wi64 (by omega) (by omega))) ?_
  refine Wl_guard_t rfl ?_
  refine Wl_v (r_ne rfl rfl) ?_
  refine Wl_v (r_pick_f (v := .bool (decide (((n + 4 : Nat) : Int) ≠ (((n : Nat) : Int) + 4)))) rfl rfl) ?_
  refine Wl_v (r_mv (v := .bool (decide (((n + 4 : Nat) : Int) ≠ (((n : Nat) : Int) + 4)))) rfl) ?_
  have q2 : ¬ (((n + 4 : Nat) : Int) ≠ (((n : Nat) : Int) + 4)) := (by omega)
  rw [decide_eq_false q2]
  refine Wl_guard_t rfl ?_
  refine Wl_v (r_mv (v := .slice a4 (n + (vi 7).length) c4) rfl) ?_
  refine Wl_guard_t rfl ?_
  refine Wl_v (r_len Try.underlying22 rfl) ?_
  refine Wl_guard_t rfl ?_
  refine Wl_v (r_mv (v := .slice a n c) rfl) ?_
  refine Wl_guard_t rfl ?_
  refine Wl_v (r_len Try.underlying22 rfl) ?_
  refine Wl_guard_t rfl ?_
  refine Wl_v (r_add rfl rfl (wi64 (by omega) (by omega))) ?_
  refine Wl_guard_t rfl ?_
  refine Wl_v (r_ne rfl rfl) ?_
  refine Wl_v (r_pick_f (v := .bool (decide (((n + (vi 7).length : Nat) : Int) ≠ (((n : Nat) : Int) + 1)))) rfl rfl) ?_
  refine Wl_nil ?_
  have q3 : ¬ (((n + (vi 7).length : Nat) : Int) ≠ (((n : Nat) : Int) + 1)) := (by omega)
  rw [decide_eq_false q3]
  refine W_cond_f rfl ?_
  refine W_skip ?_
  refine W_seq ?_
  refine W_seq ?_
  refine W_region ?_
  refine Wl_v (r_as (v := .int .i64 0) rfl) ?_
  refine Wl_nil ?_
  refine W_block ?_
  refine W_loop (fun mu ρ ds w' => ∃ (i1 : Nat) (zs : List Int), n - i1 = mu ∧ ds = [] ∧ Liv ρ [(0, .slice a n c), (3, .slice (some ⟨B1, 0, none⟩) n (n + 16)), (4, .slice a3 (n + 4) c3), (5, .slice a4 (n + (vi 7).length) c4), (7, .pointer (some ⟨pb5, 0, none⟩)), (8, .int .i64 ((i1 : Nat) : Int))] ∧ i1 ≤ n ∧ zs.length = n ∧ Blk w' B1 (ints .u8 (zs ++ List.replicate 16 0)) ∧ Upd (Is B1) w5 w') _ ⟨0, bs, rfl, rfl, ⟨rfl, rfl, rfl, rfl, rfl, (by first | rfl | exact vint (by omega) | exact vint (by simp)), trivial⟩, (by omega), hl_hb, hX, Upd.refl _ _⟩ ?_
  rintro m6 ρ6 ds6 w6 ⟨i1, zs, rfl, rfl, hl6, hi1, hys, hX, hU6⟩
  obtain ⟨ρ6x, rfl⟩ : ∃ ρx, ρ6 = upds ρx [(0, .slice a n c), (3, .slice (some ⟨B1, 0, none⟩) n (n + 16)), (4, .slice a3 (n + 4) c3), (5, .slice a4 (n + (vi 7).length) c4), (7, .pointer (some ⟨pb5, 0, none⟩)), (8, .int .i64 ((i1 : Nat) : Int))] := ⟨_, upds_self hl6⟩
  clear hl6
  have hzw6 := hU6.size
  replace hb := hb.upd1 hU6 (by intro h1; have h3 : B1 < w.heap.size := h1; omega)
  replace HU := HU.trans1 hU6 (by show (False) ∨ w.heap.size ≤ B1; omega)
  replace hO3 := hO3.upd1 hU6 (by intro h1; have h3 : ((w2.heap.size ≤ B1) ∧ B1 < w3.heap.size) := h1; omega)
  replace hO4 := hO4.upd1 hU6 (by intro h1; have h3 : ((w3.heap.size ≤ B1) ∧ B1 < w4.heap.size) := h1; omega)
  replace hp5 := hp5.upd1 hU6 (by omega)
  replace hO5 := hO5.upd1 hU6 (by intro h1; have h3 : ((w4.heap.size ≤ B1 ∧ B1 ≠ pb5) ∧ B1 < w5.heap.size) := h1; omega)
  have HL6 := hU6
  refine W_seq ?_
  refine W_seq ?_
  refine W_region ?_
  refine Wl_v (r_mv (v := .int .i64 ((i1 : Nat) : Int)) rfl) ?_
  refine Wl_v (r_mv (v := .slice (some ⟨B1, 0, none⟩) n (n + 16)) rfl) ?_
  refine Wl_v (r_len Try.underlying22 rfl) ?_
  refine Wl_v (r_lt rfl rfl) ?_
  refine Wl_nil ?_
  by_cases q4 : ((i1 : Nat) : Int) < ((n : Nat) : Int)
  · have hlx : (zs ++ List.replicate 16 (0 : Int)).length = n + 16 := by simp [hys]
    rw [decide_eq_true q4]
    refine W_cond_t rfl ?_
    refine W_skip ?_
    refine W_seq ?_
    refine W_block ?_
    refine W_region ?_
    refine Wl_v (r_mv (v := .slice (some ⟨B1, 0, none⟩) n (n + 16)) rfl) ?_
    refine Wl_v (r_mv (v := .int .i64 ((i1 : Nat) : Int)) rfl) ?_
    refine Wl_v (r_mv (v := .slice (some ⟨B1, 0, none⟩) n (n + 16)) rfl) ?_
    refine Wl_v (r_mv (v := .int .i64 ((i1 : Nat) : Int)) rfl) ?_
    refine Wl_v (r_idx (b := B1) (off := 0) (m := n) (c := n + 16) (o' := i1) Try.underlying22 Try.sizeOf5 rfl rfl (by omega) (by omega) (by omega)) ?_
    refine Wl_loadc (v := .int .u8 ((zs ++ List.replicate 16 0).getD i1 0)) Try.isAgg5 rfl (hX.icell (by rw [hlx]; omega)) ?_
    refine Wl_v (r_add rfl rfl (mu8 _)) ?_
    refine Wl_v (r_idx (b := B1) (off := 0) (m := n) (c := n + 16) (o' := i1) Try.underlying22 Try.sizeOf5 rfl rfl (by omega) (by omega) (by omega)) ?_
    refine Wl_storei (i := i1) (l' := (zs ++ List.replicate 16 0).set i1 ((((zs ++ List.replicate 16 0).getD i1 0) + 1) % 256)) Try.sizeOf5 rfl rfl hX (by rw [hlx]; omega) rfl ?_
    intro w7 hU7 hzz7 hXn
    replace hX := hXn; clear hXn
    have hzw7 := hU7.size
    replace hb := hb.upd1 hU7 (by intro h1; have h3 : B1 < w.heap.size := h1; omega)
    replace HU := HU.trans1 hU7 (by show (False) ∨ w.heap.size ≤ B1; omega)
    replace hO3 := hO3.upd1 hU7 (by intro h1; have h3 : ((w2.heap.size ≤ B1) ∧ B1 < w3.heap.size) := h1; omega)
    replace hO4 := hO4.upd1 hU7 (by intro h1; have h3 : ((w3.heap.size ≤ B1) ∧ B1 < w4.heap.size) := h1; omega)
    replace hp5 := hp5.upd1 hU7 (by omega)
    replace hO5 := hO5.upd1 hU7 (by intro h1; have h3 : ((w4.heap.size ≤ B1 ∧ B1 ≠ pb5) ∧ B1 < w5.heap.size) := h1; omega)
    replace HL6 := HL6.trans1 hU7 (by show (B1 = B1) ∨ w5.heap.size ≤ B1; omega)
    refine Wl_nil ?_
    refine W_region ?_
    refine Wl_v (r_mv (v := .int .i64 ((i1 : Nat) : Int)) rfl) ?_
    refine Wl_v (r_add rfl rfl (wi64 (by omega) (by omega))) ?_
    refine Wl_v (r_as (v := .int .i64 (((i1 : Nat) : Int) + 1)) rfl) ?_
    refine Wl_nil ?_
    refine ⟨_, ?_, (i1 + 1), _, rfl, rfl, ⟨rfl, rfl, rfl, rfl, rfl, (by first | rfl | exact vint (by omega) | exact vint (by simp)), trivial⟩, (by omega), (by rw [List.length_set]; exact hys), (hX.icong (set_hd (by omega))), HL6⟩
    omega
  · rw [decide_eq_false q4]
    refine W_cond_f rfl ?_
    refine W_exit ?_
    refine W_seq ?_
    refine W_seq ?_
    refine W_region ?_
    refine Wl_v (r_mv (v := .slice (some ⟨B1, 0, none⟩) n (n + 16)) rfl) ?_
    refine Wl_v (r_mv (v := .slice (some ⟨B1, 0, none⟩) n (n + 16)) rfl) ?_
    refine Wl_v (r_len Try.underlying22 rfl) ?_
    refine Wl_v (r_mv (v := .slice (some ⟨B1, 0, none⟩) n (n + 16)) rfl) ?_
    refine Wl_v (r_cap Try.underlying22 rfl) ?_
    refine Wl_v (r_slicet (l' := n) (h' := n + 16) (n' := 16) (c' := 16) Try.underlying22 Try.sizeOf5 rfl rfl rfl rfl (by omega) (by omega) (by omega) (by omega) (by omega) (by omega)) ?_
    have hXt := hX.slt (n := n) (m := 16) (c := 16) hys (by simp) (by omega) (by simp only [maxLen]; omega)
    refine Wl_v (r_len Try.underlying22 rfl) ?_
    refine Wl_v (r_mv (v := .int .i64 0) rfl) ?_
    refine Wl_nil ?_
    refine W_block ?_
    refine W_loop (fun mu ρ ds w' => ∃ (i2 : Nat), 16 - i2 = mu ∧ ds = [] ∧ Liv ρ [(0, .slice a n c), (4, .slice a3 (n + 4) c3), (5, .slice a4 (n + (vi 7).length) c4), (7, .pointer (some ⟨pb5, 0, none⟩)), (71, .slice (some ⟨B1, n, none⟩) 16 16), (72, .int .i64 16), (73, .int .i64 ((i2 : Nat) : Int))] ∧ i2 ≤ 16 ∧ Upd No w6 w') _ ⟨0, rfl, rfl, ⟨rfl, rfl, rfl, rfl, rfl, rfl, (by first | rfl | exact vint (by omega) | exact vint (by simp)), trivial⟩, (by omega), Upd.refl _ _⟩ ?_
    rintro m8 ρ8 ds8 w8 ⟨i2, rfl, rfl, hl8, hi2, hU8⟩
    obtain ⟨ρ8x, rfl⟩ : ∃ ρx, ρ8 = upds ρx [(0, .slice a n c), (4, .slice a3 (n + 4) c3), (5, .slice a4 (n + (vi 7).length) c4), (7, .pointer (some ⟨pb5, 0, none⟩)), (71, .slice (some ⟨B1, n, none⟩) 16 16), (72, .int .i64 16), (73, .int .i64 ((i2 : Nat) : Int))] := ⟨_, upds_self hl8⟩
    clear hl8
    have hzw8 := hU8.size
    replace hb := hb.upd0 hU8
    replace HU := HU.trans0 hU8
    replace hO3 := hO3.upd0 hU8
    replace hO4 := hO4.upd0 hU8
    replace hp5 := hp5.upd0 hU8
    replace hO5 := hO5.upd0 hU8
    replace hX := hX.upd0 hU8
    replace hXt := hXt.upd0 hU8
    have HL8 := hU8
    refine W_seq ?_
    refine W_region ?_
    refine Wl_v (r_lt rfl rfl) ?_
    refine Wl_nil ?_
    refine W_seq ?_
    by_cases q5 : ((i2 : Nat) : Int) < 16
    · rw [decide_eq_true q5]
      refine W_cond_t rfl ?_
      refine W_skip ?_
      refine W_seq ?_
      refine W_block ?_
      refine W_seq ?_
      refine W_region ?_
      refine Wl_idxi Try.underlying22 Try.sizeOf5 rfl rfl hXt (by omega) (by omega) ?_
      intro ib9 io9 hc9
      rw [Int.toNat_natCast] at hc9
      refine Wl_loadc Try.isAgg5 rfl hc9 ?_
      refine Wl_v (r_as (v := .int .u8 ((List.replicate 16 (0 : Int)).getD i2 0)) rfl) ?_
      refine Wl_nil ?_
      refine W_seq ?_
      refine W_region ?_
      refine Wl_v (r_mv (v := .int .u8 ((List.replicate 16 (0 : Int)).getD i2 0)) rfl) ?_
      refine Wl_v (r_ne rfl rfl) ?_
      refine Wl_nil ?_
      have q6 : ¬ (((List.replicate 16 (0 : Int)).getD i2 0) ≠ 0) := (fun h => h getD_rep0)
      rw [decide_eq_false q6]
      refine W_cond_f rfl ?_
      refine W_skip ?_
      refine W_region ?_
      refine Wl_v (r_add rfl rfl (wi64 (by omega) (by omega))) ?_
      refine Wl_v (r_mv (v := .int .i64 (((i2 : Nat) : Int) + 1)) rfl) ?_
      refine Wl_nil ?_
      refine ⟨_, ?_, (i2 + 1), rfl, rfl, ⟨rfl, rfl, rfl, rfl, rfl, rfl, (by first | rfl | exact vint (by omega) | exact vint (by simp)), trivial⟩, (by omega), HL8⟩
      omega
    · rw [decide_eq_false q5]
      refine W_cond_f rfl ?_
      refine W_exit ?_
      refine W_seq ?_
      refine W_region ?_
      refine Wl_v (r_mv (v := .pointer (some ⟨pb5, 0, none⟩)) rfl) ?_
      refine Wl_call (r_call1 rfl Try.call25 rfl) (rest_spec (p := 0) _ hp5 (hO5.sl.cur (by intro h1; have h3 : ((w4.heap.size ≤ pb5 ∧ pb5 ≠ pb5) ∧ pb5 < w5.heap.size) := h1; first | omega | simp at h3)) bb (by omega) (by omega)) ?_
      rintro v w10 ⟨a10, c10, rfl, hO10, hU10⟩
      have hzw10 := hU10.size
      replace hb := hb.upd0 hU10
      replace HU := HU.trans0 hU10
      replace hO3 := hO3.upd0 hU10
      replace hO4 := hO4.upd0 hU10
      replace hp5 := hp5.upd0 hU10
      replace hO5 := hO5.upd0 hU10
      replace hX := hX.upd0 hU10
      replace hXt := hXt.upd0 hU10
      replace hO10 := hO10.tight
      have hl_hO10 := ilen hO10.sl
      have hc_hO10 := hO10.sl.cap.1
      refine Wl_v (r_as (v := .slice a10 (n - 0) c10) rfl) ?_
      refine Wl_nil ?_
      refine W_seq ?_
      refine W_seq ?_
      refine W_region ?_
      refine Wl_v (r_as (v := .int .i64 0) rfl) ?_
      refine Wl_nil ?_
      refine W_block ?_
      refine W_loop (fun mu ρ ds w' => ∃ (k : Nat) (ys : List Int), (n - 0) - k = mu ∧ ds = [] ∧ Liv ρ [(0, .slice a n c), (4, .slice a3 (n + 4) c3), (5, .slice a4 (n + (vi 7).length) c4), (7, .pointer (some ⟨pb5, 0, none⟩)), (11, .slice a10 (n - 0) c10), (12, .int .i64 ((k : Nat) : Int))] ∧ k ≤ n - 0 ∧ Own w' (fun g => ((w8.heap.size ≤ g) ∧ g < w10.heap.size)) 5 1 (.slice a10 (n - 0) c10) (n - 0) (ints .u8 ys) ∧ Upd (fun g => ((w8.heap.size ≤ g) ∧ g < w10.heap.size)) w10 w') _ ⟨0, bs.drop 0, rfl, rfl, ⟨rfl, rfl, rfl, rfl, rfl, (by first | rfl | exact vint (by omega) | exact vint (by simp)), trivial⟩, (by omega), hO10, Upd.refl _ _⟩ ?_
      rintro m11 ρ11 ds11 w11 ⟨k, ys, rfl, rfl, hl11, hk, hO10, hU11⟩
      obtain ⟨ρ11x, rfl⟩ : ∃ ρx, ρ11 = upds ρx [(0, .slice a n c), (4, .slice a3 (n + 4) c3), (5, .slice a4 (n + (vi 7).length) c4), (7, .pointer (some ⟨pb5, 0, none⟩)), (11, .slice a10 (n - 0) c10), (12, .int .i64 ((k : Nat) : Int))] := ⟨_, upds_self hl11⟩
      clear hl11
      have hzw11 := hU11.size
      replace hb := hb.upd hU11 (by intro x h1 h2; have h3 : x < w.heap.size := h1; have h4 : ((w8.heap.size ≤ x) ∧ x < w10.heap.size) := h2; omega)
      replace HU := HU.trans hU11 (by intro x hx; have hx2 : ((w8.heap.size ≤ x) ∧ x < w10.heap.size) := hx; show (False) ∨ w.heap.size ≤ x; omega)
      replace hO3 := hO3.upd hU11 (by intro x h1 h2; have h3 : ((w2.heap.size ≤ x) ∧ x < w3.heap.size) := h1; have h4 : ((w8.heap.size ≤ x) ∧ x < w10.heap.size) := h2; omega)
      replace hO4 := hO4.upd hU11 (by intro x h1 h2; have h3 : ((w3.heap.size ≤ x) ∧ x < w4.heap.size) := h1; have h4 : ((w8.heap.size ≤ x) ∧ x < w10.heap.size) := h2; omega)
      replace hp5 := hp5.upd hU11 (by intro hx; have hx2 : ((w8.heap.size ≤ pb5) ∧ pb5 < w10.heap.size) := hx; omega)
      replace hO5 := hO5.upd hU11 (by intro x h1 h2; have h3 : ((w4.heap.size ≤ x ∧ x ≠ pb5) ∧ x < w5.heap.size) := h1; have h4 : ((w8.heap.size ≤ x) ∧ x < w10.heap.size) := h2; omega)
      replace hX := hX.upd hU11 (by intro hx; have hx2 : ((w8.heap.size ≤ B1) ∧ B1 < w10.heap.size) := hx; omega)
      replace hXt := hXt.upd hU11 (by intro x h1 h2; have h3 : x = B1 := h1; have h4 : ((w8.heap.size ≤ x) ∧ x < w10.heap.size) := h2; omega)
      have HL11 := hU11
      refine W_seq ?_
      refine W_seq ?_
      refine W_region ?_
      refine Wl_v (r_mv (v := .int .i64 ((k : Nat) : Int)) rfl) ?_
      refine Wl_v (r_mv (v := .slice a10 (n - 0) c10) rfl) ?_
      refine Wl_v (r_len Try.underlying22 rfl) ?_
      refine Wl_v (r_lt rfl rfl) ?_
      refine Wl_nil ?_
      by_cases q7 : ((k : Nat) : Int) < ((n - 0 : Nat) : Int)
      · rw [decide_eq_true q7]
        refine W_cond_t rfl ?_
        refine W_skip ?_
        refine W_seq ?_
        refine W_block ?_
        refine W_region ?_
        refine Wl_v (r_mv (v := .slice a10 (n - 0) c10) rfl) ?_
        refine Wl_v (r_mv (v := .int .i64 ((k : Nat) : Int)) rfl) ?_
        refine Wl_v (r_mv (v := .slice a10 (n - 0) c10) rfl) ?_
        refine Wl_v (r_mv (v := .int .i64 ((k : Nat) : Int)) rfl) ?_
        refine Wl_idxi Try.underlying22 Try.sizeOf5 rfl rfl hO10.sl (by omega) (by omega) ?_
        intro ib12 io12 hc12
        rw [Int.toNat_natCast] at hc12
        refine Wl_loadc Try.isAgg5 rfl hc12 ?_
        refine Wl_v (r_add rfl rfl (mu8 _)) ?_
        obtain ⟨g13, rfl, hg13⟩ := hO10.addr (by omega)
        replace hg13 : ((w8.heap.size ≤ g13) ∧ g13 < w10.heap.size) := hg13
        refine Wl_idxo (i' := k) Try.underlying22 Try.sizeOf5 rfl rfl hO10 (by omega) (by omega) ?_
        intro hc14
        refine Wl_storeo (i := k) Try.sizeOf5 rfl rfl hO10 (by omega) ?_
        intro w15 hU15 hzz15 hO15
        clear hO10
        have hzw15 := hU15.size
        replace hb := hb.upd1 hU15 (by intro h1; have h3 : g13 < w.heap.size := h1; omega)
        replace HU := HU.trans1 hU15 (by show (False) ∨ w.heap.size ≤ g13; omega)
        replace hO3 := hO3.upd1 hU15 (by intro h1; have h3 : ((w2.heap.size ≤ g13) ∧ g13 < w3.heap.size) := h1; omega)
        replace hO4 := hO4.upd1 hU15 (by intro h1; have h3 : ((w3.heap.size ≤ g13) ∧ g13 < w4.heap.size) := h1; omega)
        replace hp5 := hp5.upd1 hU15 (by omega)
        replace hO5 := hO5.upd1 hU15 (by intro h1; have h3 : ((w4.heap.size ≤ g13 ∧ g13 ≠ pb5) ∧ g13 < w5.heap.size) := h1; omega)
        replace hX := hX.upd1 hU15 (by omega)
        replace hXt := hXt.upd1 hU15 (by intro h1; have h3 : g13 = B1 := h1; omega)
        replace HL11 := HL11.trans1 hU15 (by show (((w8.heap.size ≤ g13) ∧ g13 < w10.heap.size)) ∨ w10.heap.size ≤ g13; omega)
        have hl_hO15 := ilen hO15.sl
        have hc_hO15 := hO15.sl.cap.1
        refine Wl_nil ?_
        refine W_region ?_
        refine Wl_v (r_mv (v := .int .i64 ((k : Nat) : Int)) rfl) ?_
        refine Wl_v (r_add rfl rfl (wi64 (by omega) (by omega))) ?_
        refine Wl_v (r_as (v := .int .i64 (((k : Nat) : Int) + 1)) rfl) ?_
        refine Wl_nil ?_
        refine ⟨_, ?_, (k + 1), ys.set k (((ys.getD k 0) + 9) % 256), rfl, rfl, ⟨rfl, rfl, rfl, rfl, rfl, (by first | rfl | exact vint (by omega) | exact vint (by simp)), trivial⟩, (by omega), hO15, HL11⟩
        omega
      · rw [decide_eq_false q7]
        refine W_cond_f rfl ?_
        refine W_exit ?_
        refine W_seq ?_
        refine W_region ?_
        refine Wl_v (r_mv (v := .pointer (some ⟨pb5, 0, none⟩)) rfl) ?_
        refine Wl_v (r_mv (v := .slice a n c) rfl) ?_
        refine Wl_v (r_len Try.underlying22 rfl) ?_
        refine Wl_call (r_call2 rfl Try.call26 rfl rfl) (cbytes_ok (p := 0) _ hp5 (hO5.sl.cur (by intro h1; have h3 : ((w4.heap.size ≤ pb5 ∧ pb5 ≠ pb5) ∧ pb5 < w5.heap.size) := h1; first | omega | simp at h3)) bb (by omega) (by omega) (by omega) (by omega)) ?_
        rintro v w16 ⟨a16, c16, rfl, hp16, hO16, hU16⟩
        have hzw16 := hU16.size
        replace hb := hb.upd1 hU16 (by intro h1; have h3 : pb5 < w.heap.size := h1; omega)
        replace HU := HU.trans1 hU16 (by show (False) ∨ w.heap.size ≤ pb5; omega)
        replace hO3 := hO3.upd1 hU16 (by intro h1; have h3 : ((w2.heap.size ≤ pb5) ∧ pb5 < w3.heap.size) := h1; omega)
        replace hO4 := hO4.upd1 hU16 (by intro h1; have h3 : ((w3.heap.size ≤ pb5) ∧ pb5 < w4.heap.size) := h1; omega)
        replace hO5 := hO5.upd1 hU16 (by intro h1; have h3 : ((w4.heap.size ≤ pb5 ∧ pb5 ≠ pb5) ∧ pb5 < w5.heap.size) := h1; omega)
        replace hX := hX.upd1 hU16 (by omega)
        replace hXt := hXt.upd1 hU16 (by intro h1; have h3 : pb5 = B1 := h1; omega)
        replace hO10 := hO10.upd1 hU16 (by intro h1; have h3 : ((w8.heap.size ≤ pb5) ∧ pb5 < w10.heap.size) := h1; omega)
        have hbl_hp16 := hp16.lt
        replace hO16 := hO16.tight
        have hl_hO16 := ilen hO16.sl
        have hc_hO16 := hO16.sl.cap.1
        refine Wl_v (r_mv (v := .tuple #[.slice a16 (((n : Nat) : Int).toNat) c16, .int .i64 0]) rfl) ?_
        refine Wl_v (r_ext (v := .slice a16 (((n : Nat) : Int).toNat) c16) rfl rfl) ?_
        refine Wl_v (r_ext (v := .int .i64 0) rfl rfl) ?_
        refine Wl_v (r_as (v := .slice a16 (((n : Nat) : Int).toNat) c16) rfl) ?_
        refine Wl_v (r_as (v := .int .i64 0) rfl) ?_
        refine Wl_nil ?_
        refine W_seq ?_
        refine W_seq ?_
        refine W_region ?_
        refine Wl_v (r_as (v := .int .i64 0) rfl) ?_
        refine Wl_nil ?_
        refine W_block ?_
        refine W_loop (fun mu ρ ds w' => ∃ (i4 : Nat), n - i4 = mu ∧ ds = [] ∧ Liv ρ [(0, .slice a n c), (4, .slice a3 (n + 4) c3), (5, .slice a4 (n + (vi 7).length) c4), (13, .slice a16 (((n : Nat) : Int).toNat) c16), (14, .int .i64 0), (15, .int .i64 ((i4 : Nat) : Int))] ∧ i4 ≤ n ∧ Upd No w16 w') _ ⟨0, rfl, rfl, ⟨rfl, rfl, rfl, rfl, rfl, (by first | rfl | exact vint (by omega) | exact vint (by simp)), trivial⟩, (by omega), Upd.refl _ _⟩ ?_
        rintro m17 ρ17 ds17 w17 ⟨i4, rfl, rfl, hl17, hi4, hU17⟩
        obtain ⟨ρ17x, rfl⟩ : ∃ ρx, ρ17 = upds ρx [(0, .slice a n c), (4, .slice a3 (n + 4) c3), (5, .slice a4 (n + (vi 7).length) c4), (13, .slice a16 (((n : Nat) : Int).toNat) c16), (14, .int .i64 0), (15, .int .i64 ((i4 : Nat) : Int))] := ⟨_, upds_self hl17⟩
        clear hl17
        have hzw17 := hU17.size
        replace hb := hb.upd0 hU17
        replace HU := HU.trans0 hU17
        replace hO3 := hO3.upd0 hU17
        replace hO4 := hO4.upd0 hU17
        replace hO5 := hO5.upd0 hU17
        replace hX := hX.upd0 hU17
        replace hXt := hXt.upd0 hU17
        replace hO10 := hO10.upd0 hU17
        replace hp16 := hp16.upd0 hU17
        replace hO16 := hO16.upd0 hU17
        have HL17 := hU17
        refine W_seq ?_
        refine W_seq ?_
        refine W_region ?_
        refine Wl_v (r_mv (v := .int .i64 ((i4 : Nat) : Int)) rfl) ?_
        refine Wl_v (r_mv (v := .slice a3 (n + 4) c3) rfl) ?_
        refine Wl_v (r_len Try.underlying22 rfl) ?_
        refine Wl_v (r_lt rfl rfl) ?_
        refine Wl_v (r_mv (v := .bool (decide (((i4 : Nat) : Int) < ((n + 4 : Nat) : Int)))) rfl) ?_
        by_cases q8 : ((i4 : Nat) : Int) < ((n + 4 : Nat) : Int)
        · rw [decide_eq_true q8]
          refine Wl_guard_t rfl ?_
          refine Wl_v (r_mv (v := .int .i64 ((i4 : Nat) : Int)) rfl) ?_
          refine Wl_guard_t rfl ?_
          refine Wl_v (r_mv (v := .slice a n c) rfl) ?_
          refine Wl_guard_t rfl ?_
          refine Wl_v (r_len Try.underlying22 rfl) ?_
          refine Wl_guard_t rfl ?_
          refine Wl_v (r_lt rfl rfl) ?_
          refine Wl_v (r_pick_t (v := .bool (decide (((i4 : Nat) : Int) < ((n : Nat) : Int)))) rfl rfl) ?_
          refine Wl_nil ?_
          by_cases q9 : ((i4 : Nat) : Int) < ((n : Nat) : Int)
          · rw [decide_eq_true q9]
            refine W_cond_t rfl ?_
            refine W_skip ?_
            refine W_seq ?_
            refine W_block ?_
            refine W_seq ?_
            refine W_drawt rfl (l0 := #[false, false, false, false, false, false, false, false, false, false, false, false, false, false, false, false, false, false, false, false]) (by kernel_rfl) ?_
            refine Wt_take (i := 0) (listed' := #[true, false, false, false, false, false, false, false, false, false, false, false, false, false, false, false, false, false, false, false]) (by kernel_rfl) rfl (by kernel_rfl) (by kernel_rfl) (by kernel_rfl) (by kernel_rfl) (YI_v (v := .slice a3 (n + 4) c3) rfl (fun w' hw' => r_mv (v := .slice a3 (n + 4) c3) rfl)) ?_
            refine Wt_take (i := 1) (listed' := #[true, true, false, false, false, false, false, false, false, false, false, false, false, false, false, false, false, false, false, false]) (by kernel_rfl) rfl (by kernel_rfl) (by kernel_rfl) (by kernel_rfl) (by kernel_rfl) (YI_v (v := .int .i64 ((i4 : Nat) : Int)) rfl (fun w' hw' => r_mv (v := .int .i64 ((i4 : Nat) : Int)) rfl)) ?_
            obtain ⟨ib18, io18, ha18, hib18, hc18⟩ := (hO3.sl).iat (i := i4) (by omega)
            replace hib18 : ((w2.heap.size ≤ ib18) ∧ ib18 < w3.heap.size) := hib18
            refine Wt_take (i := 2) (listed' := #[true, true, true, false, false, false, false, false, false, false, false, false, false, false, false, false, false, false, false, false]) (by kernel_rfl) rfl (by kernel_rfl) (by kernel_rfl) (by kernel_rfl) (by kernel_rfl) (YI_v (v := .pointer (some ⟨ib18, io18 + i4, none⟩)) rfl (fun w' hw' => r_idx (b := ib18) (off := io18) (m := n + 4) (c := c3) (o' := io18 + i4) Try.underlying22 Try.sizeOf5 (by rw [← ha18]; rfl) rfl (by omega) (by omega) (by omega))) ?_
            refine Wt_take (i := 3) (listed' := #[true, true, true, true, false, false, false, false, false, false, false, false, false, false, false, false, false, false, false, false]) (by kernel_rfl) rfl (by kernel_rfl) (by kernel_rfl) (by kernel_rfl) (by kernel_rfl) (YI_v (v := .int .u8 ((bs ++ word 7).getD i4 0)) rfl (fun w' hw' => r_load Try.isAgg5 rfl (hw'.cellk hc18))) ?_
            refine Wt_take (i := 4) (listed' := #[true, true, true, true, true, false, false, false, false, false, false, false, false, false, false, false, false, false, false, false]) (by kernel_rfl) rfl (by kernel_rfl) (by kernel_rfl) (by kernel_rfl) (by kernel_rfl) (YI_v (v := .slice a n c) rfl (fun w' hw' => r_mv (v := .slice a n c) rfl)) ?_
            refine Wt_take (i := 5) (listed' := #[true, true, true, true, true, true, false, false, false, false, false, false, false, false, false, false, false, false, false, false]) (by kernel_rfl) rfl (by kernel_rfl) (by kernel_rfl) (by kernel_rfl) (by kernel_rfl) (YI_v (v := .int .i64 ((i4 : Nat) : Int)) rfl (fun w' hw' => r_mv (v := .int .i64 ((i4 : Nat) : Int)) rfl)) ?_
            obtain ⟨ib19, io19, ha19, hib19, hc19⟩ := (hb).iat (i := i4) (by omega)
            replace hib19 : ib19 < w.heap.size := hib19
            refine Wt_take (i := 6) (listed' := #[true, true, true, true, true, true, true, false, false, false, false, false, false, false, false, false, false, false, false, false]) (by kernel_rfl) rfl (by kernel_rfl) (by kernel_rfl) (by kernel_rfl) (by kernel_rfl) (YI_v (v := .pointer (some ⟨ib19, io19 + i4, none⟩)) rfl (fun w' hw' => r_idx (b := ib19) (off := io19) (m := n) (c := c) (o' := io19 + i4) Try.underlying22 Try.sizeOf5 (by rw [← ha19]; rfl) rfl (by omega) (by omega) (by omega))) ?_
            refine Wt_take (i := 7) (listed' := #[true, true, true, true, true, true, true, true, false, false, false, false, false, false, false, false, false, false, false, false]) (by kernel_rfl) rfl (by kernel_rfl) (by kernel_rfl) (by kernel_rfl) (by kernel_rfl) (YI_v (v := .int .u8 (bs.getD i4 0)) rfl (fun w' hw' => r_load Try.isAgg5 rfl (hw'.cellk hc19))) ?_
            refine Wt_take (i := 8) (listed' := #[true, true, true, true, true, true, true, true, true, false, false, false, false, false, false, false, false, false, false, false]) (by kernel_rfl) rfl (by kernel_rfl) (by kernel_rfl) (by kernel_rfl) (by kernel_rfl) (YI_v (v := .bool (decide (((bs ++ word 7).getD i4 0) ≠ (bs.getD i4 0)))) rfl (fun w' hw' => r_ne rfl rfl)) ?_
            refine Wt_take (i := 9) (listed' := #[true, true, true, true, true, true, true, true, true, true, false, false, false, false, false, false, false, false, false, false]) (by kernel_rfl) rfl (by kernel_rfl) (by kernel_rfl) (by kernel_rfl) (by kernel_rfl) (YI_v (v := .bool (decide (((bs ++ word 7).getD i4 0) ≠ (bs.getD i4 0)))) rfl (fun w' hw' => r_mv (v := .bool (decide (((bs ++ word 7).getD i4 0) ≠ (bs.getD i4 0)))) rfl)) ?_
            have q10 : ¬ (((bs ++ word 7).getD i4 0) ≠ (bs.getD i4 0)) := (fun h => h (getD_hd (by omega)))
            rw [decide_eq_false q10]
            refine Wt_take (i := 10) (listed' := #[true, true, true, true, true, true, true, true, true, true, true, false, false, false, false, false, false, false, false, false]) (by kernel_rfl) rfl (by kernel_rfl) (by kernel_rfl) (by kernel_rfl) (by kernel_rfl) (YI_v (v := .slice a4 (n + (vi 7).length) c4) rfl (fun w' hw' => r_mv (v := .slice a4 (n + (vi 7).length) c4) rfl)) ?_
            refine Wt_take (i := 11) (listed' := #[true, true, true, true, true, true, true, true, true, true, true, true, false, false, false, false, false, false, false, false]) (by kernel_rfl) rfl (by kernel_rfl) (by kernel_rfl) (by kernel_rfl) (by kernel_rfl) (YI_v (v := .int .i64 ((i4 : Nat) : Int)) rfl (fun w' hw' => r_mv (v := .int .i64 ((i4 : Nat) : Int)) rfl)) ?_
            obtain ⟨ib20, io20, ha20, hib20, hc20⟩ := (hO4.sl).iat (i := i4) (by omega)
            replace hib20 : ((w3.heap.size ≤ ib20) ∧ ib20 < w4.heap.size) := hib20
            refine Wt_take (i := 12) (listed' := #[true, true, true, true, true, true, true, true, true, true, true, true, true, false, false, false, false, false, false, false]) (by kernel_rfl) rfl (by kernel_rfl) (by kernel_rfl) (by kernel_rfl) (by kernel_rfl) (YI_v (v := .pointer (some ⟨ib20, io20 + i4, none⟩)) rfl (fun w' hw' => r_idx (b := ib20) (off := io20) (m := n + (vi 7).length) (c := c4) (o' := io20 + i4) Try.underlying22 Try.sizeOf5 (by rw [← ha20]; rfl) rfl (by omega) (by omega) (by omega))) ?_
            refine Wt_take (i := 13) (listed' := #[true, true, true, true, true, true, true, true, true, true, true, true, true, true, false, false, false, false, false, false]) (by kernel_rfl) rfl (by kernel_rfl) (by kernel_rfl) (by kernel_rfl) (by kernel_rfl) (YI_v (v := .int .u8 ((bs ++ vi 7).getD i4 0)) rfl (fun w' hw' => r_load Try.isAgg5 rfl (hw'.cellk hc20))) ?_
            refine Wt_take (i := 14) (listed' := #[true, true, true, true, true, true, true, true, true, true, true, true, true, true, true, false, false, false, false, false]) (by kernel_rfl) rfl (by kernel_rfl) (by kernel_rfl) (by kernel_rfl) (by kernel_rfl) (YI_v (v := .slice a n c) rfl (fun w' hw' => r_mv (v := .slice a n c) rfl)) ?_
            refine Wt_take (i := 15) (listed' := #[true, true, true, true, true, true, true, true, true, true, true, true, true, true, true, true, false, false, false, false]) (by kernel_rfl) rfl (by kernel_rfl) (by kernel_rfl) (by kernel_rfl) (by kernel_rfl) (YI_v (v := .int .i64 ((i4 : Nat) : Int)) rfl (fun w' hw' => r_mv (v := .int .i64 ((i4 : Nat) : Int)) rfl)) ?_
            obtain ⟨ib21, io21, ha21, hib21, hc21⟩ := (hb).iat (i := i4) (by omega)
            replace hib21 : ib21 < w.heap.size := hib21
            refine Wt_take (i := 16) (listed' := #[true, true, true, true, true, true, true, true, true, true, true, true, true, true, true, true, true, false, false, false]) (by kernel_rfl) rfl (by kernel_rfl) (by kernel_rfl) (by kernel_rfl) (by kernel_rfl) (YI_v (v := .pointer (some ⟨ib21, io21 + i4, none⟩)) rfl (fun w' hw' => r_idx (b := ib21) (off := io21) (m := n) (c := c) (o' := io21 + i4) Try.underlying22 Try.sizeOf5 (by rw [← ha21]; rfl) rfl (by omega) (by omega) (by omega))) ?_
            refine Wt_take (i := 17) (listed' := #[true, true, true, true, true, true, true, true, true, true, true, true, true, true, true, true, true, true, false, false]) (by kernel_rfl) rfl (by kernel_rfl) (by kernel_rfl) (by kernel_rfl) (by kernel_rfl) (YI_v (v := .int .u8 (bs.getD i4 0)) rfl (fun w' hw' => r_load Try.isAgg5 rfl (hw'.cellk hc21))) ?_
            refine Wt_take (i := 18) (listed' := #[true, true, true, true, true, true, true, true, true, true, true, true, true, true, true, true, true, true, true, false]) (by kernel_rfl) rfl (by kernel_rfl) (by kernel_rfl) (by kernel_rfl) (by kernel_rfl) (YI_v (v := .bool (decide (((bs ++ vi 7).getD i4 0) ≠ (bs.getD i4 0)))) rfl (fun w' hw' => r_ne rfl rfl)) ?_
            refine Wt_take (i := 19) (listed' := #[true, true, true, true, true, true, true, true, true, true, true, true, true, true, true, true, true, true, true, true]) (by kernel_rfl) rfl (by kernel_rfl) (by kernel_rfl) (by kernel_rfl) (by kernel_rfl) (YI_v rfl (fun w' hw' => r_pick_f (v := .bool (decide (((bs ++ vi 7).getD i4 0) ≠ (bs.getD i4 0)))) rfl rfl)) ?_
            intro w22 hU22
            have hzw22 := hU22.size
            replace hb := hb.upd0 hU22
            replace HU := HU.trans0 hU22
            replace hO3 := hO3.upd0 hU22
            replace hO4 := hO4.upd0 hU22
            replace hO5 := hO5.upd0 hU22
            replace hX := hX.upd0 hU22
            replace hXt := hXt.upd0 hU22
            replace hO10 := hO10.upd0 hU22
            replace hp16 := hp16.upd0 hU22
            replace hO16 := hO16.upd0 hU22
            replace HL17 := HL17.trans0 hU22
            replace hc18 := cell_upd0 hU22 hc18
            replace hc19 := cell_upd0 hU22 hc19
            replace hc20 := cell_upd0 hU22 hc20
            replace hc21 := cell_upd0 hU22 hc21
            refine Wa_done (by kernel_rfl) ?_
            have q11 : ¬ (((bs ++ vi 7).getD i4 0) ≠ (bs.getD i4 0)) := (fun h => h (getD_hd (by omega)))
            rw [decide_eq_false q11]
            refine W_cond_f rfl ?_
            refine W_skip ?_
            refine W_region ?_
            refine Wl_v (r_mv (v := .int .i64 ((i4 : Nat) : Int)) rfl) ?_
            refine Wl_v (r_add rfl rfl (wi64 (by omega) (by omega))) ?_
            refine Wl_v (r_as (v := .int .i64 (((i4 : Nat) : Int) + 1)) rfl) ?_
            refine Wl_nil ?_
            refine ⟨_, ?_, (i4 + 1), rfl, rfl, ⟨rfl, rfl, rfl, rfl, rfl, (by first | rfl | exact vint (by omega) | exact vint (by simp)), trivial⟩, (by omega), HL17⟩
            omega
          · rw [decide_eq_false q9]
            refine W_cond_f rfl ?_
            refine W_exit ?_
            refine W_seq ?_
            refine W_region ?_
            refine Wl_v (r_mv (v := .int .i64 0) rfl) ?_
            refine Wl_v (v := .bool true) (r_eq (a := 0) (b := 0) rfl rfl) ?_
            refine Wl_v (r_mv (v := .bool true) rfl) ?_
            refine Wl_guard_t rfl ?_
            refine Wl_v (r_mv (v := .slice a16 (((n : Nat) : Int).toNat) c16) rfl) ?_
            refine Wl_guard_t rfl ?_
            refine Wl_v (r_mv (v := .slice a n c) rfl) ?_
            refine Wl_guard_t rfl ?_
            refine Wl_call (r_call2 rfl Try.call13 rfl rfl) (same_spec _ hO16.sl.any hb.any (byt_take (byt_drop bb _) _) bb) ?_
            rintro v w23 ⟨rfl, hU23⟩
            have hzw23 := hU23.size
            replace hb := hb.upd0 hU23
            replace HU := HU.trans0 hU23
            replace hO3 := hO3.upd0 hU23
            replace hO4 := hO4.upd0 hU23
            replace hO5 := hO5.upd0 hU23
            replace hX := hX.upd0 hU23
            replace hXt := hXt.upd0 hU23
            replace hO10 := hO10.upd0 hU23
            replace hp16 := hp16.upd0 hU23
            replace hO16 := hO16.upd0 hU23
            refine Wl_v (r_pick_t (v := .bool (decide (((bs.drop 0).take ((n : Nat) : Int).toNat) = bs))) rfl rfl) ?_
            refine Wl_v (r_mv (v := .bool (decide (((bs.drop 0).take ((n : Nat) : Int).toNat) = bs))) rfl) ?_
            have q12 : ((bs.drop 0).take ((n : Nat) : Int).toNat) = bs := (by rw [List.drop_zero, List.take_of_length_le (by omega)])
            rw [decide_eq_true q12]
            refine Wl_guard_t rfl ?_
            refine Wl_call (r_call0 rfl Try.call19 ) (known_spec _ ) ?_
            rintro v w24 ⟨rfl, hU24⟩
            have hzw24 := hU24.size
            replace hb := hb.upd0 hU24
            replace HU := HU.trans0 hU24
            replace hO3 := hO3.upd0 hU24
            replace hO4 := hO4.upd0 hU24
            replace hO5 := hO5.upd0 hU24
            replace hX := hX.upd0 hU24
            replace hXt := hXt.upd0 hU24
            replace hO10 := hO10.upd0 hU24
            replace hp16 := hp16.upd0 hU24
            replace hO16 := hO16.upd0 hU24
            refine Wl_v (r_pick_t (v := .bool true) rfl rfl) ?_
            refine Wl_v (r_as (v := .bool true) rfl) ?_
            refine Wl_nil ?_
            refine W_ret ?_
            refine ret_end (v := .bool true) rfl (res1 Try.results7 rfl) ?_
            exact ⟨_, rfl, rfl, HU⟩
        · rw [decide_eq_false q8]
          refine Wl_guard_f rfl ?_
          refine Wl_guard_f rfl ?_
          refine Wl_guard_f rfl ?_
          refine Wl_guard_f rfl ?_
          refine Wl_v (r_pick_f (v := .bool false) rfl rfl) ?_
          refine Wl_nil ?_
          refine W_cond_f rfl ?_
          refine W_exit ?_
          refine W_seq ?_
          refine W_region ?_
          refine Wl_v (r_mv (v := .int .i64 0) rfl) ?_
          refine Wl_v (v := .bool true) (r_eq (a := 0) (b := 0) rfl rfl) ?_
          refine Wl_v (r_mv (v := .bool true) rfl) ?_
          refine Wl_guard_t rfl ?_
          refine Wl_v (r_mv (v := .slice a16 (((n : Nat) : Int).toNat) c16) rfl) ?_
          refine Wl_guard_t rfl ?_
          refine Wl_v (r_mv (v := .slice a n c) rfl) ?_
          refine Wl_guard_t rfl ?_
          refine Wl_call (r_call2 rfl Try.call13 rfl rfl) (same_spec _ hO16.sl.any hb.any (byt_take (byt_drop bb _) _) bb) ?_
          rintro v w25 ⟨rfl, hU25⟩
          have hzw25 := hU25.size
          replace hb := hb.upd0 hU25
          replace HU := HU.trans0 hU25
          replace hO3 := hO3.upd0 hU25
          replace hO4 := hO4.upd0 hU25
          replace hO5 := hO5.upd0 hU25
          replace hX := hX.upd0 hU25
          replace hXt := hXt.upd0 hU25
          replace hO10 := hO10.upd0 hU25
          replace hp16 := hp16.upd0 hU25
          replace hO16 := hO16.upd0 hU25
          refine Wl_v (r_pick_t (v := .bool (decide (((bs.drop 0).take ((n : Nat) : Int).toNat) = bs))) rfl rfl) ?_
          refine Wl_v (r_mv (v := .bool (decide (((bs.drop 0).take ((n : Nat) : Int).toNat) = bs))) rfl) ?_
          have q13 : ((bs.drop 0).take ((n : Nat) : Int).toNat) = bs := (by rw [List.drop_zero, List.take_of_length_le (by omega)])
          rw [decide_eq_true q13]
          refine Wl_guard_t rfl ?_
          refine Wl_call (r_call0 rfl Try.call19 ) (known_spec _ ) ?_
          rintro v w26 ⟨rfl, hU26⟩
          have hzw26 := hU26.size
          replace hb := hb.upd0 hU26
          replace HU := HU.trans0 hU26
          replace hO3 := hO3.upd0 hU26
          replace hO4 := hO4.upd0 hU26
          replace hO5 := hO5.upd0 hU26
          replace hX := hX.upd0 hU26
          replace hXt := hXt.upd0 hU26
          replace hO10 := hO10.upd0 hU26
          replace hp16 := hp16.upd0 hU26
          replace hO16 := hO16.upd0 hU26
          refine Wl_v (r_pick_t (v := .bool true) rfl rfl) ?_
          refine Wl_v (r_as (v := .bool true) rfl) ?_
          refine Wl_nil ?_
          refine W_ret ?_
          refine ret_end (v := .bool true) rfl (res1 Try.results7 rfl) ?_
          exact ⟨_, rfl, rfl, HU⟩

end Go.Proofs.Ytigojafhogjnfaa
