/-
 Walks, printed by a small program of this project (gen.py).
-/
import Derived.Test.YtdppageondgjkaaGreatVk
import Derived.Test.YtdppageondgjkaaGreatQb
set_option linter.unusedVariables false
set_option linter.unusedSimpArgs false
namespace Go.Proofs.YtdppageondgjkaaGreat
open Go.Fw
open Nu
theorem rep_ints (k : IntKind) (x : Int) (n : Nat) : (List.replicate n [Value.int k x]).flatten = ints k (List.replicate n x) := by simp [ints]
set_option maxHeartbeats 8000000 in
set_option maxRecDepth 100000 in
theorem fourjoins {a : Option Addr} {n c : Nat} {xs : List (List Int)} {long : Bool} (w : World) (hRW : Rws w 0 w.heap.size a n c xs) (hbx : ∀ i, Byt (xs.getD i [])) (hn : n ≤ 140737488351232) :
  Calls Tryz.prog 6 #[.slice a n c, .bool (decide (long = true))] w (Ret fun v w' => v = .bool true ∧ Upd No w w') := by
 have HU : Upd (fun b => False) w w := Upd.refl _ _
 refine calls_of_W Tryz.func6 rfl Tryz.ntmps6 (by simp) ?_
 refine W_seq (W_region ?_)
 refine Was (.bool false) ?_
 refine Wl_nil (W_seq (W_seq (W_region ?_)))
 refine Wmv (.slice a n c) ?_
 refine Wl_v (r_len Tryz.underlying41 rfl) ?_
 refine Wl_v (r_gt rfl rfl) ?_
 refine Wl_nil ?_
 by_cases q1 : 6 < ((n : Nat) : Int)
 ·rw [decide_eq_true q1]
  refine W_cond_t rfl ?_
  refine W_seq (W_region ?_)
  refine Wl_call (r_call0 rfl Tryz.call16 ) (works18 _ ) ?_
  rintro v w1 ⟨rfl, hU1⟩
  have hzw1 := hU1.size
  replace HU := HU.trans0 hU1
  refine Was (.bool true) ?_
  refine Wl_nil ?_
  refine W_ret ?_
  refine ret_end (v := .bool true) rfl (res1 Tryz.results6 rfl) ?_
  exact ⟨_, rfl, rfl, HU⟩
 ·rw [decide_eq_false q1]
  refine W_cond_f rfl ?_
  refine W_skip (W_seq (W_seq (W_region ?_)))
  refine Was (.int .i64 0) ?_
  refine Wl_nil (W_block ?_)
  refine W_loop (fun mu ρ ds w' => ∃ (k : Nat), n - k = mu ∧ ds = [] ∧ Liv ρ [(0, .slice a n c), (1, .bool (decide (long = true))), (5, .int .i64 ((k : Nat) : Int))] ∧ k ≤ n ∧ (∀ j, j < k → (xs.getD j []).length ≤ 100) ∧ Upd No w w') _ ⟨0, rfl, rfl, ⟨rfl, rfl, (by first | rfl | exact vint (by omega) | exact vint (by simp)), trivial⟩, (by omega), (fun j hj => absurd hj (by omega)), Upd.refl _ _⟩ ?_
  rintro m2 ρ2 ds2 w2 ⟨k, rfl, rfl, hl2, hk, hall, hU2⟩
  obtain ⟨ρ2x, rfl⟩ : ∃ ρx, ρ2 = upds ρx [(0, .slice a n c), (1, .bool (decide (long = true))), (5, .int .i64 ((k : Nat) : Int))] := ⟨_, upds_self hl2⟩
  clear hl2
  have hzw2 := hU2.size
  replace hRW := hRW.upd0 hU2
  replace HU := HU.trans0 hU2
  have HL2 := hU2
  refine W_seq (W_seq (W_region ?_))
  refine Wmv (.int .i64 ((k : Nat) : Int)) ?_
  refine Wmv (.slice a n c) ?_
  refine Wl_v (r_len Tryz.underlying41 rfl) ?_
  refine Wl_v (r_lt rfl rfl) ?_
  refine Wl_nil ?_
  by_cases q2 : ((k : Nat) : Int) < ((n : Nat) : Int)
  ·rw [decide_eq_true q2]
   refine W_cond_t rfl ?_
   refine W_skip (W_seq (W_block (W_seq (W_region ?_))))
   refine Wmv (.slice a n c) ?_
   refine Wmv (.int .i64 ((k : Nat) : Int)) ?_
   obtain ⟨ax3, mx3, cx3, ib3, io3, ha3, hc3, hsy3⟩ := hRW.at (i := k) (by omega)
   have hl_hsy3 := ilen hsy3
   have hc_hsy3 := hsy3.cap.1
   refine Wl_v (r_idx (b := ib3) (off := io3) (m := n) (c := c) (o' := io3 + k * 1) Tryz.underlying41 Tryz.sizeOf32 (by rw [← ha3]; rfl) rfl (by omega) (by omega) (by omega)) ?_
   refine Wl_loadc Tryz.isAgg32 rfl hc3 ?_
   refine Wl_v (r_len Tryz.underlying32 rfl) ?_
   refine Wl_v (r_gt rfl rfl) ?_
   refine Wl_nil ?_
   by_cases q3 : 100 < ((mx3 : Nat) : Int)
   ·rw [decide_eq_true q3]
    refine W_cond_t rfl ?_
    refine W_seq (W_region ?_)
    refine Wl_call (r_call0 rfl Tryz.call16 ) (works18 _ ) ?_
    rintro v w4 ⟨rfl, hU4⟩
    have hzw4 := hU4.size
    replace HU := HU.trans0 hU4
    refine Was (.bool true) ?_
    refine Wl_nil ?_
    refine W_ret ?_
    refine ret_end (v := .bool true) rfl (res1 Tryz.results6 rfl) ?_
    exact ⟨_, rfl, rfl, HU⟩
   ·rw [decide_eq_false q3]
    refine W_cond_f rfl ?_
    refine W_skip (W_region ?_)
    refine Wmv (.int .i64 ((k : Nat) : Int)) ?_
    refine Wl_v (r_add rfl rfl (wi64 (by omega) (by omega))) ?_
    refine Was (.int .i64 (((k : Nat) : Int) + 1)) ?_
    refine Wl_nil ?_
    refine ⟨_, ?_, (k + 1), rfl, rfl, ⟨rfl, rfl, (Eq.trans (b := .int .i64 (((k : Nat) : Int) + 1)) rfl (vint (by omega))), trivial⟩, (by omega), (fun j hj => (Nat.lt_or_ge j k).elim (fun h9 => hall j h9) (fun h9 => by rw [show j = k from by omega]; omega)), HL2⟩
    omega
  ·rw [decide_eq_false q2]
   have hkn : n = k := by omega
   subst hkn
   refine W_cond_f rfl ?_
   refine W_exit ?_
   refine W_seq (W_region ?_)
   refine Wmv (.slice a n c) ?_
   by_cases q4 : n = 4
   ·subst q4
    obtain ⟨ja, ka, qa, jb, kb, qb, jc, kc, qc, jd, kd, qd, hS9, h9a, h9b, h9c, h9d⟩ := hRW.four
    have hl_h9a := ilen h9a
    have hc_h9a := h9a.cap.1
    have hx9a := hall 0 (by decide)
    have hl_h9b := ilen h9b
    have hc_h9b := h9b.cap.1
    have hx9b := hall 1 (by decide)
    have hl_h9c := ilen h9c
    have hc_h9c := h9c.cap.1
    have hx9c := hall 2 (by decide)
    have hl_h9d := ilen h9d
    have hc_h9d := h9d.cap.1
    have hx9d := hall 3 (by decide)
    refine Wl_call (r_call1 rfl Tryz.call21 rfl) (fjoin_ok _ hS9 h9a.any h9b.any h9c.any h9d.any (by omega) (by omega)) ?_
    rintro v w5 ⟨a5, m5, c5, rfl, hO5, hU5⟩
    have hzw5 := hU5.size
    replace HU := HU.trans0 hU5
    replace hS9 := hS9.upd0 hU5
    replace h9a := h9a.upd0 hU5
    replace h9b := h9b.upd0 hU5
    replace h9c := h9c.upd0 hU5
    replace h9d := h9d.upd0 hU5
    replace hO5 := hO5.tight
    have hl_hO5 := ilen hO5.sl
    have hc_hO5 := hO5.sl.cap.1
    refine Wmv (.tuple #[.slice a5 m5 c5, .int .i64 0]) ?_
    refine Wl_v (r_ext (v := .slice a5 m5 c5) rfl rfl) ?_
    refine Wl_v (r_ext (v := .int .i64 0) rfl rfl) ?_
    refine Was (.slice a5 m5 c5) ?_
    refine Was (.int .i64 0) ?_
    refine Wl_nil (W_seq (W_seq (W_region ?_)))
    refine Wmv (.slice a 4 c) ?_
    refine Wl_v (r_len Tryz.underlying41 rfl) ?_
    refine Wl_v (v := .bool false) (r_ne (a := 4) (b := 4) rfl rfl) ?_
    refine Wl_nil ?_
    refine W_cond_f rfl ?_
    refine W_skip (W_seq (W_seq (W_region ?_)))
    refine Wmv (.bool (decide (long = true))) ?_
    refine Wl_nil ?_
    by_cases q5 : long = true
    ·rw [decide_eq_true q5]
     refine W_cond_t rfl ?_
     refine W_seq ?_
     refine W_drawt rfl (l0 := tf 0 17) (by kernel_rfl) ?_
     refine Tk 1 (#[false, true, false, false, false, false, false, false, false, false, false, false, false, false, false, false, false]) rfl (YI_v (v := .slice a 4 c) rfl (fun w' hw' => r_mv (v := .slice a 4 c) rfl)) ?_
     obtain ⟨ib6, io6, ha6, hx6⟩ := Sl.at (hS9) (i := 1) (by decide)
     have hc6 : w5.cell? ⟨ib6, io6 + 1 * 1, none⟩ = some (.slice jb kb qb) := hx6 0 (by decide)
     refine Tk 2 (#[false, true, true, false, false, false, false, false, false, false, false, false, false, false, false, false, false]) rfl (YI_v (v := .pointer (some ⟨ib6, io6 + 1 * 1, none⟩)) rfl (fun w' hw' => r_idx (b := ib6) (off := io6) (m := 4) (c := c) (o' := io6 + 1 * 1) Tryz.underlying41 Tryz.sizeOf32 (by rw [← ha6]; rfl) rfl (by omega) (by omega) (by omega))) ?_
     refine Tk 3 (#[false, true, true, true, false, false, false, false, false, false, false, false, false, false, false, false, false]) rfl (YI_v (v := .slice jb kb qb) rfl (fun w' hw' => r_load Tryz.isAgg32 rfl (hw'.cellk hc6))) ?_
     refine Tk 4 (#[false, true, true, true, true, false, false, false, false, false, false, false, false, false, false, false, false]) rfl (YI_v (v := .slice a 4 c) rfl (fun w' hw' => r_mv (v := .slice a 4 c) rfl)) ?_
     obtain ⟨ib7, io7, ha7, hx7⟩ := Sl.at (hS9) (i := 2) (by decide)
     have hc7 : w5.cell? ⟨ib7, io7 + 2 * 1, none⟩ = some (.slice jc kc qc) := hx7 0 (by decide)
     refine Tk 5 (#[false, true, true, true, true, true, false, false, false, false, false, false, false, false, false, false, false]) rfl (YI_v (v := .pointer (some ⟨ib7, io7 + 2 * 1, none⟩)) rfl (fun w' hw' => r_idx (b := ib7) (off := io7) (m := 4) (c := c) (o' := io7 + 2 * 1) Tryz.underlying41 Tryz.sizeOf32 (by rw [← ha7]; rfl) rfl (by omega) (by omega) (by omega))) ?_
     refine Tk 6 (#[false, true, true, true, true, true, true, false, false, false, false, false, false, false, false, false, false]) rfl (YI_v (v := .slice jc kc qc) rfl (fun w' hw' => r_load Tryz.isAgg32 rfl (hw'.cellk hc7))) ?_
     refine Tk 7 (#[false, true, true, true, true, true, true, true, false, false, false, false, false, false, false, false, false]) rfl (YI_v (v := .slice a 4 c) rfl (fun w' hw' => r_mv (v := .slice a 4 c) rfl)) ?_
     obtain ⟨ib8, io8, ha8, hx8⟩ := Sl.at (hS9) (i := 3) (by decide)
     have hc8 : w5.cell? ⟨ib8, io8 + 3 * 1, none⟩ = some (.slice jd kd qd) := hx8 0 (by decide)
     refine Tk 8 (#[false, true, true, true, true, true, true, true, true, false, false, false, false, false, false, false, false]) rfl (YI_v (v := .pointer (some ⟨ib8, io8 + 3 * 1, none⟩)) rfl (fun w' hw' => r_idx (b := ib8) (off := io8) (m := 4) (c := c) (o' := io8 + 3 * 1) Tryz.underlying41 Tryz.sizeOf32 (by rw [← ha8]; rfl) rfl (by omega) (by omega) (by omega))) ?_
     refine Tk 9 (#[false, true, true, true, true, true, true, true, true, true, false, false, false, false, false, false, false]) rfl (YI_v (v := .slice jd kd qd) rfl (fun w' hw' => r_load Tryz.isAgg32 rfl (hw'.cellk hc8))) ?_
     intro w9 hU9
     have hzw9 := hU9.size
     replace HU := HU.trans0 hU9
     replace hS9 := hS9.upd0 hU9
     replace h9a := h9a.upd0 hU9
     replace h9b := h9b.upd0 hU9
     replace h9c := h9c.upd0 hU9
     replace h9d := h9d.upd0 hU9
     replace hO5 := hO5.upd0 hU9
     refine Wa_one (i := 0) (listed' := tf 10 17) (by kernel_rfl) rfl (by kernel_rfl) ?_
     refine Ws_of_Wl ?_
     have hW : Upd No w5 w9 := hU9
     refine Wl_makeo (c' := 131073) (zc := [.int .u8 0]) (cs := ints .u8 (List.replicate 131073 0)) (sz := 1) Tryz.underlying32 (ti := Tryz.t5) (z := .int .u8 0) rfl rfl rfl rfl (by decide) rfl rfl (by omega) (by omega) (by show 1 * _ ≤ _; omega) (by simp only [maxLen]; omega) (rep_ints _ _ _) rfl ?_
     intro B10 w10 hB10 hU10 hzz10 hO10
     have hzw10 := hU10.size
     replace HU := HU.trans0 hU10
     replace hS9 := hS9.upd0 hU10
     replace h9a := h9a.upd0 hU10
     replace h9b := h9b.upd0 hU10
     replace h9c := h9c.upd0 hU10
     replace h9d := h9d.upd0 hU10
     replace hO5 := hO5.upd0 hU10
     try replace hW := hW.trans0 hU10
     have hl_hO10 := ilen hO10.sl
     have hc_hO10 := hO10.sl.cap.1
     refine Wl_nil ?_
     intro w11 hS11
     have hX : Upd No w5 w11 := hW.trans0 hS11.upd
     refine ⟨fun _ => ⟨hX, ?_⟩, fun h => absurd h (by rw [show barOp _ 0 = false from by kernel_rfl]; simp)⟩
     have hU11 := hS11.upd
     have hzw11 := hU11.size
     replace HU := HU.trans0 hU11
     replace hS9 := hS9.upd0 hU11
     replace h9a := h9a.upd0 hU11
     replace h9b := h9b.upd0 hU11
     replace h9c := h9c.upd0 hU11
     replace h9d := h9d.upd0 hU11
     replace hO5 := hO5.upd0 hU11
     try replace hW := hW.trans0 hU11
     refine Wt_base hX ?_
     intro w12 hU12
     have hzw12 := hU12.size
     replace HU := HU.trans0 hU12
     replace hS9 := hS9.upd0 hU12
     replace h9a := h9a.upd0 hU12
     replace h9b := h9b.upd0 hU12
     replace h9c := h9c.upd0 hU12
     replace h9d := h9d.upd0 hU12
     replace hO5 := hO5.upd0 hU12
     try replace hW := hW.trans0 hU12
     refine Wa_one (i := 10) (listed' := tf 11 17) (by kernel_rfl) rfl (by kernel_rfl) ?_
     refine Ws_of_Wl ?_
     have hW : Upd No w11 w12 := hU12
     refine Wl_lit (pv := [(0, .slice (some ⟨B10, 0, none⟩) 131073 131073), (1, .slice jb kb qb), (2, .slice jc kc qc), (3, .slice jd kd qd)]) (cs := [.slice (some ⟨B10, 0, none⟩) 131073 131073, .slice jb kb qb, .slice jc kc qc, .slice jd kd qd]) Tryz.underlying41 Tryz.sizeOf32 Tryz.zeroValue32 (by decide) (by decide) (by simp only [List.map_toArray, List.map_cons, List.map_nil] <;> rfl) (by kernel_rfl) rfl (by decide) ?_
     intro B13 w13 hB13 hU13 hzz13 hs13
     have hzw13 := hU13.size
     replace HU := HU.trans0 hU13
     replace hS9 := hS9.upd0 hU13
     replace h9a := h9a.upd0 hU13
     replace h9b := h9b.upd0 hU13
     replace h9c := h9c.upd0 hU13
     replace h9d := h9d.upd0 hU13
     replace hO5 := hO5.upd0 hU13
     try replace hW := hW.trans0 hU13
     refine Wl_nil ?_
     intro w14 hS14
     refine ⟨fun h => absurd h (by rw [show barOp _ 10 = true from by kernel_rfl]; simp), fun _ => ⟨Upd No w14, ?_⟩⟩
     have hU14 := hS14.upd
     have hzw14 := hU14.size
     replace HU := HU.trans0 hU14
     replace hS9 := hS9.upd0 hU14
     replace h9a := h9a.upd0 hU14
     replace h9b := h9b.upd0 hU14
     replace h9c := h9c.upd0 hU14
     replace h9d := h9d.upd0 hU14
     replace hO5 := hO5.upd0 hU14
     replace hs13 := hs13.upd0 hU14
     try replace hW := hW.trans0 hU14
     refine Wt_base (Upd.refl _ _) ?_
     intro w15 hU15
     have hzw15 := hU15.size
     replace HU := HU.trans0 hU15
     replace hS9 := hS9.upd0 hU15
     replace h9a := h9a.upd0 hU15
     replace h9b := h9b.upd0 hU15
     replace h9c := h9c.upd0 hU15
     replace h9d := h9d.upd0 hU15
     replace hO5 := hO5.upd0 hU15
     replace hs13 := hs13.upd0 hU15
     try replace hW := hW.trans0 hU15
     refine Wa_one (i := 11) (listed' := tf 12 17) (by kernel_rfl) rfl (by kernel_rfl) ?_
     refine Ws_of_Wl ?_
     have hW : Upd No w14 w15 := hU15
     refine Wl_call (r_call1 rfl Tryz.call21 rfl) (fjoin_l _ hs13.sl (by omega)) ?_
     rintro v w16 ⟨rfl, hU16⟩
     have hzw16 := hU16.size
     replace HU := HU.trans0 hU16
     replace hS9 := hS9.upd0 hU16
     replace h9a := h9a.upd0 hU16
     replace h9b := h9b.upd0 hU16
     replace h9c := h9c.upd0 hU16
     replace h9d := h9d.upd0 hU16
     replace hO5 := hO5.upd0 hU16
     try replace hW := hW.trans0 hU16
     refine Wl_nil ?_
     intro w17 hS17
     refine ⟨fun h => absurd h (by rw [show barOp _ 11 = true from by kernel_rfl]; simp), fun _ => ⟨Upd No w17, ?_⟩⟩
     have hU17 := hS17.upd
     have hzw17 := hU17.size
     replace HU := HU.trans0 hU17
     replace hS9 := hS9.upd0 hU17
     replace h9a := h9a.upd0 hU17
     replace h9b := h9b.upd0 hU17
     replace h9c := h9c.upd0 hU17
     replace h9d := h9d.upd0 hU17
     replace hO5 := hO5.upd0 hU17
     try replace hW := hW.trans0 hU17
     refine Wt_base (Upd.refl _ _) ?_
     refine Tk 12 (tf 13 17) rfl (YI_v (v := .tuple #[.slice none 0 0, .int .i64 2]) rfl (fun w' hw' => r_mv (v := .tuple #[.slice none 0 0, .int .i64 2]) rfl)) ?_
     refine Tk 13 (tf 14 17) rfl (YI_v (v := .slice none 0 0) rfl (fun w' hw' => r_ext (v := .slice none 0 0) rfl rfl)) ?_
     refine Tk 14 (tf 15 17) rfl (YI_v (v := .int .i64 2) rfl (fun w' hw' => r_ext (v := .int .i64 2) rfl rfl)) ?_
     refine Tk 15 (tf 16 17) rfl (YI_v (v := .slice none 0 0) rfl (fun w' hw' => r_as (v := .slice none 0 0) rfl)) ?_
     refine Tk 16 (tf 17 17) rfl (YI_v (v := .int .i64 2) rfl (fun w' hw' => r_as (v := .int .i64 2) rfl)) ?_
     intro w18 hU18
     have hzw18 := hU18.size
     replace HU := HU.trans0 hU18
     replace hS9 := hS9.upd0 hU18
     replace h9a := h9a.upd0 hU18
     replace h9b := h9b.upd0 hU18
     replace h9c := h9c.upd0 hU18
     replace h9d := h9d.upd0 hU18
     replace hO5 := hO5.upd0 hU18
     try replace hW := hW.trans0 hU18
     refine Wa_done (by kernel_rfl) ?_
     refine W_seq (W_region ?_)
     refine Wmv (.slice none 0 0) ?_
     refine Wmv (.int .i64 2) ?_
     refine Wl_call (r_call4 rfl Tryz.call19 rfl rfl rfl rfl) (is18 (x := []) (y := []) _ (Sl.nil _ _ _) byt_nil byt_nil) ?_
     rintro v w19 ⟨rfl, hU19⟩
     have hzw19 := hU19.size
     replace HU := HU.trans0 hU19
     replace hS9 := hS9.upd0 hU19
     replace h9a := h9a.upd0 hU19
     replace h9b := h9b.upd0 hU19
     replace h9c := h9c.upd0 hU19
     replace h9d := h9d.upd0 hU19
     replace hO5 := hO5.upd0 hU19
     try replace hW := hW.trans0 hU19
     refine Wl_v (r_not rfl) ?_
     refine Wl_nil ?_
     have q6 : ([] : List Int) = [] ∧ (2 : Int) = 2 := ⟨rfl, rfl⟩
     rw [decide_eq_true q6]
     simp only [Bool.not_true, Bool.not_false]
     refine W_cond_f rfl ?_
     refine W_skip (W_seq (W_region ?_))
     refine Wmv (.slice a5 m5 c5) ?_
     refine Wmv (.int .i64 0) ?_
     refine Wmv (.slice a 4 c) ?_
     refine Wl_call (r_call1 rfl Tryz.call22 rfl) (rjoin4 _ hS9 h9a.any h9b.any h9c.any h9d.any (by omega)) ?_
     rintro v w20 ⟨a20, m20, c20, rfl, hO20, hU20⟩
     have hzw20 := hU20.size
     replace HU := HU.trans0 hU20
     replace hO5 := hO5.upd0 hU20
     try replace hW := hW.trans0 hU20
     replace hO20 := hO20.tight
     have hl_hO20 := ilen hO20.sl
     have hc_hO20 := hO20.sl.cap.1
     refine Wl_bstr Tryz.underlying32 Tryz.underlying5 Tryz.underlying9 rfl hO20.sl ?_
     refine Wl_call (r_call4 rfl Tryz.call19 rfl rfl rfl rfl) (is18 (y := jn (xs.getD 0 []) (xs.getD 1 []) (xs.getD 2 []) (xs.getD 3 [])) _ hO5.sl.any (jn_byt (hbx _) (hbx _) (hbx _) (hbx _)) (jn_byt (hbx _) (hbx _) (hbx _) (hbx _))) ?_
     rintro v w21 ⟨rfl, hU21⟩
     have hzw21 := hU21.size
     replace HU := HU.trans0 hU21
     try replace hW := hW.trans0 hU21
     refine Wmv (.bool (decide (((jn (xs.getD 0 []) (xs.getD 1 []) (xs.getD 2 []) (xs.getD 3 [])) : List Int) = (jn (xs.getD 0 []) (xs.getD 1 []) (xs.getD 2 []) (xs.getD 3 [])) ∧ (0 : Int) = 0))) ?_
     have q7 : ((jn (xs.getD 0 []) (xs.getD 1 []) (xs.getD 2 []) (xs.getD 3 [])) : List Int) = (jn (xs.getD 0 []) (xs.getD 1 []) (xs.getD 2 []) (xs.getD 3 [])) ∧ (0 : Int) = 0 := ⟨rfl, rfl⟩
     rw [decide_eq_true q7]
     refine Wl_guard_t rfl ?_
     refine Wl_call (r_call0 rfl Tryz.call16 ) (works18 _ ) ?_
     rintro v w22 ⟨rfl, hU22⟩
     have hzw22 := hU22.size
     replace HU := HU.trans0 hU22
     try replace hW := hW.trans0 hU22
     refine Wl_v (r_pick_t (v := .bool true) rfl rfl) ?_
     refine Was (.bool true) ?_
     refine Wl_nil ?_
     refine W_ret ?_
     refine ret_end (v := .bool true) rfl (res1 Tryz.results6 rfl) ?_
     exact ⟨_, rfl, rfl, HU⟩
    ·rw [decide_eq_false q5]
     refine W_cond_f rfl ?_
     refine W_skip (W_seq (W_region ?_))
     refine Wmv (.slice a5 m5 c5) ?_
     refine Wmv (.int .i64 0) ?_
     refine Wmv (.slice a 4 c) ?_
     refine Wl_call (r_call1 rfl Tryz.call22 rfl) (rjoin4 _ hS9 h9a.any h9b.any h9c.any h9d.any (by omega)) ?_
     rintro v w23 ⟨a23, m23, c23, rfl, hO23, hU23⟩
     have hzw23 := hU23.size
     replace HU := HU.trans0 hU23
     replace hO5 := hO5.upd0 hU23
     replace hO23 := hO23.tight
     have hl_hO23 := ilen hO23.sl
     have hc_hO23 := hO23.sl.cap.1
     refine Wl_bstr Tryz.underlying32 Tryz.underlying5 Tryz.underlying9 rfl hO23.sl ?_
     refine Wl_call (r_call4 rfl Tryz.call19 rfl rfl rfl rfl) (is18 (y := jn (xs.getD 0 []) (xs.getD 1 []) (xs.getD 2 []) (xs.getD 3 [])) _ hO5.sl.any (jn_byt (hbx _) (hbx _) (hbx _) (hbx _)) (jn_byt (hbx _) (hbx _) (hbx _) (hbx _))) ?_
     rintro v w24 ⟨rfl, hU24⟩
     have hzw24 := hU24.size
     replace HU := HU.trans0 hU24
     refine Wmv (.bool (decide (((jn (xs.getD 0 []) (xs.getD 1 []) (xs.getD 2 []) (xs.getD 3 [])) : List Int) = (jn (xs.getD 0 []) (xs.getD 1 []) (xs.getD 2 []) (xs.getD 3 [])) ∧ (0 : Int) = 0))) ?_
     have q8 : ((jn (xs.getD 0 []) (xs.getD 1 []) (xs.getD 2 []) (xs.getD 3 [])) : List Int) = (jn (xs.getD 0 []) (xs.getD 1 []) (xs.getD 2 []) (xs.getD 3 [])) ∧ (0 : Int) = 0 := ⟨rfl, rfl⟩
     rw [decide_eq_true q8]
     refine Wl_guard_t rfl ?_
     refine Wl_call (r_call0 rfl Tryz.call16 ) (works18 _ ) ?_
     rintro v w25 ⟨rfl, hU25⟩
     have hzw25 := hU25.size
     replace HU := HU.trans0 hU25
     refine Wl_v (r_pick_t (v := .bool true) rfl rfl) ?_
     refine Was (.bool true) ?_
     refine Wl_nil ?_
     refine W_ret ?_
     refine ret_end (v := .bool true) rfl (res1 Tryz.results6 rfl) ?_
     exact ⟨_, rfl, rfl, HU⟩
   ·refine Wl_call (r_call1 rfl Tryz.call21 rfl) (fjoin_n _ q4) ?_
    rintro v w26 ⟨rfl, hU26⟩
    have hzw26 := hU26.size
    replace HU := HU.trans0 hU26
    refine Wmv (.tuple #[.slice none 0 0, .int .i64 2]) ?_
    refine Wl_v (r_ext (v := .slice none 0 0) rfl rfl) ?_
    refine Wl_v (r_ext (v := .int .i64 2) rfl rfl) ?_
    refine Was (.slice none 0 0) ?_
    refine Was (.int .i64 2) ?_
    refine Wl_nil (W_seq (W_seq (W_region ?_)))
    refine Wmv (.slice a n c) ?_
    refine Wl_v (r_len Tryz.underlying41 rfl) ?_
    refine Wl_v (r_ne rfl rfl) ?_
    refine Wl_nil ?_
    have q9 : ((n : Nat) : Int) ≠ 4 := (by omega)
    rw [decide_eq_true q9]
    refine W_cond_t rfl ?_
    refine W_seq (W_region ?_)
    refine Wmv (.slice none 0 0) ?_
    refine Wmv (.int .i64 2) ?_
    refine Wl_call (r_call4 rfl Tryz.call19 rfl rfl rfl rfl) (is18 (x := []) (y := []) _ (Sl.nil _ _ _) byt_nil byt_nil) ?_
    rintro v w27 ⟨rfl, hU27⟩
    have hzw27 := hU27.size
    replace HU := HU.trans0 hU27
    refine Wmv (.bool (decide (([] : List Int) = [] ∧ (2 : Int) = 2))) ?_
    have q10 : ([] : List Int) = [] ∧ (2 : Int) = 2 := ⟨rfl, rfl⟩
    rw [decide_eq_true q10]
    refine Wl_guard_t rfl ?_
    refine Wl_call (r_call0 rfl Tryz.call16 ) (works18 _ ) ?_
    rintro v w28 ⟨rfl, hU28⟩
    have hzw28 := hU28.size
    replace HU := HU.trans0 hU28
    refine Wl_v (r_pick_t (v := .bool true) rfl rfl) ?_
    refine Was (.bool true) ?_
    refine Wl_nil ?_
    refine W_ret ?_
    refine ret_end (v := .bool true) rfl (res1 Tryz.results6 rfl) ?_
    exact ⟨_, rfl, rfl, HU⟩
end Go.Proofs.YtdppageondgjkaaGreat
