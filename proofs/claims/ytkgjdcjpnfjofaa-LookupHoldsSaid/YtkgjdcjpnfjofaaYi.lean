/-
  Walks, printed by a small program of this project (gen.py).
-/
import Derived.Test.YtkgjdcjpnfjofaaYh
set_option linter.unusedVariables false
set_option linter.unusedSimpArgs false
namespace Go.Proofs.Ytkgjdcjpnfjofaa
open Go.Fw

theorem runs1_emp {ly B : Nat} {J : Nat → World → Prop} {Jx : World → Prop} (w : World) (h : Calls Try.prog 40 #[.func (.yield ly) #[] #[], .pointer (some ⟨B, 0, none⟩)] w (Ret fun v w' => Upd No w w')) (hJ0 : J 0 w) (hJS : ∀ (j : Nat) (w w' : World), J j w → Upd No w w' → J j w')
    (hy : ∀ j w, j < 0 → J j w → YieldC Try.prog ly #[.int .i64 0, .agg #[.int .i64 0, .int .i64 0]] w (fun e w' => (e = .returned (.bool true) ∧ (Upd No w w' ∧ J (j + 1) w')) ∨ (e = .returned (.bool false) ∧ Jx w'))) :
    Calls Try.prog 40 #[.func (.yield ly) #[] #[], .pointer (some ⟨B, 0, none⟩)] w (Ret fun v w' => J 0 w' ∨ Jx w') :=
  h.mono fun e w' ⟨v, he, hu⟩ => ⟨v, he, .inl (hJS _ _ _ hJ0 hu)⟩

set_option maxRecDepth 100000 in
theorem runs1_nil {ly B : Nat} (w : World) (hB : Blk w B [.pointer none]) :
    Calls Try.prog 40 #[.func (.yield ly) #[] #[], .pointer (some ⟨B, 0, none⟩)] w (Ret fun v w' => Upd No w w') := by
  have HU : Upd (fun b => False) w w := Upd.refl _ _
  have hbl_B := hB.lt
  refine calls_of_W Try.func40 rfl Try.ntmps40 (by simp) ?_
  refine W_scope ?_
  refine W_seq ?_
  refine W_label ?_
  refine W_seq ?_
  refine W_region ?_
  refine Wl_v (r_as (v := .int .i64 0) rfl) ?_
  refine Wl_nil ?_
  refine W_block ?_
  refine W_loop (fun mu ρ ds w' => 0 = mu ∧ ds = [] ∧ Liv ρ [(0, .func (.yield ly) #[] #[]), (1, .pointer (some ⟨B, 0, none⟩)), (3, .int .i64 0)] ∧ Upd No w w') _ ⟨rfl, rfl, ⟨rfl, rfl, (by first | rfl | exact vint (by omega) | exact vint (by simp)), trivial⟩, Upd.refl _ _⟩ ?_
  rintro m1 ρ1 ds1 w1 ⟨rfl, rfl, hl1, hU1⟩
  obtain ⟨ρ1x, rfl⟩ : ∃ ρx, ρ1 = upds ρx [(0, .func (.yield ly) #[] #[]), (1, .pointer (some ⟨B, 0, none⟩)), (3, .int .i64 0)] := ⟨_, upds_self hl1⟩
  clear hl1
  have hzw1 := hU1.size
  replace hB := hB.upd0 hU1
  replace HU := HU.trans0 hU1
  have HL1 := hU1
  refine W_block ?_
  refine W_seq ?_
  refine W_region ?_
  refine Wl_load (v := .pointer none) Try.isAgg34 rfl hB rfl ?_
  refine Wl_v (r_mv (v := .int .i64 0) rfl) ?_
  refine Wl_call (r_call2 rfl Try.call18 rfl rfl) (at_nil _ ) ?_
  rintro v w2 ⟨rfl, hU2⟩
  have hzw2 := hU2.size
  replace hB := hB.upd0 hU2
  replace HU := HU.trans0 hU2
  replace HL1 := HL1.trans0 hU2
  refine Wl_v (r_mv (v := .tuple #[.agg #[.int .i64 0, .int .i64 0], .bool false]) rfl) ?_
  refine Wl_v (r_ext (v := .agg #[.int .i64 0, .int .i64 0]) rfl rfl) ?_
  refine Wl_v (r_ext (v := .bool false) rfl rfl) ?_
  refine Wl_alloc (cs := [.int .i64 0, .int .i64 0]) Try.zeroValue38 rfl ?_
  intro B3 w3 hB3 hU3 hzz3 hb3
  have hzw3 := hU3.size
  replace hB := hB.upd0 hU3
  replace HU := HU.trans0 hU3
  replace HL1 := HL1.trans0 hU3
  refine Wl_storea (off := 0) (vs := [.int .i64 0, .int .i64 0]) (cs' := [.int .i64 0, .int .i64 0]) Try.sizeOf38 rfl rfl rfl (by simp only [List.mem_cons, List.not_mem_nil, or_false, forall_eq_or_imp, forall_eq]; exact ⟨rfl, rfl⟩) hb3 (by simp) rfl ?_
  intro w4 hU4 hzz4 hb3n
  replace hb3 := hb3n; clear hb3n
  have hzw4 := hU4.size
  replace hB := hB.upd1 hU4 (by omega)
  replace HU := HU.trans1 hU4 (by show (False) ∨ w.heap.size ≤ B3; omega)
  replace HL1 := HL1.trans1 hU4 (by show (False) ∨ w.heap.size ≤ B3; omega)
  refine Wl_v (r_as (v := .bool false) rfl) ?_
  refine Wl_nil ?_
  refine W_seq ?_
  refine W_seq ?_
  refine W_region ?_
  refine Wl_v (r_mv (v := .bool false) rfl) ?_
  refine Wl_v (r_not (b := false) rfl) ?_
  refine Wl_v (r_mv (v := .bool true) rfl) ?_
  refine Wl_guard_f rfl ?_
  refine Wl_guard_f rfl ?_
  refine Wl_guard_f rfl ?_
  refine Wl_guard_f rfl ?_
  refine Wl_guard_f rfl ?_
  refine Wl_v (r_pick_t (v := .bool true) rfl rfl) ?_
  refine Wl_nil ?_
  refine W_cond_t rfl ?_
  refine W_exit ?_
  refine nrm_end (v := .tuple #[]) rfl (res0 Try.results40) ?_
  exact ⟨_, rfl, HU⟩

set_option maxRecDepth 100000 in
theorem runs1_zero {ly B : Nat} {tb : Nat} {xe xl : Value} (w : World) (hB : Blk w B [.pointer (some ⟨tb, 0, none⟩)]) (hT : Blk w tb [xe, .int .i64 0, xl]) :
    Calls Try.prog 40 #[.func (.yield ly) #[] #[], .pointer (some ⟨B, 0, none⟩)] w (Ret fun v w' => Upd No w w') := by
  have HU : Upd (fun b => False) w w := Upd.refl _ _
  have hbl_B := hB.lt
  have hbl_T := hT.lt
  refine calls_of_W Try.func40 rfl Try.ntmps40 (by simp) ?_
  refine W_scope ?_
  refine W_seq ?_
  refine W_label ?_
  refine W_seq ?_
  refine W_region ?_
  refine Wl_v (r_as (v := .int .i64 0) rfl) ?_
  refine Wl_nil ?_
  refine W_block ?_
  refine W_loop (fun mu ρ ds w' => 0 = mu ∧ ds = [] ∧ Liv ρ [(0, .func (.yield ly) #[] #[]), (1, .pointer (some ⟨B, 0, none⟩)), (3, .int .i64 0)] ∧ Upd No w w') _ ⟨rfl, rfl, ⟨rfl, rfl, (by first | rfl | exact vint (by omega) | exact vint (by simp)), trivial⟩, Upd.refl _ _⟩ ?_
  rintro m1 ρ1 ds1 w1 ⟨rfl, rfl, hl1, hU1⟩
  obtain ⟨ρ1x, rfl⟩ : ∃ ρx, ρ1 = upds ρx [(0, .func (.yield ly) #[] #[]), (1, .pointer (some ⟨B, 0, none⟩)), (3, .int .i64 0)] := ⟨_, upds_self hl1⟩
  clear hl1
  have hzw1 := hU1.size
  replace hB := hB.upd0 hU1
  replace hT := hT.upd0 hU1
  replace HU := HU.trans0 hU1
  have HL1 := hU1
  refine W_block ?_
  refine W_seq ?_
  refine W_region ?_
  refine Wl_load (v := .pointer (some ⟨tb, 0, none⟩)) Try.isAgg34 rfl hB rfl ?_
  refine Wl_v (r_mv (v := .int .i64 0) rfl) ?_
  refine Wl_call (r_call2 rfl Try.call18 rfl rfl) (at_zero _ hT) ?_
  rintro v w2 ⟨rfl, hU2⟩
  have hzw2 := hU2.size
  replace hB := hB.upd0 hU2
  replace hT := hT.upd0 hU2
  replace HU := HU.trans0 hU2
  replace HL1 := HL1.trans0 hU2
  refine Wl_v (r_mv (v := .tuple #[.agg #[.int .i64 0, .int .i64 0], .bool false]) rfl) ?_
  refine Wl_v (r_ext (v := .agg #[.int .i64 0, .int .i64 0]) rfl rfl) ?_
  refine Wl_v (r_ext (v := .bool false) rfl rfl) ?_
  refine Wl_alloc (cs := [.int .i64 0, .int .i64 0]) Try.zeroValue38 rfl ?_
  intro B3 w3 hB3 hU3 hzz3 hb3
  have hzw3 := hU3.size
  replace hB := hB.upd0 hU3
  replace hT := hT.upd0 hU3
  replace HU := HU.trans0 hU3
  replace HL1 := HL1.trans0 hU3
  refine Wl_storea (off := 0) (vs := [.int .i64 0, .int .i64 0]) (cs' := [.int .i64 0, .int .i64 0]) Try.sizeOf38 rfl rfl rfl (by simp only [List.mem_cons, List.not_mem_nil, or_false, forall_eq_or_imp, forall_eq]; exact ⟨rfl, rfl⟩) hb3 (by simp) rfl ?_
  intro w4 hU4 hzz4 hb3n
  replace hb3 := hb3n; clear hb3n
  have hzw4 := hU4.size
  replace hB := hB.upd1 hU4 (by omega)
  replace hT := hT.upd1 hU4 (by omega)
  replace HU := HU.trans1 hU4 (by show (False) ∨ w.heap.size ≤ B3; omega)
  replace HL1 := HL1.trans1 hU4 (by show (False) ∨ w.heap.size ≤ B3; omega)
  refine Wl_v (r_as (v := .bool false) rfl) ?_
  refine Wl_nil ?_
  refine W_seq ?_
  refine W_seq ?_
  refine W_region ?_
  refine Wl_v (r_mv (v := .bool false) rfl) ?_
  refine Wl_v (r_not (b := false) rfl) ?_
  refine Wl_v (r_mv (v := .bool true) rfl) ?_
  refine Wl_guard_f rfl ?_
  refine Wl_guard_f rfl ?_
  refine Wl_guard_f rfl ?_
  refine Wl_guard_f rfl ?_
  refine Wl_guard_f rfl ?_
  refine Wl_v (r_pick_t (v := .bool true) rfl rfl) ?_
  refine Wl_nil ?_
  refine W_cond_t rfl ?_
  refine W_exit ?_
  refine nrm_end (v := .tuple #[]) rfl (res0 Try.results40) ?_
  exact ⟨_, rfl, HU⟩

set_option maxRecDepth 100000 in
theorem entries_nil  (w : World)  :
    Calls Try.prog 14 #[.slice none 0 0, .slice none 0 0] w (Ret fun v w' => v = .bool true ∧ Upd No w w') := by
  have HU : Upd (fun b => False) w w := Upd.refl _ _
  refine calls_of_W Try.func14 rfl Try.ntmps14 (by simp) ?_
  refine W_seq ?_
  refine W_region ?_
  refine Wl_v (r_as (v := .bool false) rfl) ?_
  refine Wl_nil ?_
  refine W_seq ?_
  refine W_seq ?_
  refine W_region ?_
  refine Wl_v (r_mv (v := .slice none 0 0) rfl) ?_
  refine Wl_v (r_len Try.underlying24 rfl) ?_
  refine Wl_v (r_mv (v := .slice none 0 0) rfl) ?_
  refine Wl_v (r_len Try.underlying24 rfl) ?_
  refine Wl_v (v := .bool false) (r_ne (a := 0) (b := 0) rfl rfl) ?_
  refine Wl_nil ?_
  refine W_cond_f rfl ?_
  refine W_skip ?_
  refine W_seq ?_
  refine W_seq ?_
  refine W_region ?_
  refine Wl_v (r_as (v := .int .i64 0) rfl) ?_
  refine Wl_nil ?_
  refine W_block ?_
  refine W_loop (fun mu ρ ds w' => 0 = mu ∧ ds = [] ∧ Liv ρ [(0, .slice none 0 0), (1, .slice none 0 0), (5, .int .i64 0)] ∧ Upd No w w') _ ⟨rfl, rfl, ⟨rfl, rfl, (by first | rfl | exact vint (by omega) | exact vint (by simp)), trivial⟩, Upd.refl _ _⟩ ?_
  rintro m1 ρ1 ds1 w1 ⟨rfl, rfl, hl1, hU1⟩
  obtain ⟨ρ1x, rfl⟩ : ∃ ρx, ρ1 = upds ρx [(0, .slice none 0 0), (1, .slice none 0 0), (5, .int .i64 0)] := ⟨_, upds_self hl1⟩
  clear hl1
  have hzw1 := hU1.size
  replace HU := HU.trans0 hU1
  have HL1 := hU1
  refine W_seq ?_
  refine W_seq ?_
  refine W_region ?_
  refine Wl_v (r_mv (v := .int .i64 0) rfl) ?_
  refine Wl_v (r_mv (v := .slice none 0 0) rfl) ?_
  refine Wl_v (r_len Try.underlying24 rfl) ?_
  refine Wl_v (v := .bool false) (r_lt (a := 0) (b := 0) rfl rfl) ?_
  refine Wl_nil ?_
  refine W_cond_f rfl ?_
  refine W_exit ?_
  refine W_seq ?_
  refine W_region ?_
  refine Wl_v (r_as (v := .bool true) rfl) ?_
  refine Wl_nil ?_
  refine W_ret ?_
  refine ret_end (v := .bool true) rfl (res1 Try.results14 rfl) ?_
  exact ⟨_, rfl, rfl, HU⟩

set_option maxHeartbeats 2000000 in
set_option maxRecDepth 100000 in
theorem lookupof {a : Option Addr} {n c : Nat} {l : List Int} (w : World) (hs : Sl w (fun g => g < w.heap.size) 1 (.slice a n c) n (ints .i64 l)) (hn : n ≤ 17592186044415) :
    Calls Try.prog 3 #[.slice a n c] w (Ret fun v w' => v = .bool true ∧ Upd No w w') := by
  have HU : Upd (fun b => False) w w := Upd.refl _ _
  have hl_hs := ilen hs
  have hc_hs := hs.cap.1
  have hmx := mx_bt l
  refine calls_of_W Try.func3 rfl Try.ntmps3 (by simp) ?_
  refine W_seq ?_
  refine W_region ?_
  refine Wl_v (r_as (v := .bool false) rfl) ?_
  refine Wl_nil ?_
  refine W_seq ?_
  refine W_seq ?_
  refine W_region ?_
  refine Wl_v (r_mv (v := .slice a n c) rfl) ?_
  refine Wl_v (r_len Try.underlying22 rfl) ?_
  refine Wl_v (r_gt rfl rfl) ?_
  refine Wl_nil ?_
  by_cases q1 : 300 < ((n : Nat) : Int)
  · rw [decide_eq_true q1]
    refine W_cond_t rfl ?_
    refine W_seq ?_
    refine W_region ?_
    refine Wl_call (r_call0 rfl Try.call11 ) (works15 _ ) ?_
    rintro v w1 ⟨rfl, hU1⟩
    have hzw1 := hU1.size
    replace hs := hs.upd0 hU1
    replace HU := HU.trans0 hU1
    refine Wl_v (r_as (v := .bool true) rfl) ?_
    refine Wl_nil ?_
    refine W_ret ?_
    refine ret_end (v := .bool true) rfl (res1 Try.results3 rfl) ?_
    exact ⟨_, rfl, rfl, HU⟩
  · rw [decide_eq_false q1]
    refine W_cond_f rfl ?_
    refine W_skip ?_
    refine W_seq ?_
    refine W_region ?_
    refine Wl_lit0 Try.underlying22 Try.sizeOf3 ?_
    intro B2 w2 hB2 hU2 hzz2 hs2
    have hzw2 := hU2.size
    replace hs := hs.upd0 hU2
    replace HU := HU.trans0 hU2
    refine Wl_v (r_mv (v := .slice a n c) rfl) ?_
    refine Wl_appendi (xs := []) (ys := l) (zs := l) (k' := .i64) (tot := n) (by first | rfl | exact (rows_app _ _).symm | simp) Try.underlying22 (ti := Try.t3) (z := .int .i64 0) (sz := 1) (by' := 8) rfl rfl rfl rfl rfl (by decide) rfl hs2 rfl hs  (by omega) (by simp only [maxLen]; omega) (by omega) ?_
    intro a3 c3 w3 hU3 hzz3 hO3
    clear hs2
    have hzw3 := hU3.size
    replace hs := hs.upd hU3 (by intro x h1 h2; have h3 : x < w.heap.size := h1; have h4 : x = B2 := h2; omega)
    replace HU := HU.trans hU3 (by intro x hx; have hx2 : x = B2 := hx; show (False) ∨ w.heap.size ≤ x; omega)
    replace hO3 := hO3.tight
    have hl_hO3 := ilen hO3.sl
    have hc_hO3 := hO3.sl.cap.1
    refine Wl_v (r_as (v := .slice a3 n c3) rfl) ?_
    refine Wl_nil ?_
    refine W_seq ?_
    refine W_region ?_
    refine Wl_v (r_mv (v := .slice a3 n c3) rfl) ?_
    by_cases q2 : Rt l
    · have hbt := bt_bd q2
      have h11 := (p2_le11 hbt.2).2
      have hpn := p2_nat (bt l)
      have h256 := (q2).2.1
      refine Wl_call (r_call1 rfl Try.call12 rfl) (entries_ok _ hO3.sl (by omega) q2) ?_
      rintro v w4 ⟨a4, c4, rfl, hO4, hU4⟩
      have hzw4 := hU4.size
      replace hs := hs.upd0 hU4
      replace HU := HU.trans0 hU4
      replace hO3 := hO3.upd0 hU4
      replace hO4 := hO4.tight
      have hl_hO4 := rlen encE_len (by decide) hO4.sl
      have hc_hO4 := hO4.sl.cap.1
      refine Wl_v (r_mv (v := .tuple #[.slice a4 (2 ^ bt l) c4, .int .i64 0]) rfl) ?_
      refine Wl_v (r_ext (v := .slice a4 (2 ^ bt l) c4) rfl rfl) ?_
      refine Wl_v (r_ext (v := .int .i64 0) rfl rfl) ?_
      refine Wl_v (r_as (v := .slice a4 (2 ^ bt l) c4) rfl) ?_
      refine Wl_v (r_as (v := .int .i64 0) rfl) ?_
      refine Wl_nil ?_
      refine W_seq ?_
      refine W_region ?_
      refine Wl_v (r_mv (v := .slice a n c) rfl) ?_
      have q3 : Rt l := q2
      refine Wl_call (r_call1 rfl Try.call13 rfl) (of_t _ hs (by omega) q3) ?_
      rintro v w5 ⟨a5, c5, rfl, hO5, hU5⟩
      have hzw5 := hU5.size
      replace hs := hs.upd0 hU5
      replace HU := HU.trans0 hU5
      replace hO3 := hO3.upd0 hU5
      replace hO4 := hO4.upd0 hU5
      replace hO5 := hO5.tight
      have hl_hO5 := rlen encE_len (by decide) hO5.sl
      have hc_hO5 := hO5.sl.cap.1
      refine Wl_v (r_mv (v := .tuple #[.slice a5 (2 ^ bt l) c5, .int .i64 0]) rfl) ?_
      refine Wl_v (r_ext (v := .slice a5 (2 ^ bt l) c5) rfl rfl) ?_
      refine Wl_v (r_ext (v := .int .i64 0) rfl rfl) ?_
      refine Wl_v (r_as (v := .slice a5 (2 ^ bt l) c5) rfl) ?_
      refine Wl_v (r_as (v := .int .i64 0) rfl) ?_
      refine Wl_nil ?_
      refine W_seq ?_
      refine W_region ?_
      refine Wl_v (r_mv (v := .slice a4 (2 ^ bt l) c4) rfl) ?_
      refine Wl_v (r_mv (v := .slice a5 (2 ^ bt l) c5) rfl) ?_
      refine Wl_call (r_call2 rfl Try.call14 rfl rfl) (entries_eq _ hO4.sl hO5.sl (by omega)) ?_
      rintro v w6 ⟨rfl, hU6⟩
      have hzw6 := hU6.size
      replace hs := hs.upd0 hU6
      replace HU := HU.trans0 hU6
      replace hO3 := hO3.upd0 hU6
      replace hO4 := hO4.upd0 hU6
      replace hO5 := hO5.upd0 hU6
      refine Wl_v (r_mv (v := .bool (decide ((tbl l) = (tbl l)))) rfl) ?_
      have q4 : (tbl l) = (tbl l) := rfl
      rw [decide_eq_true q4]
      refine Wl_guard_t rfl ?_
      refine Wl_v (r_mv (v := .int .i64 0) rfl) ?_
      refine Wl_guard_t rfl ?_
      refine Wl_call (r_call1 rfl Try.call15 rfl) (num15 _ ) ?_
      rintro v w7 ⟨rfl, hU7⟩
      have hzw7 := hU7.size
      replace hs := hs.upd0 hU7
      replace HU := HU.trans0 hU7
      replace hO3 := hO3.upd0 hU7
      replace hO4 := hO4.upd0 hU7
      replace hO5 := hO5.upd0 hU7
      refine Wl_guard_t rfl ?_
      refine Wl_v (r_mv (v := .int .i64 0) rfl) ?_
      refine Wl_guard_t rfl ?_
      refine Wl_v (v := .bool true) (r_eq (a := 0) (b := 0) rfl rfl) ?_
      refine Wl_v (r_pick_t (v := .bool true) rfl rfl) ?_
      refine Wl_v (r_mv (v := .bool true) rfl) ?_
      refine Wl_guard_t rfl ?_
      refine Wl_v (r_mv (v := .slice a3 n c3) rfl) ?_
      refine Wl_guard_t rfl ?_
      refine Wl_v (r_mv (v := .slice a n c) rfl) ?_
      refine Wl_guard_t rfl ?_
      refine Wl_call (r_call2 rfl Try.call16 rfl rfl) (same15 _ hO3.sl hs (by omega)) ?_
      rintro v w8 ⟨rfl, hU8⟩
      have hzw8 := hU8.size
      replace hs := hs.upd0 hU8
      replace HU := HU.trans0 hU8
      replace hO3 := hO3.upd0 hU8
      replace hO4 := hO4.upd0 hU8
      replace hO5 := hO5.upd0 hU8
      refine Wl_v (r_pick_t (v := .bool (decide (l = l))) rfl rfl) ?_
      refine Wl_v (r_mv (v := .bool (decide (l = l))) rfl) ?_
      have q5 : l = l := rfl
      rw [decide_eq_true q5]
      refine Wl_guard_t rfl ?_
      refine Wl_call (r_call0 rfl Try.call11 ) (works15 _ ) ?_
      rintro v w9 ⟨rfl, hU9⟩
      have hzw9 := hU9.size
      replace hs := hs.upd0 hU9
      replace HU := HU.trans0 hU9
      replace hO3 := hO3.upd0 hU9
      replace hO4 := hO4.upd0 hU9
      replace hO5 := hO5.upd0 hU9
      refine Wl_v (r_pick_t (v := .bool true) rfl rfl) ?_
      refine Wl_v (r_as (v := .bool true) rfl) ?_
      refine Wl_nil ?_
      refine W_ret ?_
      refine ret_end (v := .bool true) rfl (res1 Try.results3 rfl) ?_
      exact ⟨_, rfl, rfl, HU⟩
    · refine Wl_call (r_call1 rfl Try.call12 rfl) (entries_no _ hO3.sl (by omega) q2) ?_
      rintro v w10 ⟨rfl, hU10⟩
      have hzw10 := hU10.size
      replace hs := hs.upd0 hU10
      replace HU := HU.trans0 hU10
      replace hO3 := hO3.upd0 hU10
      refine Wl_v (r_mv (v := .tuple #[.slice none 0 0, .int .i64 12]) rfl) ?_
      refine Wl_v (r_ext (v := .slice none 0 0) rfl rfl) ?_
      refine Wl_v (r_ext (v := .int .i64 12) rfl rfl) ?_
      refine Wl_v (r_as (v := .slice none 0 0) rfl) ?_
      refine Wl_v (r_as (v := .int .i64 12) rfl) ?_
      refine Wl_nil ?_
      refine W_seq ?_
      refine W_region ?_
      refine Wl_v (r_mv (v := .slice a n c) rfl) ?_
      have q6 : ¬ (Rt l) := q2
      refine Wl_call (r_call1 rfl Try.call13 rfl) (of_f _ hs (by omega) q6) ?_
      rintro v w11 ⟨rfl, hU11⟩
      have hzw11 := hU11.size
      replace hs := hs.upd0 hU11
      replace HU := HU.trans0 hU11
      replace hO3 := hO3.upd0 hU11
      refine Wl_v (r_mv (v := .tuple #[.slice none 0 0, .int .i64 12]) rfl) ?_
      refine Wl_v (r_ext (v := .slice none 0 0) rfl rfl) ?_
      refine Wl_v (r_ext (v := .int .i64 12) rfl rfl) ?_
      refine Wl_v (r_as (v := .slice none 0 0) rfl) ?_
      refine Wl_v (r_as (v := .int .i64 12) rfl) ?_
      refine Wl_nil ?_
      refine W_seq ?_
      refine W_region ?_
      refine Wl_v (r_mv (v := .slice none 0 0) rfl) ?_
      refine Wl_v (r_mv (v := .slice none 0 0) rfl) ?_
      refine Wl_call (r_call2 rfl Try.call14 rfl rfl) (entries_nil _ ) ?_
      rintro v w12 ⟨rfl, hU12⟩
      have hzw12 := hU12.size
      replace hs := hs.upd0 hU12
      replace HU := HU.trans0 hU12
      replace hO3 := hO3.upd0 hU12
      refine Wl_v (r_mv (v := .bool true) rfl) ?_
      refine Wl_guard_t rfl ?_
      refine Wl_v (r_mv (v := .int .i64 12) rfl) ?_
      refine Wl_guard_t rfl ?_
      refine Wl_call (r_call1 rfl Try.call15 rfl) (num15 _ ) ?_
      rintro v w13 ⟨rfl, hU13⟩
      have hzw13 := hU13.size
      replace hs := hs.upd0 hU13
      replace HU := HU.trans0 hU13
      replace hO3 := hO3.upd0 hU13
      refine Wl_guard_t rfl ?_
      refine Wl_v (r_mv (v := .int .i64 12) rfl) ?_
      refine Wl_guard_t rfl ?_
      refine Wl_v (v := .bool true) (r_eq (a := 12) (b := 12) rfl rfl) ?_
      refine Wl_v (r_pick_t (v := .bool true) rfl rfl) ?_
      refine Wl_v (r_mv (v := .bool true) rfl) ?_
      refine Wl_guard_t rfl ?_
      refine Wl_v (r_mv (v := .slice a3 n c3) rfl) ?_
      refine Wl_guard_t rfl ?_
      refine Wl_v (r_mv (v := .slice a n c) rfl) ?_
      refine Wl_guard_t rfl ?_
      refine Wl_call (r_call2 rfl Try.call16 rfl rfl) (same15 _ hO3.sl hs (by omega)) ?_
      rintro v w14 ⟨rfl, hU14⟩
      have hzw14 := hU14.size
      replace hs := hs.upd0 hU14
      replace HU := HU.trans0 hU14
      replace hO3 := hO3.upd0 hU14
      refine Wl_v (r_pick_t (v := .bool (decide (l = l))) rfl rfl) ?_
      refine Wl_v (r_mv (v := .bool (decide (l = l))) rfl) ?_
      have q7 : l = l := rfl
      rw [decide_eq_true q7]
      refine Wl_guard_t rfl ?_
      refine Wl_call (r_call0 rfl Try.call11 ) (works15 _ ) ?_
      rintro v w15 ⟨rfl, hU15⟩
      have hzw15 := hU15.size
      replace hs := hs.upd0 hU15
      replace HU := HU.trans0 hU15
      replace hO3 := hO3.upd0 hU15
      refine Wl_v (r_pick_t (v := .bool true) rfl rfl) ?_
      refine Wl_v (r_as (v := .bool true) rfl) ?_
      refine Wl_nil ?_
      refine W_ret ?_
      refine ret_end (v := .bool true) rfl (res1 Try.results3 rfl) ?_
      exact ⟨_, rfl, rfl, HU⟩

set_option maxHeartbeats 2000000 in
set_option maxRecDepth 100000 in
theorem lookupnexts {a : Option Addr} {n c : Nat} {l : List Int} {bits m : Int} (w : World) (hs : Sl w (fun g => g < w.heap.size) 1 (.slice a n c) n (ints .i64 l)) (hn : n ≤ 17592186044415) (hbits : 0 ≤ bits ∧ bits < 18446744073709551616) (hm : -9223372036854775808 ≤ m ∧ m ≤ 9223372036854775807) :
    Calls Try.prog 5 #[.slice a n c, .int .u64 bits, .int .i64 m] w (Ret fun v w' => v = .bool true ∧ Upd No w w') := by
  have HU : Upd (fun b => False) w w := Upd.refl _ _
  have hl_hs := ilen hs
  have hc_hs := hs.cap.1
  have hmx := mx_bt l
  refine calls_of_W Try.func5 rfl Try.ntmps5 (by simp) ?_
  refine W_seq ?_
  refine W_region ?_
  refine Wl_v (r_as (v := .bool false) rfl) ?_
  refine Wl_nil ?_
  refine W_seq ?_
  refine W_seq ?_
  refine W_region ?_
  refine Wl_v (r_mv (v := .slice a n c) rfl) ?_
  refine Wl_v (r_len Try.underlying22 rfl) ?_
  refine Wl_v (r_gt rfl rfl) ?_
  refine Wl_nil ?_
  by_cases q1 : 300 < ((n : Nat) : Int)
  · rw [decide_eq_true q1]
    refine W_cond_t rfl ?_
    refine W_seq ?_
    refine W_region ?_
    refine Wl_call (r_call0 rfl Try.call11 ) (works15 _ ) ?_
    rintro v w1 ⟨rfl, hU1⟩
    have hzw1 := hU1.size
    replace hs := hs.upd0 hU1
    replace HU := HU.trans0 hU1
    refine Wl_v (r_as (v := .bool true) rfl) ?_
    refine Wl_nil ?_
    refine W_ret ?_
    refine ret_end (v := .bool true) rfl (res1 Try.results5 rfl) ?_
    exact ⟨_, rfl, rfl, HU⟩
  · rw [decide_eq_false q1]
    refine W_cond_f rfl ?_
    refine W_skip ?_
    refine W_seq ?_
    refine W_region ?_
    refine Wl_v (r_mv (v := .slice a n c) rfl) ?_
    by_cases q2 : Rt l
    · have hbt := bt_bd q2
      have h11 := (p2_le11 hbt.2).2
      have hpn := p2_nat (bt l)
      have h256 := (q2).2.1
      refine Wl_call (r_call1 rfl Try.call17 rfl) (new_ok _ hs (by omega) q2) ?_
      rintro v w2 ⟨tb2, ea2, ec2, la2, lc2, rfl, hT2, hE2, hL2, htg_2, hU2⟩
      have hzw2 := hU2.size
      replace hs := hs.upd0 hU2
      replace HU := HU.trans0 hU2
      have hbl_hT2 := hT2.lt
      replace hE2 := hE2.tight
      have hl_hE2 := rlen encE_len (by decide) hE2.sl
      have hc_hE2 := hE2.sl.cap.1
      replace hL2 := hL2.tight
      have hl_hL2 := ilen hL2.sl
      have hc_hL2 := hL2.sl.cap.1
      refine Wl_v (r_mv (v := .tuple #[.pointer (some ⟨tb2, 0, none⟩), .int .i64 0]) rfl) ?_
      refine Wl_v (r_ext (v := .pointer (some ⟨tb2, 0, none⟩)) rfl rfl) ?_
      refine Wl_v (r_ext (v := .int .i64 0) rfl rfl) ?_
      refine Wl_v (r_as (v := .pointer (some ⟨tb2, 0, none⟩)) rfl) ?_
      refine Wl_v (r_as (v := .int .i64 0) rfl) ?_
      refine Wl_nil ?_
      refine W_seq ?_
      refine W_seq ?_
      refine W_region ?_
      refine Wl_v (r_mv (v := .int .i64 0) rfl) ?_
      refine Wl_call (r_call1 rfl Try.call15 rfl) (num15 _ ) ?_
      rintro v w3 ⟨rfl, hU3⟩
      have hzw3 := hU3.size
      replace hs := hs.upd0 hU3
      replace HU := HU.trans0 hU3
      replace hT2 := hT2.upd0 hU3
      replace hE2 := hE2.upd0 hU3
      replace hL2 := hL2.upd0 hU3
      refine Wl_v (v := .bool false) (r_ne (a := 0) (b := 0) rfl rfl) ?_
      refine Wl_nil ?_
      refine W_cond_f rfl ?_
      refine W_skip ?_
      refine W_seq ?_
      refine W_region ?_
      refine Wl_v (r_mv (v := .pointer (some ⟨tb2, 0, none⟩)) rfl) ?_
      refine Wl_v (r_mv (v := .int .u64 bits) rfl) ?_
      refine Wl_v (r_mv (v := .int .i64 m) rfl) ?_
      refine Wl_call (r_call3 rfl Try.call22 rfl rfl rfl) (tdec _ hT2 hE2.sl.any (by omega) (by omega) (by omega)) ?_
      rintro v w4 ⟨rfl, hU4⟩
      have hzw4 := hU4.size
      replace hs := hs.upd0 hU4
      replace HU := HU.trans0 hU4
      replace hT2 := hT2.upd0 hU4
      replace hE2 := hE2.upd0 hU4
      replace hL2 := hL2.upd0 hU4
      refine Wl_v (r_mv (v := .tuple #[.int .i64 ((dec l bits m).1), .int .i64 ((dec l bits m).2.1), .int .i64 ((dec l bits m).2.2)]) rfl) ?_
      refine Wl_v (r_ext (v := .int .i64 ((dec l bits m).1)) rfl rfl) ?_
      refine Wl_v (r_ext (v := .int .i64 ((dec l bits m).2.1)) rfl rfl) ?_
      refine Wl_v (r_ext (v := .int .i64 ((dec l bits m).2.2)) rfl rfl) ?_
      refine Wl_v (r_as (v := .int .i64 ((dec l bits m).1)) rfl) ?_
      refine Wl_v (r_as (v := .int .i64 ((dec l bits m).2.1)) rfl) ?_
      refine Wl_v (r_as (v := .int .i64 ((dec l bits m).2.2)) rfl) ?_
      refine Wl_nil ?_
      refine W_seq ?_
      refine W_region ?_
      refine Wl_v (r_mv (v := .slice a n c) rfl) ?_
      refine Wl_v (r_mv (v := .int .u64 bits) rfl) ?_
      refine Wl_v (r_mv (v := .int .i64 m) rfl) ?_
      refine Wl_call (r_call3 rfl Try.call23 rfl rfl rfl) (read_spec _ hs (by omega) (by omega) (by omega)) ?_
      rintro v w5 ⟨rfl, hU5⟩
      have hzw5 := hU5.size
      replace hs := hs.upd0 hU5
      replace HU := HU.trans0 hU5
      replace hT2 := hT2.upd0 hU5
      replace hE2 := hE2.upd0 hU5
      replace hL2 := hL2.upd0 hU5
      refine Wl_v (r_mv (v := .tuple #[.int .i64 ((dec l bits m).1), .int .i64 ((dec l bits m).2.1), .int .i64 ((dec l bits m).2.2)]) rfl) ?_
      refine Wl_v (r_ext (v := .int .i64 ((dec l bits m).1)) rfl rfl) ?_
      refine Wl_v (r_ext (v := .int .i64 ((dec l bits m).2.1)) rfl rfl) ?_
      refine Wl_v (r_ext (v := .int .i64 ((dec l bits m).2.2)) rfl rfl) ?_
      refine Wl_v (r_as (v := .int .i64 ((dec l bits m).1)) rfl) ?_
      refine Wl_v (r_as (v := .int .i64 ((dec l bits m).2.1)) rfl) ?_
      refine Wl_v (r_as (v := .int .i64 ((dec l bits m).2.2)) rfl) ?_
      refine Wl_nil ?_
      refine W_seq ?_
      refine W_region ?_
      refine Wl_v (r_mv (v := .int .i64 ((dec l bits m).1)) rfl) ?_
      refine Wl_v (r_mv (v := .int .i64 ((dec l bits m).1)) rfl) ?_
      refine Wl_v (r_eq rfl rfl) ?_
      refine Wl_v (r_mv (v := .bool (decide (((dec l bits m).1) = ((dec l bits m).1)))) rfl) ?_
      have q3 : ((dec l bits m).1) = ((dec l bits m).1) := rfl
      rw [decide_eq_true q3]
      refine Wl_guard_t rfl ?_
      refine Wl_v (r_mv (v := .int .i64 ((dec l bits m).2.1)) rfl) ?_
      refine Wl_guard_t rfl ?_
      refine Wl_v (r_mv (v := .int .i64 ((dec l bits m).2.1)) rfl) ?_
      refine Wl_guard_t rfl ?_
      refine Wl_v (r_eq rfl rfl) ?_
      refine Wl_v (r_pick_t (v := .bool (decide (((dec l bits m).2.1) = ((dec l bits m).2.1)))) rfl rfl) ?_
      refine Wl_v (r_mv (v := .bool (decide (((dec l bits m).2.1) = ((dec l bits m).2.1)))) rfl) ?_
      have q4 : ((dec l bits m).2.1) = ((dec l bits m).2.1) := rfl
      rw [decide_eq_true q4]
      refine Wl_guard_t rfl ?_
      refine Wl_v (r_mv (v := .int .i64 ((dec l bits m).2.2)) rfl) ?_
      refine Wl_guard_t rfl ?_
      refine Wl_call (r_call1 rfl Try.call15 rfl) (num15 _ ) ?_
      rintro v w6 ⟨rfl, hU6⟩
      have hzw6 := hU6.size
      replace hs := hs.upd0 hU6
      replace HU := HU.trans0 hU6
      replace hT2 := hT2.upd0 hU6
      replace hE2 := hE2.upd0 hU6
      replace hL2 := hL2.upd0 hU6
      refine Wl_guard_t rfl ?_
      refine Wl_v (r_mv (v := .int .i64 ((dec l bits m).2.2)) rfl) ?_
      refine Wl_guard_t rfl ?_
      refine Wl_v (r_eq rfl rfl) ?_
      refine Wl_v (r_pick_t (v := .bool (decide (((dec l bits m).2.2) = ((dec l bits m).2.2)))) rfl rfl) ?_
      refine Wl_v (r_mv (v := .bool (decide (((dec l bits m).2.2) = ((dec l bits m).2.2)))) rfl) ?_
      have q5 : ((dec l bits m).2.2) = ((dec l bits m).2.2) := rfl
      rw [decide_eq_true q5]
      refine Wl_guard_t rfl ?_
      refine Wl_call (r_call0 rfl Try.call11 ) (works15 _ ) ?_
      rintro v w7 ⟨rfl, hU7⟩
      have hzw7 := hU7.size
      replace hs := hs.upd0 hU7
      replace HU := HU.trans0 hU7
      replace hT2 := hT2.upd0 hU7
      replace hE2 := hE2.upd0 hU7
      replace hL2 := hL2.upd0 hU7
      refine Wl_v (r_pick_t (v := .bool true) rfl rfl) ?_
      refine Wl_v (r_as (v := .bool true) rfl) ?_
      refine Wl_nil ?_
      refine W_ret ?_
      refine ret_end (v := .bool true) rfl (res1 Try.results5 rfl) ?_
      exact ⟨_, rfl, rfl, HU⟩
    · refine Wl_call (r_call1 rfl Try.call17 rfl) (new_no _ hs (by omega) q2) ?_
      rintro v w8 ⟨rfl, hU8⟩
      have hzw8 := hU8.size
      replace hs := hs.upd0 hU8
      replace HU := HU.trans0 hU8
      refine Wl_v (r_mv (v := .tuple #[.pointer none, .int .i64 12]) rfl) ?_
      refine Wl_v (r_ext (v := .pointer none) rfl rfl) ?_
      refine Wl_v (r_ext (v := .int .i64 12) rfl rfl) ?_
      refine Wl_v (r_as (v := .pointer none) rfl) ?_
      refine Wl_v (r_as (v := .int .i64 12) rfl) ?_
      refine Wl_nil ?_
      refine W_seq ?_
      refine W_seq ?_
      refine W_region ?_
      refine Wl_v (r_mv (v := .int .i64 12) rfl) ?_
      refine Wl_call (r_call1 rfl Try.call15 rfl) (num15 _ ) ?_
      rintro v w9 ⟨rfl, hU9⟩
      have hzw9 := hU9.size
      replace hs := hs.upd0 hU9
      replace HU := HU.trans0 hU9
      refine Wl_v (v := .bool true) (r_ne (a := 12) (b := 0) rfl rfl) ?_
      refine Wl_nil ?_
      refine W_cond_t rfl ?_
      refine W_seq ?_
      refine W_region ?_
      refine Wl_v (r_mv (v := .slice a n c) rfl) ?_
      refine Wl_call (r_call1 rfl Try.call21 rfl) (rright_spec _ hs (by omega)) ?_
      rintro v w10 ⟨rfl, hU10⟩
      have hzw10 := hU10.size
      replace hs := hs.upd0 hU10
      replace HU := HU.trans0 hU10
      refine Wl_v (r_not rfl) ?_
      refine Wl_v (r_mv (v := .bool (!decide (Rt l))) rfl) ?_
      have q6 : ¬ (Rt l) := q2
      rw [decide_eq_false q6]
      simp only [Bool.not_true, Bool.not_false]
      refine Wl_guard_t rfl ?_
      refine Wl_call (r_call0 rfl Try.call11 ) (works15 _ ) ?_
      rintro v w11 ⟨rfl, hU11⟩
      have hzw11 := hU11.size
      replace hs := hs.upd0 hU11
      replace HU := HU.trans0 hU11
      refine Wl_v (r_pick_t (v := .bool true) rfl rfl) ?_
      refine Wl_v (r_as (v := .bool true) rfl) ?_
      refine Wl_nil ?_
      refine W_ret ?_
      refine ret_end (v := .bool true) rfl (res1 Try.results5 rfl) ?_
      exact ⟨_, rfl, rfl, HU⟩

set_option maxHeartbeats 2000000 in
set_option maxRecDepth 100000 in
theorem lookuptwos {a : Option Addr} {n c : Nat} {l : List Int} {i : Int} (w : World) (hs : Sl w (fun g => g < w.heap.size) 1 (.slice a n c) n (ints .i64 l)) (hn : n ≤ 17592186044415) (ri : -9223372036854775808 ≤ i ∧ i ≤ 9223372036854775807) :
    Calls Try.prog 6 #[.slice a n c, .int .i64 i] w (Ret fun v w' => v = .bool true ∧ Upd No w w') := by
  have HU : Upd (fun b => False) w w := Upd.refl _ _
  have hl_hs := ilen hs
  have hc_hs := hs.cap.1
  have hmx := mx_bt l
  refine calls_of_W Try.func6 rfl Try.ntmps6 (by simp) ?_
  refine W_seq ?_
  refine W_region ?_
  refine Wl_v (r_as (v := .bool false) rfl) ?_
  refine Wl_nil ?_
  refine W_seq ?_
  refine W_seq ?_
  refine W_region ?_
  refine Wl_v (r_mv (v := .slice a n c) rfl) ?_
  refine Wl_v (r_len Try.underlying22 rfl) ?_
  refine Wl_v (r_gt rfl rfl) ?_
  refine Wl_nil ?_
  by_cases q1 : 300 < ((n : Nat) : Int)
  · rw [decide_eq_true q1]
    refine W_cond_t rfl ?_
    refine W_seq ?_
    refine W_region ?_
    refine Wl_call (r_call0 rfl Try.call11 ) (works15 _ ) ?_
    rintro v w1 ⟨rfl, hU1⟩
    have hzw1 := hU1.size
    replace hs := hs.upd0 hU1
    replace HU := HU.trans0 hU1
    refine Wl_v (r_as (v := .bool true) rfl) ?_
    refine Wl_nil ?_
    refine W_ret ?_
    refine ret_end (v := .bool true) rfl (res1 Try.results6 rfl) ?_
    exact ⟨_, rfl, rfl, HU⟩
  · rw [decide_eq_false q1]
    refine W_cond_f rfl ?_
    refine W_skip ?_
    refine W_seq ?_
    refine W_region ?_
    refine Wl_v (r_mv (v := .slice a n c) rfl) ?_
    by_cases q2 : Rt l
    · have hbt := bt_bd q2
      have h11 := (p2_le11 hbt.2).2
      have hpn := p2_nat (bt l)
      have h256 := (q2).2.1
      refine Wl_call (r_call1 rfl Try.call17 rfl) (new_ok _ hs (by omega) q2) ?_
      rintro v w2 ⟨tb2, ea2, ec2, la2, lc2, rfl, hT2, hE2, hL2, htg_2, hU2⟩
      have hzw2 := hU2.size
      replace hs := hs.upd0 hU2
      replace HU := HU.trans0 hU2
      have hbl_hT2 := hT2.lt
      replace hE2 := hE2.tight
      have hl_hE2 := rlen encE_len (by decide) hE2.sl
      have hc_hE2 := hE2.sl.cap.1
      replace hL2 := hL2.tight
      have hl_hL2 := ilen hL2.sl
      have hc_hL2 := hL2.sl.cap.1
      refine Wl_v (r_mv (v := .tuple #[.pointer (some ⟨tb2, 0, none⟩), .int .i64 0]) rfl) ?_
      refine Wl_v (r_ext (v := .pointer (some ⟨tb2, 0, none⟩)) rfl rfl) ?_
      refine Wl_v (r_ext (v := .int .i64 0) rfl rfl) ?_
      refine Wl_v (r_as (v := .pointer (some ⟨tb2, 0, none⟩)) rfl) ?_
      refine Wl_v (r_as (v := .int .i64 0) rfl) ?_
      refine Wl_nil ?_
      refine W_seq ?_
      refine W_seq ?_
      refine W_region ?_
      refine Wl_v (r_mv (v := .int .i64 0) rfl) ?_
      refine Wl_call (r_call1 rfl Try.call15 rfl) (num15 _ ) ?_
      rintro v w3 ⟨rfl, hU3⟩
      have hzw3 := hU3.size
      replace hs := hs.upd0 hU3
      replace HU := HU.trans0 hU3
      replace hT2 := hT2.upd0 hU3
      replace hE2 := hE2.upd0 hU3
      replace hL2 := hL2.upd0 hU3
      refine Wl_v (v := .bool false) (r_ne (a := 0) (b := 0) rfl rfl) ?_
      refine Wl_nil ?_
      refine W_cond_f rfl ?_
      refine W_skip ?_
      refine W_seq ?_
      refine W_region ?_
      refine Wl_v (r_mv (v := .pointer (some ⟨tb2, 0, none⟩)) rfl) ?_
      refine Wl_v (r_mv (v := .int .i64 i) rfl) ?_
      by_cases q3 : 0 ≤ i ∧ i < ((2 ^ bt l : Nat) : Int)
      · refine Wl_call (r_call2 rfl Try.call24 rfl rfl) (two_in _ hT2 hE2.sl.any (by omega) q3) ?_
        rintro v w4 ⟨rfl, hU4⟩
        have hzw4 := hU4.size
        replace hs := hs.upd0 hU4
        replace HU := HU.trans0 hU4
        replace hT2 := hT2.upd0 hU4
        replace hE2 := hE2.upd0 hU4
        replace hL2 := hL2.upd0 hU4
        refine Wl_v (r_mv (v := .tuple #[.agg #[.int .i64 ((two l i.toNat).1), .int .i64 ((two l i.toNat).2.1), .int .i64 ((two l i.toNat).2.2.1), .int .i64 ((two l i.toNat).2.2.2)], .bool true]) rfl) ?_
        refine Wl_v (r_ext (v := .agg #[.int .i64 ((two l i.toNat).1), .int .i64 ((two l i.toNat).2.1), .int .i64 ((two l i.toNat).2.2.1), .int .i64 ((two l i.toNat).2.2.2)]) rfl rfl) ?_
        refine Wl_v (r_ext (v := .bool true) rfl rfl) ?_
        refine Wl_alloc (cs := [.int .i64 0, .int .i64 0, .int .i64 0, .int .i64 0]) Try.zeroValue52 rfl ?_
        intro B5 w5 hB5 hU5 hzz5 hb5
        have hzw5 := hU5.size
        replace hs := hs.upd0 hU5
        replace HU := HU.trans0 hU5
        replace hT2 := hT2.upd0 hU5
        replace hE2 := hE2.upd0 hU5
        replace hL2 := hL2.upd0 hU5
        refine Wl_storea (off := 0) (vs := [.int .i64 ((two l i.toNat).1), .int .i64 ((two l i.toNat).2.1), .int .i64 ((two l i.toNat).2.2.1), .int .i64 ((two l i.toNat).2.2.2)]) (cs' := [.int .i64 ((two l i.toNat).1), .int .i64 ((two l i.toNat).2.1), .int .i64 ((two l i.toNat).2.2.1), .int .i64 ((two l i.toNat).2.2.2)]) Try.sizeOf52 rfl rfl rfl (by simp only [List.mem_cons, List.not_mem_nil, or_false, forall_eq_or_imp, forall_eq]; exact ⟨rfl, rfl, rfl, rfl⟩) hb5 (by simp) rfl ?_
        intro w6 hU6 hzz6 hb5n
        replace hb5 := hb5n; clear hb5n
        have hzw6 := hU6.size
        replace hs := hs.upd1 hU6 (by intro h1; have h3 : B5 < w.heap.size := h1; omega)
        replace HU := HU.trans1 hU6 (by show (False) ∨ w.heap.size ≤ B5; omega)
        replace hT2 := hT2.upd1 hU6 (by omega)
        replace hE2 := hE2.upd1 hU6 (by intro h1; have h3 : ((w.heap.size ≤ B5 ∧ B5 ≠ tb2) ∧ B5 < w2.heap.size) := h1; omega)
        replace hL2 := hL2.upd1 hU6 (by intro h1; have h3 : ((w.heap.size ≤ B5 ∧ B5 ≠ tb2) ∧ B5 < w2.heap.size) := h1; omega)
        refine Wl_v (r_as (v := .bool true) rfl) ?_
        refine Wl_nil ?_
        refine W_seq ?_
        refine W_region ?_
        refine Wl_v (r_mv (v := .slice a n c) rfl) ?_
        have q4 : Rt l := q2
        refine Wl_call (r_call1 rfl Try.call19 rfl) (longest_ok _ hs (by omega) q4) ?_
        rintro v w7 ⟨rfl, hU7⟩
        have hzw7 := hU7.size
        replace hs := hs.upd0 hU7
        replace HU := HU.trans0 hU7
        replace hT2 := hT2.upd0 hU7
        replace hE2 := hE2.upd0 hU7
        replace hL2 := hL2.upd0 hU7
        replace hb5 := hb5.upd0 hU7
        refine Wl_v (r_mv (v := .tuple #[.int .i64 (mx l), .int .i64 0]) rfl) ?_
        refine Wl_v (r_ext (v := .int .i64 (mx l)) rfl rfl) ?_
        refine Wl_v (r_ext (v := .int .i64 0) rfl rfl) ?_
        refine Wl_v (r_as (v := .int .i64 (mx l)) rfl) ?_
        refine Wl_v (r_as (v := .int .i64 0) rfl) ?_
        refine Wl_nil ?_
        refine W_seq ?_
        refine W_seq ?_
        refine W_region ?_
        refine Wl_v (r_mv (v := .int .i64 i) rfl) ?_
        refine Wl_v (r_lt rfl rfl) ?_
        refine Wl_v (r_mv (v := .bool (decide (i < 0))) rfl) ?_
        have q5 : ¬ (i < 0) := (by omega)
        rw [decide_eq_false q5]
        refine Wl_guard_t rfl ?_
        refine Wl_v (r_mv (v := .int .i64 i) rfl) ?_
        refine Wl_guard_t rfl ?_
        refine Wl_v (r_mv (v := .int .i64 (mx l)) rfl) ?_
        refine Wl_guard_t rfl ?_
        refine Wl_v (r_shl rfl rfl (by omega) (shlM q4)) ?_
        refine Wl_guard_t rfl ?_
        refine Wl_v (r_ge rfl rfl) ?_
        refine Wl_v (r_pick_f (v := .bool (decide (((2 ^ bt l : Nat) : Int) ≤ i))) rfl rfl) ?_
        refine Wl_nil ?_
        have q6 : ¬ (((2 ^ bt l : Nat) : Int) ≤ i) := (by omega)
        rw [decide_eq_false q6]
        refine W_cond_f rfl ?_
        refine W_skip ?_
        refine W_seq ?_
        refine W_drawt rfl (l0 := #[false, false, false, false, false, false, false, false, false, false, false, false, false, false]) (by kernel_rfl) ?_
        refine Wt_take (i := 0) (listed' := #[true, false, false, false, false, false, false, false, false, false, false, false, false, false]) (by kernel_rfl) rfl (by kernel_rfl) (by kernel_rfl) (by kernel_rfl) (by kernel_rfl) (YI_v (v := .bool true) rfl (fun w' hw' => r_mv (v := .bool true) rfl)) ?_
        refine Wt_take (i := 1) (listed' := #[true, true, false, false, false, false, false, false, false, false, false, false, false, false]) (by kernel_rfl) rfl (by kernel_rfl) (by kernel_rfl) (by kernel_rfl) (by kernel_rfl) (YI_v (v := .bool true) rfl (fun w' hw' => r_mv (v := .bool true) rfl)) ?_
        refine Wt_take (i := 2) (listed' := #[true, true, true, false, false, false, false, false, false, false, false, false, false, false]) (by kernel_rfl) rfl (by kernel_rfl) (by kernel_rfl) (by kernel_rfl) (by kernel_rfl) (YI_v (v := .agg #[.int .i64 ((two l i.toNat).1), .int .i64 ((two l i.toNat).2.1), .int .i64 ((two l i.toNat).2.2.1), .int .i64 ((two l i.toNat).2.2.2)]) rfl (fun w' hw' => r_loada (b := B5) (off := 0) (cs := [.int .i64 ((two l i.toNat).1), .int .i64 ((two l i.toNat).2.1), .int .i64 ((two l i.toNat).2.2.1), .int .i64 ((two l i.toNat).2.2.2)]) Try.isAgg52 Try.sizeOf52 rfl rfl (fun j hj => by rw [(hb5.upd0 hw').cell]; match j, hj with | 0, _ => rfl | 1, _ => rfl | 2, _ => rfl | 3, _ => rfl))) ?_
        refine Wt_take (i := 3) (listed' := #[true, true, true, true, false, false, false, false, false, false, false, false, false, false]) (by kernel_rfl) rfl (by kernel_rfl) (by kernel_rfl) (by kernel_rfl) (by kernel_rfl) (YI_v (v := .slice a n c) rfl (fun w' hw' => r_mv (v := .slice a n c) rfl)) ?_
        refine Wt_take (i := 4) (listed' := #[true, true, true, true, true, false, false, false, false, false, false, false, false, false]) (by kernel_rfl) rfl (by kernel_rfl) (by kernel_rfl) (by kernel_rfl) (by kernel_rfl) (YI_v (v := .int .i64 i) rfl (fun w' hw' => r_mv (v := .int .i64 i) rfl)) ?_
        refine Wt_take (i := 5) (listed' := #[true, true, true, true, true, true, false, false, false, false, false, false, false, false]) (by kernel_rfl) rfl (by kernel_rfl) (by kernel_rfl) (by kernel_rfl) (by kernel_rfl) (YI_v (v := .int .u64 i) rfl (fun w' hw' => r_cvt Try.underlying3 Try.underlying45 rfl (wu64 (by omega) (by omega)))) ?_
        refine Wt_take (i := 6) (listed' := #[true, true, true, true, true, true, true, false, false, false, false, false, false, false]) (by kernel_rfl) rfl (by kernel_rfl) (by kernel_rfl) (by kernel_rfl) (by kernel_rfl) (YI_v (v := .int .i64 (mx l)) rfl (fun w' hw' => r_mv (v := .int .i64 (mx l)) rfl)) ?_
        refine Wt_take (i := 7) (listed' := #[true, true, true, true, true, true, true, true, false, false, false, false, false, false]) (by kernel_rfl) rfl (by kernel_rfl) (by kernel_rfl) (by kernel_rfl) (by kernel_rfl) (YI_c (v := .agg #[.int .i64 ((two l i.toNat).1), .int .i64 ((two l i.toNat).2.1), .int .i64 ((two l i.toNat).2.2.1), .int .i64 ((two l i.toNat).2.2.2)]) rfl (fun w' => r_call3 rfl Try.call25 rfl rfl rfl) (fun w' hw' => rtwo w' ((hs.upd0 hw')) (by omega) (by omega) (by omega))) ?_
        refine Wt_take (i := 8) (listed' := #[true, true, true, true, true, true, true, true, true, false, false, false, false, false]) (by kernel_rfl) rfl (by kernel_rfl) (by kernel_rfl) (by kernel_rfl) (by kernel_rfl) (YI_v (v := .bool (decide (((two l i.toNat).1) = ((two l i.toNat).1) ∧ ((two l i.toNat).2.1) = ((two l i.toNat).2.1) ∧ ((two l i.toNat).2.2.1) = ((two l i.toNat).2.2.1) ∧ ((two l i.toNat).2.2.2) = ((two l i.toNat).2.2.2)))) rfl (fun w' hw' => r_eqag (pp := ((two l i.toNat).1) = ((two l i.toNat).1) ∧ ((two l i.toNat).2.1) = ((two l i.toNat).2.1) ∧ ((two l i.toNat).2.2.1) = ((two l i.toNat).2.2.1) ∧ ((two l i.toNat).2.2.2) = ((two l i.toNat).2.2.2)) Try.underlying52 (by kernel_rfl) (by kernel_rfl) rfl rfl (fun w => eqf_int (by decide) Try.underlying3 Try.isAgg3 rfl rfl (fun w => eqf_int (by decide) Try.underlying3 Try.isAgg3 rfl rfl (fun w => eqf_int (by decide) Try.underlying3 Try.isAgg3 rfl rfl (fun w => eqf_int (by decide) Try.underlying3 Try.isAgg3 rfl rfl (fun w => eqf_nil))))) (by simp [Bool.decide_and]))) ?_
        refine Wt_take (i := 9) (listed' := #[true, true, true, true, true, true, true, true, true, true, false, false, false, false]) (by kernel_rfl) rfl (by kernel_rfl) (by kernel_rfl) (by kernel_rfl) (by kernel_rfl) (YI_v rfl (fun w' hw' => r_pick_t (v := .bool (decide (((two l i.toNat).1) = ((two l i.toNat).1) ∧ ((two l i.toNat).2.1) = ((two l i.toNat).2.1) ∧ ((two l i.toNat).2.2.1) = ((two l i.toNat).2.2.1) ∧ ((two l i.toNat).2.2.2) = ((two l i.toNat).2.2.2)))) rfl rfl)) ?_
        refine Wt_take (i := 10) (listed' := #[true, true, true, true, true, true, true, true, true, true, true, false, false, false]) (by kernel_rfl) rfl (by kernel_rfl) (by kernel_rfl) (by kernel_rfl) (by kernel_rfl) (YI_v (v := .bool (decide (((two l i.toNat).1) = ((two l i.toNat).1) ∧ ((two l i.toNat).2.1) = ((two l i.toNat).2.1) ∧ ((two l i.toNat).2.2.1) = ((two l i.toNat).2.2.1) ∧ ((two l i.toNat).2.2.2) = ((two l i.toNat).2.2.2)))) rfl (fun w' hw' => r_mv (v := .bool (decide (((two l i.toNat).1) = ((two l i.toNat).1) ∧ ((two l i.toNat).2.1) = ((two l i.toNat).2.1) ∧ ((two l i.toNat).2.2.1) = ((two l i.toNat).2.2.1) ∧ ((two l i.toNat).2.2.2) = ((two l i.toNat).2.2.2)))) rfl)) ?_
        have q7 : ((two l i.toNat).1) = ((two l i.toNat).1) ∧ ((two l i.toNat).2.1) = ((two l i.toNat).2.1) ∧ ((two l i.toNat).2.2.1) = ((two l i.toNat).2.2.1) ∧ ((two l i.toNat).2.2.2) = ((two l i.toNat).2.2.2) := ⟨rfl, rfl, rfl, rfl⟩
        rw [decide_eq_true q7]
        refine Wt_take (i := 11) (listed' := #[true, true, true, true, true, true, true, true, true, true, true, true, false, false]) (by kernel_rfl) rfl (by kernel_rfl) (by kernel_rfl) (by kernel_rfl) (by kernel_rfl) (YI_c (v := .bool true) rfl (fun w' => r_call0 rfl Try.call11 ) (fun w' hw' => works15 w' )) ?_
        refine Wt_take (i := 12) (listed' := #[true, true, true, true, true, true, true, true, true, true, true, true, true, false]) (by kernel_rfl) rfl (by kernel_rfl) (by kernel_rfl) (by kernel_rfl) (by kernel_rfl) (YI_v rfl (fun w' hw' => r_pick_t (v := .bool true) rfl rfl)) ?_
        refine Wt_take (i := 13) (listed' := #[true, true, true, true, true, true, true, true, true, true, true, true, true, true]) (by kernel_rfl) rfl (by kernel_rfl) (by kernel_rfl) (by kernel_rfl) (by kernel_rfl) (YI_v (v := .bool true) rfl (fun w' hw' => r_as (v := .bool true) rfl)) ?_
        intro w8 hU8
        have hzw8 := hU8.size
        replace hs := hs.upd0 hU8
        replace HU := HU.trans0 hU8
        replace hT2 := hT2.upd0 hU8
        replace hE2 := hE2.upd0 hU8
        replace hL2 := hL2.upd0 hU8
        replace hb5 := hb5.upd0 hU8
        refine Wa_done (by kernel_rfl) ?_
        refine W_ret ?_
        refine ret_end (v := .bool true) rfl (res1 Try.results6 rfl) ?_
        exact ⟨_, rfl, rfl, HU⟩
      · refine Wl_call (r_call2 rfl Try.call24 rfl rfl) (two_out _ hT2 hE2.sl.any (by omega) q3) ?_
        rintro v w9 ⟨rfl, hU9⟩
        have hzw9 := hU9.size
        replace hs := hs.upd0 hU9
        replace HU := HU.trans0 hU9
        replace hT2 := hT2.upd0 hU9
        replace hE2 := hE2.upd0 hU9
        replace hL2 := hL2.upd0 hU9
        refine Wl_v (r_mv (v := .tuple #[.agg #[.int .i64 0, .int .i64 0, .int .i64 0, .int .i64 0], .bool false]) rfl) ?_
        refine Wl_v (r_ext (v := .agg #[.int .i64 0, .int .i64 0, .int .i64 0, .int .i64 0]) rfl rfl) ?_
        refine Wl_v (r_ext (v := .bool false) rfl rfl) ?_
        refine Wl_alloc (cs := [.int .i64 0, .int .i64 0, .int .i64 0, .int .i64 0]) Try.zeroValue52 rfl ?_
        intro B10 w10 hB10 hU10 hzz10 hb10
        have hzw10 := hU10.size
        replace hs := hs.upd0 hU10
        replace HU := HU.trans0 hU10
        replace hT2 := hT2.upd0 hU10
        replace hE2 := hE2.upd0 hU10
        replace hL2 := hL2.upd0 hU10
        refine Wl_storea (off := 0) (vs := [.int .i64 0, .int .i64 0, .int .i64 0, .int .i64 0]) (cs' := [.int .i64 0, .int .i64 0, .int .i64 0, .int .i64 0]) Try.sizeOf52 rfl rfl rfl (by simp only [List.mem_cons, List.not_mem_nil, or_false, forall_eq_or_imp, forall_eq]; exact ⟨rfl, rfl, rfl, rfl⟩) hb10 (by simp) rfl ?_
        intro w11 hU11 hzz11 hb10n
        replace hb10 := hb10n; clear hb10n
        have hzw11 := hU11.size
        replace hs := hs.upd1 hU11 (by intro h1; have h3 : B10 < w.heap.size := h1; omega)
        replace HU := HU.trans1 hU11 (by show (False) ∨ w.heap.size ≤ B10; omega)
        replace hT2 := hT2.upd1 hU11 (by omega)
        replace hE2 := hE2.upd1 hU11 (by intro h1; have h3 : ((w.heap.size ≤ B10 ∧ B10 ≠ tb2) ∧ B10 < w2.heap.size) := h1; omega)
        replace hL2 := hL2.upd1 hU11 (by intro h1; have h3 : ((w.heap.size ≤ B10 ∧ B10 ≠ tb2) ∧ B10 < w2.heap.size) := h1; omega)
        refine Wl_v (r_as (v := .bool false) rfl) ?_
        refine Wl_nil ?_
        refine W_seq ?_
        refine W_region ?_
        refine Wl_v (r_mv (v := .slice a n c) rfl) ?_
        have q8 : Rt l := q2
        refine Wl_call (r_call1 rfl Try.call19 rfl) (longest_ok _ hs (by omega) q8) ?_
        rintro v w12 ⟨rfl, hU12⟩
        have hzw12 := hU12.size
        replace hs := hs.upd0 hU12
        replace HU := HU.trans0 hU12
        replace hT2 := hT2.upd0 hU12
        replace hE2 := hE2.upd0 hU12
        replace hL2 := hL2.upd0 hU12
        replace hb10 := hb10.upd0 hU12
        refine Wl_v (r_mv (v := .tuple #[.int .i64 (mx l), .int .i64 0]) rfl) ?_
        refine Wl_v (r_ext (v := .int .i64 (mx l)) rfl rfl) ?_
        refine Wl_v (r_ext (v := .int .i64 0) rfl rfl) ?_
        refine Wl_v (r_as (v := .int .i64 (mx l)) rfl) ?_
        refine Wl_v (r_as (v := .int .i64 0) rfl) ?_
        refine Wl_nil ?_
        refine W_seq ?_
        refine W_seq ?_
        refine W_region ?_
        refine Wl_v (r_mv (v := .int .i64 i) rfl) ?_
        refine Wl_v (r_lt rfl rfl) ?_
        refine Wl_v (r_mv (v := .bool (decide (i < 0))) rfl) ?_
        by_cases q9 : i < 0
        · rw [decide_eq_true q9]
          refine Wl_guard_f rfl ?_
          refine Wl_guard_f rfl ?_
          refine Wl_guard_f rfl ?_
          refine Wl_guard_f rfl ?_
          refine Wl_v (r_pick_t (v := .bool true) rfl rfl) ?_
          refine Wl_nil ?_
          refine W_cond_t rfl ?_
          refine W_seq ?_
          refine W_region ?_
          refine Wl_v (r_mv (v := .bool false) rfl) ?_
          refine Wl_v (r_not (b := false) rfl) ?_
          refine Wl_v (r_mv (v := .bool true) rfl) ?_
          refine Wl_guard_t rfl ?_
          refine Wl_v (r_loada (b := B10) (off := 0) (cs := [.int .i64 0, .int .i64 0, .int .i64 0, .int .i64 0]) Try.isAgg52 Try.sizeOf52 rfl rfl (fun j hj => by rw [hb10.cell]; match j, hj with | 0, _ => rfl | 1, _ => rfl | 2, _ => rfl | 3, _ => rfl)) ?_
          refine Wl_guard_t rfl ?_
          refine Wl_v (r_build (pl := #[(0, 1), (1, 1), (2, 1), (3, 1)]) (pv := []) (cs := #[.int .i64 0, .int .i64 0, .int .i64 0, .int .i64 0]) Try.zeroValue52 Try.underlying52 (fun w => by kernel_rfl) (by simp only [List.map_toArray, List.map_cons, List.map_nil] <;> rfl) (by kernel_rfl)) ?_
          refine Wl_guard_t rfl ?_
          refine Wl_v (r_eqag (pp := 0 = 0 ∧ 0 = 0 ∧ 0 = 0 ∧ 0 = 0) Try.underlying52 (by kernel_rfl) (by kernel_rfl) rfl rfl (fun w => eqf_int (by decide) Try.underlying3 Try.isAgg3 rfl rfl (fun w => eqf_int (by decide) Try.underlying3 Try.isAgg3 rfl rfl (fun w => eqf_int (by decide) Try.underlying3 Try.isAgg3 rfl rfl (fun w => eqf_int (by decide) Try.underlying3 Try.isAgg3 rfl rfl (fun w => eqf_nil))))) (by simp [Bool.decide_and])) ?_
          refine Wl_v (r_pick_t (v := .bool (decide (0 = 0 ∧ 0 = 0 ∧ 0 = 0 ∧ 0 = 0))) rfl rfl) ?_
          refine Wl_v (r_mv (v := .bool (decide (0 = 0 ∧ 0 = 0 ∧ 0 = 0 ∧ 0 = 0))) rfl) ?_
          have q10 : 0 = 0 ∧ 0 = 0 ∧ 0 = 0 ∧ 0 = 0 := ⟨rfl, rfl, rfl, rfl⟩
          rw [decide_eq_true q10]
          refine Wl_guard_t rfl ?_
          refine Wl_call (r_call0 rfl Try.call11 ) (works15 _ ) ?_
          rintro v w13 ⟨rfl, hU13⟩
          have hzw13 := hU13.size
          replace hs := hs.upd0 hU13
          replace HU := HU.trans0 hU13
          replace hT2 := hT2.upd0 hU13
          replace hE2 := hE2.upd0 hU13
          replace hL2 := hL2.upd0 hU13
          replace hb10 := hb10.upd0 hU13
          refine Wl_v (r_pick_t (v := .bool true) rfl rfl) ?_
          refine Wl_v (r_as (v := .bool true) rfl) ?_
          refine Wl_nil ?_
          refine W_ret ?_
          refine ret_end (v := .bool true) rfl (res1 Try.results6 rfl) ?_
          exact ⟨_, rfl, rfl, HU⟩
        · rw [decide_eq_false q9]
          refine Wl_guard_t rfl ?_
          refine Wl_v (r_mv (v := .int .i64 i) rfl) ?_
          refine Wl_guard_t rfl ?_
          refine Wl_v (r_mv (v := .int .i64 (mx l)) rfl) ?_
          refine Wl_guard_t rfl ?_
          refine Wl_v (r_shl rfl rfl (by omega) (shlM q8)) ?_
          refine Wl_guard_t rfl ?_
          refine Wl_v (r_ge rfl rfl) ?_
          refine Wl_v (r_pick_f (v := .bool (decide (((2 ^ bt l : Nat) : Int) ≤ i))) rfl rfl) ?_
          refine Wl_nil ?_
          have q11 : ((2 ^ bt l : Nat) : Int) ≤ i := (by omega)
          rw [decide_eq_true q11]
          refine W_cond_t rfl ?_
          refine W_seq ?_
          refine W_region ?_
          refine Wl_v (r_mv (v := .bool false) rfl) ?_
          refine Wl_v (r_not (b := false) rfl) ?_
          refine Wl_v (r_mv (v := .bool true) rfl) ?_
          refine Wl_guard_t rfl ?_
          refine Wl_v (r_loada (b := B10) (off := 0) (cs := [.int .i64 0, .int .i64 0, .int .i64 0, .int .i64 0]) Try.isAgg52 Try.sizeOf52 rfl rfl (fun j hj => by rw [hb10.cell]; match j, hj with | 0, _ => rfl | 1, _ => rfl | 2, _ => rfl | 3, _ => rfl)) ?_
          refine Wl_guard_t rfl ?_
          refine Wl_v (r_build (pl := #[(0, 1), (1, 1), (2, 1), (3, 1)]) (pv := []) (cs := #[.int .i64 0, .int .i64 0, .int .i64 0, .int .i64 0]) Try.zeroValue52 Try.underlying52 (fun w => by kernel_rfl) (by simp only [List.map_toArray, List.map_cons, List.map_nil] <;> rfl) (by kernel_rfl)) ?_
          refine Wl_guard_t rfl ?_
          refine Wl_v (r_eqag (pp := 0 = 0 ∧ 0 = 0 ∧ 0 = 0 ∧ 0 = 0) Try.underlying52 (by kernel_rfl) (by kernel_rfl) rfl rfl (fun w => eqf_int (by decide) Try.underlying3 Try.isAgg3 rfl rfl (fun w => eqf_int (by decide) Try.underlying3 Try.isAgg3 rfl rfl (fun w => eqf_int (by decide) Try.underlying3 Try.isAgg3 rfl rfl (fun w => eqf_int (by decide) Try.underlying3 Try.isAgg3 rfl rfl (fun w => eqf_nil))))) (by simp [Bool.decide_and])) ?_
          refine Wl_v (r_pick_t (v := .bool (decide (0 = 0 ∧ 0 = 0 ∧ 0 = 0 ∧ 0 = 0))) rfl rfl) ?_
          refine Wl_v (r_mv (v := .bool (decide (0 = 0 ∧ 0 = 0 ∧ 0 = 0 ∧ 0 = 0))) rfl) ?_
          have q12 : 0 = 0 ∧ 0 = 0 ∧ 0 = 0 ∧ 0 = 0 := ⟨rfl, rfl, rfl, rfl⟩
          rw [decide_eq_true q12]
          refine Wl_guard_t rfl ?_
          refine Wl_call (r_call0 rfl Try.call11 ) (works15 _ ) ?_
          rintro v w14 ⟨rfl, hU14⟩
          have hzw14 := hU14.size
          replace hs := hs.upd0 hU14
          replace HU := HU.trans0 hU14
          replace hT2 := hT2.upd0 hU14
          replace hE2 := hE2.upd0 hU14
          replace hL2 := hL2.upd0 hU14
          replace hb10 := hb10.upd0 hU14
          refine Wl_v (r_pick_t (v := .bool true) rfl rfl) ?_
          refine Wl_v (r_as (v := .bool true) rfl) ?_
          refine Wl_nil ?_
          refine W_ret ?_
          refine ret_end (v := .bool true) rfl (res1 Try.results6 rfl) ?_
          exact ⟨_, rfl, rfl, HU⟩
    · refine Wl_call (r_call1 rfl Try.call17 rfl) (new_no _ hs (by omega) q2) ?_
      rintro v w15 ⟨rfl, hU15⟩
      have hzw15 := hU15.size
      replace hs := hs.upd0 hU15
      replace HU := HU.trans0 hU15
      refine Wl_v (r_mv (v := .tuple #[.pointer none, .int .i64 12]) rfl) ?_
      refine Wl_v (r_ext (v := .pointer none) rfl rfl) ?_
      refine Wl_v (r_ext (v := .int .i64 12) rfl rfl) ?_
      refine Wl_v (r_as (v := .pointer none) rfl) ?_
      refine Wl_v (r_as (v := .int .i64 12) rfl) ?_
      refine Wl_nil ?_
      refine W_seq ?_
      refine W_seq ?_
      refine W_region ?_
      refine Wl_v (r_mv (v := .int .i64 12) rfl) ?_
      refine Wl_call (r_call1 rfl Try.call15 rfl) (num15 _ ) ?_
      rintro v w16 ⟨rfl, hU16⟩
      have hzw16 := hU16.size
      replace hs := hs.upd0 hU16
      replace HU := HU.trans0 hU16
      refine Wl_v (v := .bool true) (r_ne (a := 12) (b := 0) rfl rfl) ?_
      refine Wl_nil ?_
      refine W_cond_t rfl ?_
      refine W_seq ?_
      refine W_region ?_
      refine Wl_v (r_mv (v := .slice a n c) rfl) ?_
      refine Wl_call (r_call1 rfl Try.call21 rfl) (rright_spec _ hs (by omega)) ?_
      rintro v w17 ⟨rfl, hU17⟩
      have hzw17 := hU17.size
      replace hs := hs.upd0 hU17
      replace HU := HU.trans0 hU17
      refine Wl_v (r_not rfl) ?_
      refine Wl_v (r_mv (v := .bool (!decide (Rt l))) rfl) ?_
      have q13 : ¬ (Rt l) := q2
      rw [decide_eq_false q13]
      simp only [Bool.not_true, Bool.not_false]
      refine Wl_guard_t rfl ?_
      refine Wl_call (r_call0 rfl Try.call11 ) (works15 _ ) ?_
      rintro v w18 ⟨rfl, hU18⟩
      have hzw18 := hU18.size
      replace hs := hs.upd0 hU18
      replace HU := HU.trans0 hU18
      refine Wl_v (r_pick_t (v := .bool true) rfl rfl) ?_
      refine Wl_v (r_as (v := .bool true) rfl) ?_
      refine Wl_nil ?_
      refine W_ret ?_
      refine ret_end (v := .bool true) rfl (res1 Try.results6 rfl) ?_
      exact ⟨_, rfl, rfl, HU⟩

set_option maxHeartbeats 2000000 in
set_option maxRecDepth 100000 in
theorem lookupat {a : Option Addr} {n c : Nat} {l : List Int} {i : Int} (w : World) (hs : Sl w (fun g => g < w.heap.size) 1 (.slice a n c) n (ints .i64 l)) (hn : n ≤ 17592186044415) (ri : -9223372036854775808 ≤ i ∧ i ≤ 9223372036854775807) :
    Calls Try.prog 4 #[.slice a n c, .int .i64 i] w (Ret fun v w' => v = .bool true ∧ Upd No w w') := by
  have HU : Upd (fun b => False) w w := Upd.refl _ _
  have hl_hs := ilen hs
  have hc_hs := hs.cap.1
  have hmx := mx_bt l
  refine calls_of_W Try.func4 rfl Try.ntmps4 (by simp) ?_
  refine W_seq ?_
  refine W_region ?_
  refine Wl_v (r_as (v := .bool false) rfl) ?_
  refine Wl_nil ?_
  refine W_seq ?_
  refine W_seq ?_
  refine W_region ?_
  refine Wl_v (r_mv (v := .slice a n c) rfl) ?_
  refine Wl_v (r_len Try.underlying22 rfl) ?_
  refine Wl_v (r_gt rfl rfl) ?_
  refine Wl_nil ?_
  by_cases q1 : 300 < ((n : Nat) : Int)
  · rw [decide_eq_true q1]
    refine W_cond_t rfl ?_
    refine W_seq ?_
    refine W_region ?_
    refine Wl_call (r_call0 rfl Try.call11 ) (works15 _ ) ?_
    rintro v w1 ⟨rfl, hU1⟩
    have hzw1 := hU1.size
    replace hs := hs.upd0 hU1
    replace HU := HU.trans0 hU1
    refine Wl_v (r_as (v := .bool true) rfl) ?_
    refine Wl_nil ?_
    refine W_ret ?_
    refine ret_end (v := .bool true) rfl (res1 Try.results4 rfl) ?_
    exact ⟨_, rfl, rfl, HU⟩
  · rw [decide_eq_false q1]
    refine W_cond_f rfl ?_
    refine W_skip ?_
    refine W_seq ?_
    refine W_region ?_
    refine Wl_v (r_mv (v := .slice a n c) rfl) ?_
    by_cases q2 : Rt l
    · have hbt := bt_bd q2
      have h11 := (p2_le11 hbt.2).2
      have hpn := p2_nat (bt l)
      have h256 := (q2).2.1
      refine Wl_call (r_call1 rfl Try.call17 rfl) (new_ok _ hs (by omega) q2) ?_
      rintro v w2 ⟨tb2, ea2, ec2, la2, lc2, rfl, hT2, hE2, hL2, htg_2, hU2⟩
      have hzw2 := hU2.size
      replace hs := hs.upd0 hU2
      replace HU := HU.trans0 hU2
      have hbl_hT2 := hT2.lt
      replace hE2 := hE2.tight
      have hl_hE2 := rlen encE_len (by decide) hE2.sl
      have hc_hE2 := hE2.sl.cap.1
      replace hL2 := hL2.tight
      have hl_hL2 := ilen hL2.sl
      have hc_hL2 := hL2.sl.cap.1
      refine Wl_v (r_mv (v := .tuple #[.pointer (some ⟨tb2, 0, none⟩), .int .i64 0]) rfl) ?_
      refine Wl_v (r_ext (v := .pointer (some ⟨tb2, 0, none⟩)) rfl rfl) ?_
      refine Wl_v (r_ext (v := .int .i64 0) rfl rfl) ?_
      refine Wl_v (r_as (v := .pointer (some ⟨tb2, 0, none⟩)) rfl) ?_
      refine Wl_v (r_as (v := .int .i64 0) rfl) ?_
      refine Wl_nil ?_
      refine W_seq ?_
      refine W_region ?_
      refine Wl_v (r_mv (v := .slice a n c) rfl) ?_
      have q3 : Rt l := q2
      refine Wl_call (r_call1 rfl Try.call13 rfl) (of_t _ hs (by omega) q3) ?_
      rintro v w3 ⟨a3, c3, rfl, hO3, hU3⟩
      have hzw3 := hU3.size
      replace hs := hs.upd0 hU3
      replace HU := HU.trans0 hU3
      replace hT2 := hT2.upd0 hU3
      replace hE2 := hE2.upd0 hU3
      replace hL2 := hL2.upd0 hU3
      replace hO3 := hO3.tight
      have hl_hO3 := rlen encE_len (by decide) hO3.sl
      have hc_hO3 := hO3.sl.cap.1
      refine Wl_v (r_mv (v := .tuple #[.slice a3 (2 ^ bt l) c3, .int .i64 0]) rfl) ?_
      refine Wl_v (r_ext (v := .slice a3 (2 ^ bt l) c3) rfl rfl) ?_
      refine Wl_v (r_ext (v := .int .i64 0) rfl rfl) ?_
      refine Wl_v (r_as (v := .slice a3 (2 ^ bt l) c3) rfl) ?_
      refine Wl_v (r_as (v := .int .i64 0) rfl) ?_
      refine Wl_nil ?_
      refine W_seq ?_
      refine W_seq ?_
      refine W_region ?_
      refine Wl_v (r_mv (v := .int .i64 0) rfl) ?_
      refine Wl_call (r_call1 rfl Try.call15 rfl) (num15 _ ) ?_
      rintro v w4 ⟨rfl, hU4⟩
      have hzw4 := hU4.size
      replace hs := hs.upd0 hU4
      replace HU := HU.trans0 hU4
      replace hT2 := hT2.upd0 hU4
      replace hE2 := hE2.upd0 hU4
      replace hL2 := hL2.upd0 hU4
      replace hO3 := hO3.upd0 hU4
      refine Wl_v (r_mv (v := .int .i64 0) rfl) ?_
      refine Wl_v (v := .bool false) (r_ne (a := 0) (b := 0) rfl rfl) ?_
      refine Wl_v (r_mv (v := .bool false) rfl) ?_
      refine Wl_guard_t rfl ?_
      refine Wl_v (r_mv (v := .pointer (some ⟨tb2, 0, none⟩)) rfl) ?_
      refine Wl_guard_t rfl ?_
      refine Wl_v (r_nepn_s Try.underlying34 rfl rfl) ?_
      refine Wl_guard_t rfl ?_
      refine Wl_v (r_mv (v := .int .i64 0) rfl) ?_
      refine Wl_guard_t rfl ?_
      refine Wl_v (v := .bool true) (r_eq (a := 0) (b := 0) rfl rfl) ?_
      refine Wl_guard_t rfl ?_
      refine Wl_v (v := .bool false) (r_neb (a := true) (b := true) Try.underlying4 rfl rfl) ?_
      refine Wl_v (r_pick_f (v := .bool false) rfl rfl) ?_
      refine Wl_nil ?_
      refine W_cond_f rfl ?_
      refine W_skip ?_
      refine W_seq ?_
      refine W_region ?_
      refine Wl_v (r_mv (v := .pointer (some ⟨tb2, 0, none⟩)) rfl) ?_
      refine Wl_v (r_mv (v := .int .i64 i) rfl) ?_
      by_cases q4 : 0 ≤ i ∧ i < ((2 ^ bt l : Nat) : Int)
      · refine Wl_call (r_call2 rfl Try.call18 rfl rfl) (tat_in _ hT2 hE2.sl.any (by omega) q4) ?_
        rintro v w5 ⟨rfl, hU5⟩
        have hzw5 := hU5.size
        replace hs := hs.upd0 hU5
        replace HU := HU.trans0 hU5
        replace hT2 := hT2.upd0 hU5
        replace hE2 := hE2.upd0 hU5
        replace hL2 := hL2.upd0 hU5
        replace hO3 := hO3.upd0 hU5
        refine Wl_v (r_mv (v := .tuple #[.agg #[.int .i64 ((ent l i.toNat).1), .int .i64 ((ent l i.toNat).2)], .bool true]) rfl) ?_
        refine Wl_v (r_ext (v := .agg #[.int .i64 ((ent l i.toNat).1), .int .i64 ((ent l i.toNat).2)]) rfl rfl) ?_
        refine Wl_v (r_ext (v := .bool true) rfl rfl) ?_
        refine Wl_alloc (cs := [.int .i64 0, .int .i64 0]) Try.zeroValue38 rfl ?_
        intro B6 w6 hB6 hU6 hzz6 hb6
        have hzw6 := hU6.size
        replace hs := hs.upd0 hU6
        replace HU := HU.trans0 hU6
        replace hT2 := hT2.upd0 hU6
        replace hE2 := hE2.upd0 hU6
        replace hL2 := hL2.upd0 hU6
        replace hO3 := hO3.upd0 hU6
        refine Wl_storea (off := 0) (vs := [.int .i64 ((ent l i.toNat).1), .int .i64 ((ent l i.toNat).2)]) (cs' := [.int .i64 ((ent l i.toNat).1), .int .i64 ((ent l i.toNat).2)]) Try.sizeOf38 rfl rfl rfl (by simp only [List.mem_cons, List.not_mem_nil, or_false, forall_eq_or_imp, forall_eq]; exact ⟨rfl, rfl⟩) hb6 (by simp) rfl ?_
        intro w7 hU7 hzz7 hb6n
        replace hb6 := hb6n; clear hb6n
        have hzw7 := hU7.size
        replace hs := hs.upd1 hU7 (by intro h1; have h3 : B6 < w.heap.size := h1; omega)
        replace HU := HU.trans1 hU7 (by show (False) ∨ w.heap.size ≤ B6; omega)
        replace hT2 := hT2.upd1 hU7 (by omega)
        replace hE2 := hE2.upd1 hU7 (by intro h1; have h3 : ((w.heap.size ≤ B6 ∧ B6 ≠ tb2) ∧ B6 < w2.heap.size) := h1; omega)
        replace hL2 := hL2.upd1 hU7 (by intro h1; have h3 : ((w.heap.size ≤ B6 ∧ B6 ≠ tb2) ∧ B6 < w2.heap.size) := h1; omega)
        replace hO3 := hO3.upd1 hU7 (by intro h1; have h3 : ((w2.heap.size ≤ B6) ∧ B6 < w3.heap.size) := h1; omega)
        refine Wl_v (r_as (v := .bool true) rfl) ?_
        refine Wl_nil ?_
        refine W_seq ?_
        refine W_region ?_
        refine Wl_v (r_mv (v := .slice a n c) rfl) ?_
        have q5 : Rt l := q3
        refine Wl_call (r_call1 rfl Try.call19 rfl) (longest_ok _ hs (by omega) q5) ?_
        rintro v w8 ⟨rfl, hU8⟩
        have hzw8 := hU8.size
        replace hs := hs.upd0 hU8
        replace HU := HU.trans0 hU8
        replace hT2 := hT2.upd0 hU8
        replace hE2 := hE2.upd0 hU8
        replace hL2 := hL2.upd0 hU8
        replace hO3 := hO3.upd0 hU8
        replace hb6 := hb6.upd0 hU8
        refine Wl_v (r_mv (v := .tuple #[.int .i64 (mx l), .int .i64 0]) rfl) ?_
        refine Wl_v (r_ext (v := .int .i64 (mx l)) rfl rfl) ?_
        refine Wl_v (r_ext (v := .int .i64 0) rfl rfl) ?_
        refine Wl_v (r_as (v := .int .i64 (mx l)) rfl) ?_
        refine Wl_v (r_as (v := .int .i64 0) rfl) ?_
        refine Wl_nil ?_
        refine W_seq ?_
        refine W_region ?_
        refine Wl_v (r_mv (v := .int .i64 i) rfl) ?_
        refine Wl_v (r_ge rfl rfl) ?_
        refine Wl_v (r_mv (v := .bool (decide (0 ≤ i))) rfl) ?_
        have q6 : 0 ≤ i := (by omega)
        rw [decide_eq_true q6]
        refine Wl_guard_t rfl ?_
        refine Wl_v (r_mv (v := .int .i64 i) rfl) ?_
        refine Wl_guard_t rfl ?_
        refine Wl_v (r_mv (v := .slice a3 (2 ^ bt l) c3) rfl) ?_
        refine Wl_guard_t rfl ?_
        refine Wl_v (r_len Try.underlying24 rfl) ?_
        refine Wl_guard_t rfl ?_
        refine Wl_v (r_lt rfl rfl) ?_
        refine Wl_v (r_pick_t (v := .bool (decide (i < ((2 ^ bt l : Nat) : Int)))) rfl rfl) ?_
        refine Wl_v (r_as (v := .bool (decide (i < ((2 ^ bt l : Nat) : Int)))) rfl) ?_
        refine Wl_nil ?_
        refine W_seq ?_
        refine W_drawt rfl (l0 := #[false, false, false, false, false, false, false, false, false, false, false, false, false, false, false, false, false, false, false, false, false, false, false, false, false, false, false, false, false, false, false, false, false]) (by kernel_rfl) ?_
        refine Wt_take (i := 0) (listed' := #[true, false, false, false, false, false, false, false, false, false, false, false, false, false, false, false, false, false, false, false, false, false, false, false, false, false, false, false, false, false, false, false, false]) (by kernel_rfl) rfl (by kernel_rfl) (by kernel_rfl) (by kernel_rfl) (by kernel_rfl) (YI_v (v := .bool true) rfl (fun w' hw' => r_mv (v := .bool true) rfl)) ?_
        refine Wt_take (i := 1) (listed' := #[true, true, false, false, false, false, false, false, false, false, false, false, false, false, false, false, false, false, false, false, false, false, false, false, false, false, false, false, false, false, false, false, false]) (by kernel_rfl) rfl (by kernel_rfl) (by kernel_rfl) (by kernel_rfl) (by kernel_rfl) (YI_v (v := .bool (decide (i < ((2 ^ bt l : Nat) : Int)))) rfl (fun w' hw' => r_mv (v := .bool (decide (i < ((2 ^ bt l : Nat) : Int)))) rfl)) ?_
        have q7 : i < ((2 ^ bt l : Nat) : Int) := (by omega)
        rw [decide_eq_true q7]
        refine Wt_take (i := 2) (listed' := #[true, true, true, false, false, false, false, false, false, false, false, false, false, false, false, false, false, false, false, false, false, false, false, false, false, false, false, false, false, false, false, false, false]) (by kernel_rfl) rfl (by kernel_rfl) (by kernel_rfl) (by kernel_rfl) (by kernel_rfl) (YI_v (v := .bool true) rfl (fun w' hw' => r_eqb (a := true) (b := true) Try.underlying4 rfl rfl)) ?_
        refine Wt_take (i := 3) (listed' := #[true, true, true, true, false, false, false, false, false, false, false, false, false, false, false, false, false, false, false, false, false, false, false, false, false, false, false, false, false, false, false, false, false]) (by kernel_rfl) rfl (by kernel_rfl) (by kernel_rfl) (by kernel_rfl) (by kernel_rfl) (YI_v (v := .bool true) rfl (fun w' hw' => r_mv (v := .bool true) rfl)) ?_
        refine Wt_take (i := 4) (listed' := #[true, true, true, true, true, false, false, false, false, false, false, false, false, false, false, false, false, false, false, false, false, false, false, false, false, false, false, false, false, false, false, false, false]) (by kernel_rfl) rfl (by kernel_rfl) (by kernel_rfl) (by kernel_rfl) (by kernel_rfl) (YI_v (v := .bool true) rfl (fun w' hw' => r_mv (v := .bool true) rfl)) ?_
        refine Wt_take (i := 5) (listed' := #[true, true, true, true, true, true, false, false, false, false, false, false, false, false, false, false, false, false, false, false, false, false, false, false, false, false, false, false, false, false, false, false, false]) (by kernel_rfl) rfl (by kernel_rfl) (by kernel_rfl) (by kernel_rfl) (by kernel_rfl) (YI_v (v := .bool false) rfl (fun w' hw' => r_not (b := true) rfl)) ?_
        refine Wt_take (i := 6) (listed' := #[true, true, true, true, true, true, true, false, false, false, false, false, false, false, false, false, false, false, false, false, false, false, false, false, false, false, false, false, false, false, false, false, false]) (by kernel_rfl) rfl (by kernel_rfl) (by kernel_rfl) (by kernel_rfl) (by kernel_rfl) (YI_v (v := .bool false) rfl (fun w' hw' => r_mv (v := .bool false) rfl)) ?_
        refine Wt_take (i := 7) (listed' := #[true, true, true, true, true, true, true, true, false, false, false, false, false, false, false, false, false, false, false, false, false, false, false, false, false, false, false, false, false, false, false, false, false]) (by kernel_rfl) rfl (by kernel_rfl) (by kernel_rfl) (by kernel_rfl) (by kernel_rfl) (YI_no rfl) ?_
        refine Wt_take (i := 8) (listed' := #[true, true, true, true, true, true, true, true, true, false, false, false, false, false, false, false, false, false, false, false, false, false, false, false, false, false, false, false, false, false, false, false, false]) (by kernel_rfl) rfl (by kernel_rfl) (by kernel_rfl) (by kernel_rfl) (by kernel_rfl) (YI_no rfl) ?_
        refine Wt_take (i := 9) (listed' := #[true, true, true, true, true, true, true, true, true, true, false, false, false, false, false, false, false, false, false, false, false, false, false, false, false, false, false, false, false, false, false, false, false]) (by kernel_rfl) rfl (by kernel_rfl) (by kernel_rfl) (by kernel_rfl) (by kernel_rfl) (YI_no rfl) ?_
        refine Wt_take (i := 10) (listed' := #[true, true, true, true, true, true, true, true, true, true, true, false, false, false, false, false, false, false, false, false, false, false, false, false, false, false, false, false, false, false, false, false, false]) (by kernel_rfl) rfl (by kernel_rfl) (by kernel_rfl) (by kernel_rfl) (by kernel_rfl) (YI_v rfl (fun w' hw' => r_pick_f (v := .bool false) rfl rfl)) ?_
        refine Wt_take (i := 11) (listed' := #[true, true, true, true, true, true, true, true, true, true, true, true, false, false, false, false, false, false, false, false, false, false, false, false, false, false, false, false, false, false, false, false, false]) (by kernel_rfl) rfl (by kernel_rfl) (by kernel_rfl) (by kernel_rfl) (by kernel_rfl) (YI_v (v := .bool false) rfl (fun w' hw' => r_mv (v := .bool false) rfl)) ?_
        refine Wt_take (i := 12) (listed' := #[true, true, true, true, true, true, true, true, true, true, true, true, true, false, false, false, false, false, false, false, false, false, false, false, false, false, false, false, false, false, false, false, false]) (by kernel_rfl) rfl (by kernel_rfl) (by kernel_rfl) (by kernel_rfl) (by kernel_rfl) (YI_v (v := .bool true) rfl (fun w' hw' => r_mv (v := .bool true) rfl)) ?_
        refine Wt_take (i := 13) (listed' := #[true, true, true, true, true, true, true, true, true, true, true, true, true, true, false, false, false, false, false, false, false, false, false, false, false, false, false, false, false, false, false, false, false]) (by kernel_rfl) rfl (by kernel_rfl) (by kernel_rfl) (by kernel_rfl) (by kernel_rfl) (YI_v (v := .bool true) rfl (fun w' hw' => r_mv (v := .bool true) rfl)) ?_
        refine Wt_take (i := 14) (listed' := #[true, true, true, true, true, true, true, true, true, true, true, true, true, true, true, false, false, false, false, false, false, false, false, false, false, false, false, false, false, false, false, false, false]) (by kernel_rfl) rfl (by kernel_rfl) (by kernel_rfl) (by kernel_rfl) (by kernel_rfl) (YI_v (v := .agg #[.int .i64 ((ent l i.toNat).1), .int .i64 ((ent l i.toNat).2)]) rfl (fun w' hw' => r_loada (b := B6) (off := 0) (cs := [.int .i64 ((ent l i.toNat).1), .int .i64 ((ent l i.toNat).2)]) Try.isAgg38 Try.sizeOf38 rfl rfl (fun j hj => by rw [(hb6.upd0 hw').cell]; match j, hj with | 0, _ => rfl | 1, _ => rfl))) ?_
        refine Wt_take (i := 15) (listed' := #[true, true, true, true, true, true, true, true, true, true, true, true, true, true, true, true, false, false, false, false, false, false, false, false, false, false, false, false, false, false, false, false, false]) (by kernel_rfl) rfl (by kernel_rfl) (by kernel_rfl) (by kernel_rfl) (by kernel_rfl) (YI_v (v := .slice a3 (2 ^ bt l) c3) rfl (fun w' hw' => r_mv (v := .slice a3 (2 ^ bt l) c3) rfl)) ?_
        refine Wt_take (i := 16) (listed' := #[true, true, true, true, true, true, true, true, true, true, true, true, true, true, true, true, true, false, false, false, false, false, false, false, false, false, false, false, false, false, false, false, false]) (by kernel_rfl) rfl (by kernel_rfl) (by kernel_rfl) (by kernel_rfl) (by kernel_rfl) (YI_v (v := .int .i64 i) rfl (fun w' hw' => r_mv (v := .int .i64 i) rfl)) ?_
        obtain ⟨ib9, io9, ha9, hib9, hc9⟩ := Sl.rat (0, 0) encE_len (by decide) (hO3.sl) (i := (i).toNat) (by omega)
        refine Wt_take (i := 17) (listed' := #[true, true, true, true, true, true, true, true, true, true, true, true, true, true, true, true, true, true, false, false, false, false, false, false, false, false, false, false, false, false, false, false, false]) (by kernel_rfl) rfl (by kernel_rfl) (by kernel_rfl) (by kernel_rfl) (by kernel_rfl) (YI_v (v := .pointer (some ⟨ib9, io9 + ((i).toNat) * 2, none⟩)) rfl (fun w' hw' => r_idx (b := ib9) (off := io9) (m := 2 ^ bt l) (c := c3) (o' := io9 + ((i).toNat) * 2) Try.underlying24 Try.sizeOf38 (by rw [← ha9]; rfl) rfl (by omega) (by omega) (by omega))) ?_
        refine Wt_take (i := 18) (listed' := #[true, true, true, true, true, true, true, true, true, true, true, true, true, true, true, true, true, true, true, false, false, false, false, false, false, false, false, false, false, false, false, false, false]) (by kernel_rfl) rfl (by kernel_rfl) (by kernel_rfl) (by kernel_rfl) (by kernel_rfl) (YI_v (v := .agg #[.int .i64 (((tbl l).getD (i).toNat (0, 0)).1), .int .i64 (((tbl l).getD (i).toNat (0, 0)).2)]) rfl (fun w' hw' => r_loada (cs := [.int .i64 (((tbl l).getD (i).toNat (0, 0)).1), .int .i64 (((tbl l).getD (i).toNat (0, 0)).2)]) Try.isAgg38 Try.sizeOf38 rfl rfl (hw'.cellsk rfl hc9))) ?_
        refine Wt_take (i := 19) (listed' := #[true, true, true, true, true, true, true, true, true, true, true, true, true, true, true, true, true, true, true, true, false, false, false, false, false, false, false, false, false, false, false, false, false]) (by kernel_rfl) rfl (by kernel_rfl) (by kernel_rfl) (by kernel_rfl) (by kernel_rfl) (YI_v (v := .bool (decide (((ent l i.toNat).1) = (((tbl l).getD (i).toNat (0, 0)).1) ∧ ((ent l i.toNat).2) = (((tbl l).getD (i).toNat (0, 0)).2)))) rfl (fun w' hw' => r_eqag (pp := ((ent l i.toNat).1) = (((tbl l).getD (i).toNat (0, 0)).1) ∧ ((ent l i.toNat).2) = (((tbl l).getD (i).toNat (0, 0)).2)) Try.underlying38 (by kernel_rfl) (by kernel_rfl) rfl rfl (fun w => eqf_int (by decide) Try.underlying3 Try.isAgg3 rfl rfl (fun w => eqf_int (by decide) Try.underlying3 Try.isAgg3 rfl rfl (fun w => eqf_nil))) (by simp [Bool.decide_and]))) ?_
        refine Wt_take (i := 20) (listed' := #[true, true, true, true, true, true, true, true, true, true, true, true, true, true, true, true, true, true, true, true, true, false, false, false, false, false, false, false, false, false, false, false, false]) (by kernel_rfl) rfl (by kernel_rfl) (by kernel_rfl) (by kernel_rfl) (by kernel_rfl) (YI_v rfl (fun w' hw' => r_pick_t (v := .bool (decide (((ent l i.toNat).1) = (((tbl l).getD (i).toNat (0, 0)).1) ∧ ((ent l i.toNat).2) = (((tbl l).getD (i).toNat (0, 0)).2)))) rfl rfl)) ?_
        refine Wt_take (i := 21) (listed' := #[true, true, true, true, true, true, true, true, true, true, true, true, true, true, true, true, true, true, true, true, true, true, false, false, false, false, false, false, false, false, false, false, false]) (by kernel_rfl) rfl (by kernel_rfl) (by kernel_rfl) (by kernel_rfl) (by kernel_rfl) (YI_v rfl (fun w' hw' => r_pick_f (v := .bool (decide (((ent l i.toNat).1) = (((tbl l).getD (i).toNat (0, 0)).1) ∧ ((ent l i.toNat).2) = (((tbl l).getD (i).toNat (0, 0)).2)))) rfl rfl)) ?_
        refine Wt_take (i := 22) (listed' := #[true, true, true, true, true, true, true, true, true, true, true, true, true, true, true, true, true, true, true, true, true, true, true, false, false, false, false, false, false, false, false, false, false]) (by kernel_rfl) rfl (by kernel_rfl) (by kernel_rfl) (by kernel_rfl) (by kernel_rfl) (YI_v rfl (fun w' hw' => r_pick_t (v := .bool (decide (((ent l i.toNat).1) = (((tbl l).getD (i).toNat (0, 0)).1) ∧ ((ent l i.toNat).2) = (((tbl l).getD (i).toNat (0, 0)).2)))) rfl rfl)) ?_
        refine Wt_take (i := 23) (listed' := #[true, true, true, true, true, true, true, true, true, true, true, true, true, true, true, true, true, true, true, true, true, true, true, true, false, false, false, false, false, false, false, false, false]) (by kernel_rfl) rfl (by kernel_rfl) (by kernel_rfl) (by kernel_rfl) (by kernel_rfl) (YI_v (v := .bool (decide (((ent l i.toNat).1) = (((tbl l).getD (i).toNat (0, 0)).1) ∧ ((ent l i.toNat).2) = (((tbl l).getD (i).toNat (0, 0)).2)))) rfl (fun w' hw' => r_mv (v := .bool (decide (((ent l i.toNat).1) = (((tbl l).getD (i).toNat (0, 0)).1) ∧ ((ent l i.toNat).2) = (((tbl l).getD (i).toNat (0, 0)).2)))) rfl)) ?_
        have q8 : ((ent l i.toNat).1) = (((tbl l).getD (i).toNat (0, 0)).1) ∧ ((ent l i.toNat).2) = (((tbl l).getD (i).toNat (0, 0)).2) := ⟨by rw [tbl_get (by omega)], by rw [tbl_get (by omega)]⟩
        rw [decide_eq_true q8]
        refine Wt_take (i := 24) (listed' := #[true, true, true, true, true, true, true, true, true, true, true, true, true, true, true, true, true, true, true, true, true, true, true, true, true, false, false, false, false, false, false, false, false]) (by kernel_rfl) rfl (by kernel_rfl) (by kernel_rfl) (by kernel_rfl) (by kernel_rfl) (YI_v (v := .pointer (some ⟨tb2, 0, none⟩)) rfl (fun w' hw' => r_mv (v := .pointer (some ⟨tb2, 0, none⟩)) rfl)) ?_
        refine Wt_take (i := 25) (listed' := #[true, true, true, true, true, true, true, true, true, true, true, true, true, true, true, true, true, true, true, true, true, true, true, true, true, true, false, false, false, false, false, false, false]) (by kernel_rfl) rfl (by kernel_rfl) (by kernel_rfl) (by kernel_rfl) (by kernel_rfl) (YI_c (v := .int .i64 ((bt l : Nat) : Int)) rfl (fun w' => r_call1 rfl Try.call20 rfl) (fun w' hw' => bits_ok w' (hT2.upd0 hw') (by omega))) ?_
        refine Wt_take (i := 26) (listed' := #[true, true, true, true, true, true, true, true, true, true, true, true, true, true, true, true, true, true, true, true, true, true, true, true, true, true, true, false, false, false, false, false, false]) (by kernel_rfl) rfl (by kernel_rfl) (by kernel_rfl) (by kernel_rfl) (by kernel_rfl) (YI_v (v := .int .i64 (mx l)) rfl (fun w' hw' => r_mv (v := .int .i64 (mx l)) rfl)) ?_
        refine Wt_take (i := 27) (listed' := #[true, true, true, true, true, true, true, true, true, true, true, true, true, true, true, true, true, true, true, true, true, true, true, true, true, true, true, true, false, false, false, false, false]) (by kernel_rfl) rfl (by kernel_rfl) (by kernel_rfl) (by kernel_rfl) (by kernel_rfl) (YI_v (v := .bool (decide (((bt l : Nat) : Int) = (mx l)))) rfl (fun w' hw' => r_eq rfl rfl)) ?_
        refine Wt_take (i := 28) (listed' := #[true, true, true, true, true, true, true, true, true, true, true, true, true, true, true, true, true, true, true, true, true, true, true, true, true, true, true, true, true, false, false, false, false]) (by kernel_rfl) rfl (by kernel_rfl) (by kernel_rfl) (by kernel_rfl) (by kernel_rfl) (YI_v rfl (fun w' hw' => r_pick_t (v := .bool (decide (((bt l : Nat) : Int) = (mx l)))) rfl rfl)) ?_
        refine Wt_take (i := 29) (listed' := #[true, true, true, true, true, true, true, true, true, true, true, true, true, true, true, true, true, true, true, true, true, true, true, true, true, true, true, true, true, true, false, false, false]) (by kernel_rfl) rfl (by kernel_rfl) (by kernel_rfl) (by kernel_rfl) (by kernel_rfl) (YI_v (v := .bool (decide (((bt l : Nat) : Int) = (mx l)))) rfl (fun w' hw' => r_mv (v := .bool (decide (((bt l : Nat) : Int) = (mx l)))) rfl)) ?_
        have q9 : ((bt l : Nat) : Int) = (mx l) := (by omega)
        rw [decide_eq_true q9]
        refine Wt_take (i := 30) (listed' := #[true, true, true, true, true, true, true, true, true, true, true, true, true, true, true, true, true, true, true, true, true, true, true, true, true, true, true, true, true, true, true, false, false]) (by kernel_rfl) rfl (by kernel_rfl) (by kernel_rfl) (by kernel_rfl) (by kernel_rfl) (YI_c (v := .bool true) rfl (fun w' => r_call0 rfl Try.call11 ) (fun w' hw' => works15 w' )) ?_
        refine Wt_take (i := 31) (listed' := #[true, true, true, true, true, true, true, true, true, true, true, true, true, true, true, true, true, true, true, true, true, true, true, true, true, true, true, true, true, true, true, true, false]) (by kernel_rfl) rfl (by kernel_rfl) (by kernel_rfl) (by kernel_rfl) (by kernel_rfl) (YI_v rfl (fun w' hw' => r_pick_t (v := .bool true) rfl rfl)) ?_
        refine Wt_take (i := 32) (listed' := #[true, true, true, true, true, true, true, true, true, true, true, true, true, true, true, true, true, true, true, true, true, true, true, true, true, true, true, true, true, true, true, true, true]) (by kernel_rfl) rfl (by kernel_rfl) (by kernel_rfl) (by kernel_rfl) (by kernel_rfl) (YI_v (v := .bool true) rfl (fun w' hw' => r_as (v := .bool true) rfl)) ?_
        intro w10 hU10
        have hzw10 := hU10.size
        replace hs := hs.upd0 hU10
        replace HU := HU.trans0 hU10
        replace hT2 := hT2.upd0 hU10
        replace hE2 := hE2.upd0 hU10
        replace hL2 := hL2.upd0 hU10
        replace hO3 := hO3.upd0 hU10
        replace hb6 := hb6.upd0 hU10
        refine Wa_done (by kernel_rfl) ?_
        refine W_ret ?_
        refine ret_end (v := .bool true) rfl (res1 Try.results4 rfl) ?_
        exact ⟨_, rfl, rfl, HU⟩
      · refine Wl_call (r_call2 rfl Try.call18 rfl rfl) (tat_out _ hT2 hE2.sl.any (by omega) q4) ?_
        rintro v w11 ⟨rfl, hU11⟩
        have hzw11 := hU11.size
        replace hs := hs.upd0 hU11
        replace HU := HU.trans0 hU11
        replace hT2 := hT2.upd0 hU11
        replace hE2 := hE2.upd0 hU11
        replace hL2 := hL2.upd0 hU11
        replace hO3 := hO3.upd0 hU11
        refine Wl_v (r_mv (v := .tuple #[.agg #[.int .i64 0, .int .i64 0], .bool false]) rfl) ?_
        refine Wl_v (r_ext (v := .agg #[.int .i64 0, .int .i64 0]) rfl rfl) ?_
        refine Wl_v (r_ext (v := .bool false) rfl rfl) ?_
        refine Wl_alloc (cs := [.int .i64 0, .int .i64 0]) Try.zeroValue38 rfl ?_
        intro B12 w12 hB12 hU12 hzz12 hb12
        have hzw12 := hU12.size
        replace hs := hs.upd0 hU12
        replace HU := HU.trans0 hU12
        replace hT2 := hT2.upd0 hU12
        replace hE2 := hE2.upd0 hU12
        replace hL2 := hL2.upd0 hU12
        replace hO3 := hO3.upd0 hU12
        refine Wl_storea (off := 0) (vs := [.int .i64 0, .int .i64 0]) (cs' := [.int .i64 0, .int .i64 0]) Try.sizeOf38 rfl rfl rfl (by simp only [List.mem_cons, List.not_mem_nil, or_false, forall_eq_or_imp, forall_eq]; exact ⟨rfl, rfl⟩) hb12 (by simp) rfl ?_
        intro w13 hU13 hzz13 hb12n
        replace hb12 := hb12n; clear hb12n
        have hzw13 := hU13.size
        replace hs := hs.upd1 hU13 (by intro h1; have h3 : B12 < w.heap.size := h1; omega)
        replace HU := HU.trans1 hU13 (by show (False) ∨ w.heap.size ≤ B12; omega)
        replace hT2 := hT2.upd1 hU13 (by omega)
        replace hE2 := hE2.upd1 hU13 (by intro h1; have h3 : ((w.heap.size ≤ B12 ∧ B12 ≠ tb2) ∧ B12 < w2.heap.size) := h1; omega)
        replace hL2 := hL2.upd1 hU13 (by intro h1; have h3 : ((w.heap.size ≤ B12 ∧ B12 ≠ tb2) ∧ B12 < w2.heap.size) := h1; omega)
        replace hO3 := hO3.upd1 hU13 (by intro h1; have h3 : ((w2.heap.size ≤ B12) ∧ B12 < w3.heap.size) := h1; omega)
        refine Wl_v (r_as (v := .bool false) rfl) ?_
        refine Wl_nil ?_
        refine W_seq ?_
        refine W_region ?_
        refine Wl_v (r_mv (v := .slice a n c) rfl) ?_
        have q10 : Rt l := q3
        refine Wl_call (r_call1 rfl Try.call19 rfl) (longest_ok _ hs (by omega) q10) ?_
        rintro v w14 ⟨rfl, hU14⟩
        have hzw14 := hU14.size
        replace hs := hs.upd0 hU14
        replace HU := HU.trans0 hU14
        replace hT2 := hT2.upd0 hU14
        replace hE2 := hE2.upd0 hU14
        replace hL2 := hL2.upd0 hU14
        replace hO3 := hO3.upd0 hU14
        replace hb12 := hb12.upd0 hU14
        refine Wl_v (r_mv (v := .tuple #[.int .i64 (mx l), .int .i64 0]) rfl) ?_
        refine Wl_v (r_ext (v := .int .i64 (mx l)) rfl rfl) ?_
        refine Wl_v (r_ext (v := .int .i64 0) rfl rfl) ?_
        refine Wl_v (r_as (v := .int .i64 (mx l)) rfl) ?_
        refine Wl_v (r_as (v := .int .i64 0) rfl) ?_
        refine Wl_nil ?_
        refine W_seq ?_
        refine W_region ?_
        refine Wl_v (r_mv (v := .int .i64 i) rfl) ?_
        refine Wl_v (r_ge rfl rfl) ?_
        refine Wl_v (r_mv (v := .bool (decide (0 ≤ i))) rfl) ?_
        by_cases q11 : 0 ≤ i
        · rw [decide_eq_true q11]
          refine Wl_guard_t rfl ?_
          refine Wl_v (r_mv (v := .int .i64 i) rfl) ?_
          refine Wl_guard_t rfl ?_
          refine Wl_v (r_mv (v := .slice a3 (2 ^ bt l) c3) rfl) ?_
          refine Wl_guard_t rfl ?_
          refine Wl_v (r_len Try.underlying24 rfl) ?_
          refine Wl_guard_t rfl ?_
          refine Wl_v (r_lt rfl rfl) ?_
          refine Wl_v (r_pick_t (v := .bool (decide (i < ((2 ^ bt l : Nat) : Int)))) rfl rfl) ?_
          refine Wl_v (r_as (v := .bool (decide (i < ((2 ^ bt l : Nat) : Int)))) rfl) ?_
          refine Wl_nil ?_
          refine W_seq ?_
          refine W_drawt rfl (l0 := #[false, false, false, false, false, false, false, false, false, false, false, false, false, false, false, false, false, false, false, false, false, false, false, false, false, false, false, false, false, false, false, false, false]) (by kernel_rfl) ?_
          refine Wt_take (i := 0) (listed' := #[true, false, false, false, false, false, false, false, false, false, false, false, false, false, false, false, false, false, false, false, false, false, false, false, false, false, false, false, false, false, false, false, false]) (by kernel_rfl) rfl (by kernel_rfl) (by kernel_rfl) (by kernel_rfl) (by kernel_rfl) (YI_v (v := .bool false) rfl (fun w' hw' => r_mv (v := .bool false) rfl)) ?_
          refine Wt_take (i := 1) (listed' := #[true, true, false, false, false, false, false, false, false, false, false, false, false, false, false, false, false, false, false, false, false, false, false, false, false, false, false, false, false, false, false, false, false]) (by kernel_rfl) rfl (by kernel_rfl) (by kernel_rfl) (by kernel_rfl) (by kernel_rfl) (YI_v (v := .bool (decide (i < ((2 ^ bt l : Nat) : Int)))) rfl (fun w' hw' => r_mv (v := .bool (decide (i < ((2 ^ bt l : Nat) : Int)))) rfl)) ?_
          have q12 : ¬ (i < ((2 ^ bt l : Nat) : Int)) := (by omega)
          rw [decide_eq_false q12]
          refine Wt_take (i := 2) (listed' := #[true, true, true, false, false, false, false, false, false, false, false, false, false, false, false, false, false, false, false, false, false, false, false, false, false, false, false, false, false, false, false, false, false]) (by kernel_rfl) rfl (by kernel_rfl) (by kernel_rfl) (by kernel_rfl) (by kernel_rfl) (YI_v (v := .bool true) rfl (fun w' hw' => r_eqb (a := false) (b := false) Try.underlying4 rfl rfl)) ?_
          refine Wt_take (i := 3) (listed' := #[true, true, true, true, false, false, false, false, false, false, false, false, false, false, false, false, false, false, false, false, false, false, false, false, false, false, false, false, false, false, false, false, false]) (by kernel_rfl) rfl (by kernel_rfl) (by kernel_rfl) (by kernel_rfl) (by kernel_rfl) (YI_v (v := .bool true) rfl (fun w' hw' => r_mv (v := .bool true) rfl)) ?_
          refine Wt_take (i := 4) (listed' := #[true, true, true, true, true, false, false, false, false, false, false, false, false, false, false, false, false, false, false, false, false, false, false, false, false, false, false, false, false, false, false, false, false]) (by kernel_rfl) rfl (by kernel_rfl) (by kernel_rfl) (by kernel_rfl) (by kernel_rfl) (YI_v (v := .bool false) rfl (fun w' hw' => r_mv (v := .bool false) rfl)) ?_
          refine Wt_take (i := 5) (listed' := #[true, true, true, true, true, true, false, false, false, false, false, false, false, false, false, false, false, false, false, false, false, false, false, false, false, false, false, false, false, false, false, false, false]) (by kernel_rfl) rfl (by kernel_rfl) (by kernel_rfl) (by kernel_rfl) (by kernel_rfl) (YI_v (v := .bool true) rfl (fun w' hw' => r_not (b := false) rfl)) ?_
          refine Wt_take (i := 6) (listed' := #[true, true, true, true, true, true, true, false, false, false, false, false, false, false, false, false, false, false, false, false, false, false, false, false, false, false, false, false, false, false, false, false, false]) (by kernel_rfl) rfl (by kernel_rfl) (by kernel_rfl) (by kernel_rfl) (by kernel_rfl) (YI_v (v := .bool true) rfl (fun w' hw' => r_mv (v := .bool true) rfl)) ?_
          refine Wt_take (i := 7) (listed' := #[true, true, true, true, true, true, true, true, false, false, false, false, false, false, false, false, false, false, false, false, false, false, false, false, false, false, false, false, false, false, false, false, false]) (by kernel_rfl) rfl (by kernel_rfl) (by kernel_rfl) (by kernel_rfl) (by kernel_rfl) (YI_v (v := .agg #[.int .i64 0, .int .i64 0]) rfl (fun w' hw' => r_loada (b := B12) (off := 0) (cs := [.int .i64 0, .int .i64 0]) Try.isAgg38 Try.sizeOf38 rfl rfl (fun j hj => by rw [(hb12.upd0 hw').cell]; match j, hj with | 0, _ => rfl | 1, _ => rfl))) ?_
          refine Wt_take (i := 8) (listed' := #[true, true, true, true, true, true, true, true, true, false, false, false, false, false, false, false, false, false, false, false, false, false, false, false, false, false, false, false, false, false, false, false, false]) (by kernel_rfl) rfl (by kernel_rfl) (by kernel_rfl) (by kernel_rfl) (by kernel_rfl) (YI_v (v := .agg #[.int .i64 0, .int .i64 0]) rfl (fun w' hw' => r_build (pl := #[(0, 1), (1, 1)]) (pv := []) (cs := #[.int .i64 0, .int .i64 0]) Try.zeroValue38 Try.underlying38 (fun w => by kernel_rfl) (by simp only [List.map_toArray, List.map_cons, List.map_nil] <;> rfl) (by kernel_rfl))) ?_
          refine Wt_take (i := 9) (listed' := #[true, true, true, true, true, true, true, true, true, true, false, false, false, false, false, false, false, false, false, false, false, false, false, false, false, false, false, false, false, false, false, false, false]) (by kernel_rfl) rfl (by kernel_rfl) (by kernel_rfl) (by kernel_rfl) (by kernel_rfl) (YI_v (v := .bool (decide (0 = 0 ∧ 0 = 0))) rfl (fun w' hw' => r_eqag (pp := 0 = 0 ∧ 0 = 0) Try.underlying38 (by kernel_rfl) (by kernel_rfl) rfl rfl (fun w => eqf_int (by decide) Try.underlying3 Try.isAgg3 rfl rfl (fun w => eqf_int (by decide) Try.underlying3 Try.isAgg3 rfl rfl (fun w => eqf_nil))) (by simp [Bool.decide_and]))) ?_
          refine Wt_take (i := 10) (listed' := #[true, true, true, true, true, true, true, true, true, true, true, false, false, false, false, false, false, false, false, false, false, false, false, false, false, false, false, false, false, false, false, false, false]) (by kernel_rfl) rfl (by kernel_rfl) (by kernel_rfl) (by kernel_rfl) (by kernel_rfl) (YI_v rfl (fun w' hw' => r_pick_t (v := .bool (decide (0 = 0 ∧ 0 = 0))) rfl rfl)) ?_
          refine Wt_take (i := 11) (listed' := #[true, true, true, true, true, true, true, true, true, true, true, true, false, false, false, false, false, false, false, false, false, false, false, false, false, false, false, false, false, false, false, false, false]) (by kernel_rfl) rfl (by kernel_rfl) (by kernel_rfl) (by kernel_rfl) (by kernel_rfl) (YI_v (v := .bool (decide (0 = 0 ∧ 0 = 0))) rfl (fun w' hw' => r_mv (v := .bool (decide (0 = 0 ∧ 0 = 0))) rfl)) ?_
          have q13 : 0 = 0 ∧ 0 = 0 := ⟨rfl, rfl⟩
          rw [decide_eq_true q13]
          refine Wt_take (i := 12) (listed' := #[true, true, true, true, true, true, true, true, true, true, true, true, true, false, false, false, false, false, false, false, false, false, false, false, false, false, false, false, false, false, false, false, false]) (by kernel_rfl) rfl (by kernel_rfl) (by kernel_rfl) (by kernel_rfl) (by kernel_rfl) (YI_no rfl) ?_
          refine Wt_take (i := 13) (listed' := #[true, true, true, true, true, true, true, true, true, true, true, true, true, true, false, false, false, false, false, false, false, false, false, false, false, false, false, false, false, false, false, false, false]) (by kernel_rfl) rfl (by kernel_rfl) (by kernel_rfl) (by kernel_rfl) (by kernel_rfl) (YI_no rfl) ?_
          refine Wt_take (i := 14) (listed' := #[true, true, true, true, true, true, true, true, true, true, true, true, true, true, true, false, false, false, false, false, false, false, false, false, false, false, false, false, false, false, false, false, false]) (by kernel_rfl) rfl (by kernel_rfl) (by kernel_rfl) (by kernel_rfl) (by kernel_rfl) (YI_no rfl) ?_
          refine Wt_take (i := 15) (listed' := #[true, true, true, true, true, true, true, true, true, true, true, true, true, true, true, true, false, false, false, false, false, false, false, false, false, false, false, false, false, false, false, false, false]) (by kernel_rfl) rfl (by kernel_rfl) (by kernel_rfl) (by kernel_rfl) (by kernel_rfl) (YI_no rfl) ?_
          refine Wt_take (i := 16) (listed' := #[true, true, true, true, true, true, true, true, true, true, true, true, true, true, true, true, true, false, false, false, false, false, false, false, false, false, false, false, false, false, false, false, false]) (by kernel_rfl) rfl (by kernel_rfl) (by kernel_rfl) (by kernel_rfl) (by kernel_rfl) (YI_no rfl) ?_
          refine Wt_take (i := 17) (listed' := #[true, true, true, true, true, true, true, true, true, true, true, true, true, true, true, true, true, true, false, false, false, false, false, false, false, false, false, false, false, false, false, false, false]) (by kernel_rfl) rfl (by kernel_rfl) (by kernel_rfl) (by kernel_rfl) (by kernel_rfl) (YI_no rfl) ?_
          refine Wt_take (i := 18) (listed' := #[true, true, true, true, true, true, true, true, true, true, true, true, true, true, true, true, true, true, true, false, false, false, false, false, false, false, false, false, false, false, false, false, false]) (by kernel_rfl) rfl (by kernel_rfl) (by kernel_rfl) (by kernel_rfl) (by kernel_rfl) (YI_no rfl) ?_
          refine Wt_take (i := 19) (listed' := #[true, true, true, true, true, true, true, true, true, true, true, true, true, true, true, true, true, true, true, true, false, false, false, false, false, false, false, false, false, false, false, false, false]) (by kernel_rfl) rfl (by kernel_rfl) (by kernel_rfl) (by kernel_rfl) (by kernel_rfl) (YI_no rfl) ?_
          refine Wt_take (i := 20) (listed' := #[true, true, true, true, true, true, true, true, true, true, true, true, true, true, true, true, true, true, true, true, true, false, false, false, false, false, false, false, false, false, false, false, false]) (by kernel_rfl) rfl (by kernel_rfl) (by kernel_rfl) (by kernel_rfl) (by kernel_rfl) (YI_no rfl) ?_
          refine Wt_take (i := 21) (listed' := #[true, true, true, true, true, true, true, true, true, true, true, true, true, true, true, true, true, true, true, true, true, true, false, false, false, false, false, false, false, false, false, false, false]) (by kernel_rfl) rfl (by kernel_rfl) (by kernel_rfl) (by kernel_rfl) (by kernel_rfl) (YI_v rfl (fun w' hw' => r_pick_t (v := .bool true) rfl rfl)) ?_
          refine Wt_take (i := 22) (listed' := #[true, true, true, true, true, true, true, true, true, true, true, true, true, true, true, true, true, true, true, true, true, true, true, false, false, false, false, false, false, false, false, false, false]) (by kernel_rfl) rfl (by kernel_rfl) (by kernel_rfl) (by kernel_rfl) (by kernel_rfl) (YI_v rfl (fun w' hw' => r_pick_t (v := .bool true) rfl rfl)) ?_
          refine Wt_take (i := 23) (listed' := #[true, true, true, true, true, true, true, true, true, true, true, true, true, true, true, true, true, true, true, true, true, true, true, true, false, false, false, false, false, false, false, false, false]) (by kernel_rfl) rfl (by kernel_rfl) (by kernel_rfl) (by kernel_rfl) (by kernel_rfl) (YI_v (v := .bool true) rfl (fun w' hw' => r_mv (v := .bool true) rfl)) ?_
          refine Wt_take (i := 24) (listed' := #[true, true, true, true, true, true, true, true, true, true, true, true, true, true, true, true, true, true, true, true, true, true, true, true, true, false, false, false, false, false, false, false, false]) (by kernel_rfl) rfl (by kernel_rfl) (by kernel_rfl) (by kernel_rfl) (by kernel_rfl) (YI_v (v := .pointer (some ⟨tb2, 0, none⟩)) rfl (fun w' hw' => r_mv (v := .pointer (some ⟨tb2, 0, none⟩)) rfl)) ?_
          refine Wt_take (i := 25) (listed' := #[true, true, true, true, true, true, true, true, true, true, true, true, true, true, true, true, true, true, true, true, true, true, true, true, true, true, false, false, false, false, false, false, false]) (by kernel_rfl) rfl (by kernel_rfl) (by kernel_rfl) (by kernel_rfl) (by kernel_rfl) (YI_c (v := .int .i64 ((bt l : Nat) : Int)) rfl (fun w' => r_call1 rfl Try.call20 rfl) (fun w' hw' => bits_ok w' (hT2.upd0 hw') (by omega))) ?_
          refine Wt_take (i := 26) (listed' := #[true, true, true, true, true, true, true, true, true, true, true, true, true, true, true, true, true, true, true, true, true, true, true, true, true, true, true, false, false, false, false, false, false]) (by kernel_rfl) rfl (by kernel_rfl) (by kernel_rfl) (by kernel_rfl) (by kernel_rfl) (YI_v (v := .int .i64 (mx l)) rfl (fun w' hw' => r_mv (v := .int .i64 (mx l)) rfl)) ?_
          refine Wt_take (i := 27) (listed' := #[true, true, true, true, true, true, true, true, true, true, true, true, true, true, true, true, true, true, true, true, true, true, true, true, true, true, true, true, false, false, false, false, false]) (by kernel_rfl) rfl (by kernel_rfl) (by kernel_rfl) (by kernel_rfl) (by kernel_rfl) (YI_v (v := .bool (decide (((bt l : Nat) : Int) = (mx l)))) rfl (fun w' hw' => r_eq rfl rfl)) ?_
          refine Wt_take (i := 28) (listed' := #[true, true, true, true, true, true, true, true, true, true, true, true, true, true, true, true, true, true, true, true, true, true, true, true, true, true, true, true, true, false, false, false, false]) (by kernel_rfl) rfl (by kernel_rfl) (by kernel_rfl) (by kernel_rfl) (by kernel_rfl) (YI_v rfl (fun w' hw' => r_pick_t (v := .bool (decide (((bt l : Nat) : Int) = (mx l)))) rfl rfl)) ?_
          refine Wt_take (i := 29) (listed' := #[true, true, true, true, true, true, true, true, true, true, true, true, true, true, true, true, true, true, true, true, true, true, true, true, true, true, true, true, true, true, false, false, false]) (by kernel_rfl) rfl (by kernel_rfl) (by kernel_rfl) (by kernel_rfl) (by kernel_rfl) (YI_v (v := .bool (decide (((bt l : Nat) : Int) = (mx l)))) rfl (fun w' hw' => r_mv (v := .bool (decide (((bt l : Nat) : Int) = (mx l)))) rfl)) ?_
          have q14 : ((bt l : Nat) : Int) = (mx l) := (by omega)
          rw [decide_eq_true q14]
          refine Wt_take (i := 30) (listed' := #[true, true, true, true, true, true, true, true, true, true, true, true, true, true, true, true, true, true, true, true, true, true, true, true, true, true, true, true, true, true, true, false, false]) (by kernel_rfl) rfl (by kernel_rfl) (by kernel_rfl) (by kernel_rfl) (by kernel_rfl) (YI_c (v := .bool true) rfl (fun w' => r_call0 rfl Try.call11 ) (fun w' hw' => works15 w' )) ?_
          refine Wt_take (i := 31) (listed' := #[true, true, true, true, true, true, true, true, true, true, true, true, true, true, true, true, true, true, true, true, true, true, true, true, true, true, true, true, true, true, true, true, false]) (by kernel_rfl) rfl (by kernel_rfl) (by kernel_rfl) (by kernel_rfl) (by kernel_rfl) (YI_v rfl (fun w' hw' => r_pick_t (v := .bool true) rfl rfl)) ?_
          refine Wt_take (i := 32) (listed' := #[true, true, true, true, true, true, true, true, true, true, true, true, true, true, true, true, true, true, true, true, true, true, true, true, true, true, true, true, true, true, true, true, true]) (by kernel_rfl) rfl (by kernel_rfl) (by kernel_rfl) (by kernel_rfl) (by kernel_rfl) (YI_v (v := .bool true) rfl (fun w' hw' => r_as (v := .bool true) rfl)) ?_
          intro w15 hU15
          have hzw15 := hU15.size
          replace hs := hs.upd0 hU15
          replace HU := HU.trans0 hU15
          replace hT2 := hT2.upd0 hU15
          replace hE2 := hE2.upd0 hU15
          replace hL2 := hL2.upd0 hU15
          replace hO3 := hO3.upd0 hU15
          replace hb12 := hb12.upd0 hU15
          refine Wa_done (by kernel_rfl) ?_
          refine W_ret ?_
          refine ret_end (v := .bool true) rfl (res1 Try.results4 rfl) ?_
          exact ⟨_, rfl, rfl, HU⟩
        · rw [decide_eq_false q11]
          refine Wl_guard_f rfl ?_
          refine Wl_guard_f rfl ?_
          refine Wl_guard_f rfl ?_
          refine Wl_guard_f rfl ?_
          refine Wl_v (r_pick_f (v := .bool false) rfl rfl) ?_
          refine Wl_v (r_as (v := .bool false) rfl) ?_
          refine Wl_nil ?_
          refine W_seq ?_
          refine W_drawt rfl (l0 := #[false, false, false, false, false, false, false, false, false, false, false, false, false, false, false, false, false, false, false, false, false, false, false, false, false, false, false, false, false, false, false, false, false]) (by kernel_rfl) ?_
          refine Wt_take (i := 0) (listed' := #[true, false, false, false, false, false, false, false, false, false, false, false, false, false, false, false, false, false, false, false, false, false, false, false, false, false, false, false, false, false, false, false, false]) (by kernel_rfl) rfl (by kernel_rfl) (by kernel_rfl) (by kernel_rfl) (by kernel_rfl) (YI_v (v := .bool false) rfl (fun w' hw' => r_mv (v := .bool false) rfl)) ?_
          refine Wt_take (i := 1) (listed' := #[true, true, false, false, false, false, false, false, false, false, false, false, false, false, false, false, false, false, false, false, false, false, false, false, false, false, false, false, false, false, false, false, false]) (by kernel_rfl) rfl (by kernel_rfl) (by kernel_rfl) (by kernel_rfl) (by kernel_rfl) (YI_v (v := .bool false) rfl (fun w' hw' => r_mv (v := .bool false) rfl)) ?_
          refine Wt_take (i := 2) (listed' := #[true, true, true, false, false, false, false, false, false, false, false, false, false, false, false, false, false, false, false, false, false, false, false, false, false, false, false, false, false, false, false, false, false]) (by kernel_rfl) rfl (by kernel_rfl) (by kernel_rfl) (by kernel_rfl) (by kernel_rfl) (YI_v (v := .bool true) rfl (fun w' hw' => r_eqb (a := false) (b := false) Try.underlying4 rfl rfl)) ?_
          refine Wt_take (i := 3) (listed' := #[true, true, true, true, false, false, false, false, false, false, false, false, false, false, false, false, false, false, false, false, false, false, false, false, false, false, false, false, false, false, false, false, false]) (by kernel_rfl) rfl (by kernel_rfl) (by kernel_rfl) (by kernel_rfl) (by kernel_rfl) (YI_v (v := .bool true) rfl (fun w' hw' => r_mv (v := .bool true) rfl)) ?_
          refine Wt_take (i := 4) (listed' := #[true, true, true, true, true, false, false, false, false, false, false, false, false, false, false, false, false, false, false, false, false, false, false, false, false, false, false, false, false, false, false, false, false]) (by kernel_rfl) rfl (by kernel_rfl) (by kernel_rfl) (by kernel_rfl) (by kernel_rfl) (YI_v (v := .bool false) rfl (fun w' hw' => r_mv (v := .bool false) rfl)) ?_
          refine Wt_take (i := 5) (listed' := #[true, true, true, true, true, true, false, false, false, false, false, false, false, false, false, false, false, false, false, false, false, false, false, false, false, false, false, false, false, false, false, false, false]) (by kernel_rfl) rfl (by kernel_rfl) (by kernel_rfl) (by kernel_rfl) (by kernel_rfl) (YI_v (v := .bool true) rfl (fun w' hw' => r_not (b := false) rfl)) ?_
          refine Wt_take (i := 6) (listed' := #[true, true, true, true, true, true, true, false, false, false, false, false, false, false, false, false, false, false, false, false, false, false, false, false, false, false, false, false, false, false, false, false, false]) (by kernel_rfl) rfl (by kernel_rfl) (by kernel_rfl) (by kernel_rfl) (by kernel_rfl) (YI_v (v := .bool true) rfl (fun w' hw' => r_mv (v := .bool true) rfl)) ?_
          refine Wt_take (i := 7) (listed' := #[true, true, true, true, true, true, true, true, false, false, false, false, false, false, false, false, false, false, false, false, false, false, false, false, false, false, false, false, false, false, false, false, false]) (by kernel_rfl) rfl (by kernel_rfl) (by kernel_rfl) (by kernel_rfl) (by kernel_rfl) (YI_v (v := .agg #[.int .i64 0, .int .i64 0]) rfl (fun w' hw' => r_loada (b := B12) (off := 0) (cs := [.int .i64 0, .int .i64 0]) Try.isAgg38 Try.sizeOf38 rfl rfl (fun j hj => by rw [(hb12.upd0 hw').cell]; match j, hj with | 0, _ => rfl | 1, _ => rfl))) ?_
          refine Wt_take (i := 8) (listed' := #[true, true, true, true, true, true, true, true, true, false, false, false, false, false, false, false, false, false, false, false, false, false, false, false, false, false, false, false, false, false, false, false, false]) (by kernel_rfl) rfl (by kernel_rfl) (by kernel_rfl) (by kernel_rfl) (by kernel_rfl) (YI_v (v := .agg #[.int .i64 0, .int .i64 0]) rfl (fun w' hw' => r_build (pl := #[(0, 1), (1, 1)]) (pv := []) (cs := #[.int .i64 0, .int .i64 0]) Try.zeroValue38 Try.underlying38 (fun w => by kernel_rfl) (by simp only [List.map_toArray, List.map_cons, List.map_nil] <;> rfl) (by kernel_rfl))) ?_
          refine Wt_take (i := 9) (listed' := #[true, true, true, true, true, true, true, true, true, true, false, false, false, false, false, false, false, false, false, false, false, false, false, false, false, false, false, false, false, false, false, false, false]) (by kernel_rfl) rfl (by kernel_rfl) (by kernel_rfl) (by kernel_rfl) (by kernel_rfl) (YI_v (v := .bool (decide (0 = 0 ∧ 0 = 0))) rfl (fun w' hw' => r_eqag (pp := 0 = 0 ∧ 0 = 0) Try.underlying38 (by kernel_rfl) (by kernel_rfl) rfl rfl (fun w => eqf_int (by decide) Try.underlying3 Try.isAgg3 rfl rfl (fun w => eqf_int (by decide) Try.underlying3 Try.isAgg3 rfl rfl (fun w => eqf_nil))) (by simp [Bool.decide_and]))) ?_
          refine Wt_take (i := 10) (listed' := #[true, true, true, true, true, true, true, true, true, true, true, false, false, false, false, false, false, false, false, false, false, false, false, false, false, false, false, false, false, false, false, false, false]) (by kernel_rfl) rfl (by kernel_rfl) (by kernel_rfl) (by kernel_rfl) (by kernel_rfl) (YI_v rfl (fun w' hw' => r_pick_t (v := .bool (decide (0 = 0 ∧ 0 = 0))) rfl rfl)) ?_
          refine Wt_take (i := 11) (listed' := #[true, true, true, true, true, true, true, true, true, true, true, true, false, false, false, false, false, false, false, false, false, false, false, false, false, false, false, false, false, false, false, false, false]) (by kernel_rfl) rfl (by kernel_rfl) (by kernel_rfl) (by kernel_rfl) (by kernel_rfl) (YI_v (v := .bool (decide (0 = 0 ∧ 0 = 0))) rfl (fun w' hw' => r_mv (v := .bool (decide (0 = 0 ∧ 0 = 0))) rfl)) ?_
          have q15 : 0 = 0 ∧ 0 = 0 := ⟨rfl, rfl⟩
          rw [decide_eq_true q15]
          refine Wt_take (i := 12) (listed' := #[true, true, true, true, true, true, true, true, true, true, true, true, true, false, false, false, false, false, false, false, false, false, false, false, false, false, false, false, false, false, false, false, false]) (by kernel_rfl) rfl (by kernel_rfl) (by kernel_rfl) (by kernel_rfl) (by kernel_rfl) (YI_no rfl) ?_
          refine Wt_take (i := 13) (listed' := #[true, true, true, true, true, true, true, true, true, true, true, true, true, true, false, false, false, false, false, false, false, false, false, false, false, false, false, false, false, false, false, false, false]) (by kernel_rfl) rfl (by kernel_rfl) (by kernel_rfl) (by kernel_rfl) (by kernel_rfl) (YI_no rfl) ?_
          refine Wt_take (i := 14) (listed' := #[true, true, true, true, true, true, true, true, true, true, true, true, true, true, true, false, false, false, false, false, false, false, false, false, false, false, false, false, false, false, false, false, false]) (by kernel_rfl) rfl (by kernel_rfl) (by kernel_rfl) (by kernel_rfl) (by kernel_rfl) (YI_no rfl) ?_
          refine Wt_take (i := 15) (listed' := #[true, true, true, true, true, true, true, true, true, true, true, true, true, true, true, true, false, false, false, false, false, false, false, false, false, false, false, false, false, false, false, false, false]) (by kernel_rfl) rfl (by kernel_rfl) (by kernel_rfl) (by kernel_rfl) (by kernel_rfl) (YI_no rfl) ?_
          refine Wt_take (i := 16) (listed' := #[true, true, true, true, true, true, true, true, true, true, true, true, true, true, true, true, true, false, false, false, false, false, false, false, false, false, false, false, false, false, false, false, false]) (by kernel_rfl) rfl (by kernel_rfl) (by kernel_rfl) (by kernel_rfl) (by kernel_rfl) (YI_no rfl) ?_
          refine Wt_take (i := 17) (listed' := #[true, true, true, true, true, true, true, true, true, true, true, true, true, true, true, true, true, true, false, false, false, false, false, false, false, false, false, false, false, false, false, false, false]) (by kernel_rfl) rfl (by kernel_rfl) (by kernel_rfl) (by kernel_rfl) (by kernel_rfl) (YI_no rfl) ?_
          refine Wt_take (i := 18) (listed' := #[true, true, true, true, true, true, true, true, true, true, true, true, true, true, true, true, true, true, true, false, false, false, false, false, false, false, false, false, false, false, false, false, false]) (by kernel_rfl) rfl (by kernel_rfl) (by kernel_rfl) (by kernel_rfl) (by kernel_rfl) (YI_no rfl) ?_
          refine Wt_take (i := 19) (listed' := #[true, true, true, true, true, true, true, true, true, true, true, true, true, true, true, true, true, true, true, true, false, false, false, false, false, false, false, false, false, false, false, false, false]) (by kernel_rfl) rfl (by kernel_rfl) (by kernel_rfl) (by kernel_rfl) (by kernel_rfl) (YI_no rfl) ?_
          refine Wt_take (i := 20) (listed' := #[true, true, true, true, true, true, true, true, true, true, true, true, true, true, true, true, true, true, true, true, true, false, false, false, false, false, false, false, false, false, false, false, false]) (by kernel_rfl) rfl (by kernel_rfl) (by kernel_rfl) (by kernel_rfl) (by kernel_rfl) (YI_no rfl) ?_
          refine Wt_take (i := 21) (listed' := #[true, true, true, true, true, true, true, true, true, true, true, true, true, true, true, true, true, true, true, true, true, true, false, false, false, false, false, false, false, false, false, false, false]) (by kernel_rfl) rfl (by kernel_rfl) (by kernel_rfl) (by kernel_rfl) (by kernel_rfl) (YI_v rfl (fun w' hw' => r_pick_t (v := .bool true) rfl rfl)) ?_
          refine Wt_take (i := 22) (listed' := #[true, true, true, true, true, true, true, true, true, true, true, true, true, true, true, true, true, true, true, true, true, true, true, false, false, false, false, false, false, false, false, false, false]) (by kernel_rfl) rfl (by kernel_rfl) (by kernel_rfl) (by kernel_rfl) (by kernel_rfl) (YI_v rfl (fun w' hw' => r_pick_t (v := .bool true) rfl rfl)) ?_
          refine Wt_take (i := 23) (listed' := #[true, true, true, true, true, true, true, true, true, true, true, true, true, true, true, true, true, true, true, true, true, true, true, true, false, false, false, false, false, false, false, false, false]) (by kernel_rfl) rfl (by kernel_rfl) (by kernel_rfl) (by kernel_rfl) (by kernel_rfl) (YI_v (v := .bool true) rfl (fun w' hw' => r_mv (v := .bool true) rfl)) ?_
          refine Wt_take (i := 24) (listed' := #[true, true, true, true, true, true, true, true, true, true, true, true, true, true, true, true, true, true, true, true, true, true, true, true, true, false, false, false, false, false, false, false, false]) (by kernel_rfl) rfl (by kernel_rfl) (by kernel_rfl) (by kernel_rfl) (by kernel_rfl) (YI_v (v := .pointer (some ⟨tb2, 0, none⟩)) rfl (fun w' hw' => r_mv (v := .pointer (some ⟨tb2, 0, none⟩)) rfl)) ?_
          refine Wt_take (i := 25) (listed' := #[true, true, true, true, true, true, true, true, true, true, true, true, true, true, true, true, true, true, true, true, true, true, true, true, true, true, false, false, false, false, false, false, false]) (by kernel_rfl) rfl (by kernel_rfl) (by kernel_rfl) (by kernel_rfl) (by kernel_rfl) (YI_c (v := .int .i64 ((bt l : Nat) : Int)) rfl (fun w' => r_call1 rfl Try.call20 rfl) (fun w' hw' => bits_ok w' (hT2.upd0 hw') (by omega))) ?_
          refine Wt_take (i := 26) (listed' := #[true, true, true, true, true, true, true, true, true, true, true, true, true, true, true, true, true, true, true, true, true, true, true, true, true, true, true, false, false, false, false, false, false]) (by kernel_rfl) rfl (by kernel_rfl) (by kernel_rfl) (by kernel_rfl) (by kernel_rfl) (YI_v (v := .int .i64 (mx l)) rfl (fun w' hw' => r_mv (v := .int .i64 (mx l)) rfl)) ?_
          refine Wt_take (i := 27) (listed' := #[true, true, true, true, true, true, true, true, true, true, true, true, true, true, true, true, true, true, true, true, true, true, true, true, true, true, true, true, false, false, false, false, false]) (by kernel_rfl) rfl (by kernel_rfl) (by kernel_rfl) (by kernel_rfl) (by kernel_rfl) (YI_v (v := .bool (decide (((bt l : Nat) : Int) = (mx l)))) rfl (fun w' hw' => r_eq rfl rfl)) ?_
          refine Wt_take (i := 28) (listed' := #[true, true, true, true, true, true, true, true, true, true, true, true, true, true, true, true, true, true, true, true, true, true, true, true, true, true, true, true, true, false, false, false, false]) (by kernel_rfl) rfl (by kernel_rfl) (by kernel_rfl) (by kernel_rfl) (by kernel_rfl) (YI_v rfl (fun w' hw' => r_pick_t (v := .bool (decide (((bt l : Nat) : Int) = (mx l)))) rfl rfl)) ?_
          refine Wt_take (i := 29) (listed' := #[true, true, true, true, true, true, true, true, true, true, true, true, true, true, true, true, true, true, true, true, true, true, true, true, true, true, true, true, true, true, false, false, false]) (by kernel_rfl) rfl (by kernel_rfl) (by kernel_rfl) (by kernel_rfl) (by kernel_rfl) (YI_v (v := .bool (decide (((bt l : Nat) : Int) = (mx l)))) rfl (fun w' hw' => r_mv (v := .bool (decide (((bt l : Nat) : Int) = (mx l)))) rfl)) ?_
          have q16 : ((bt l : Nat) : Int) = (mx l) := (by omega)
          rw [decide_eq_true q16]
          refine Wt_take (i := 30) (listed' := #[true, true, true, true, true, true, true, true, true, true, true, true, true, true, true, true, true, true, true, true, true, true, true, true, true, true, true, true, true, true, true, false, false]) (by kernel_rfl) rfl (by kernel_rfl) (by kernel_rfl) (by kernel_rfl) (by kernel_rfl) (YI_c (v := .bool true) rfl (fun w' => r_call0 rfl Try.call11 ) (fun w' hw' => works15 w' )) ?_
          refine Wt_take (i := 31) (listed' := #[true, true, true, true, true, true, true, true, true, true, true, true, true, true, true, true, true, true, true, true, true, true, true, true, true, true, true, true, true, true, true, true, false]) (by kernel_rfl) rfl (by kernel_rfl) (by kernel_rfl) (by kernel_rfl) (by kernel_rfl) (YI_v rfl (fun w' hw' => r_pick_t (v := .bool true) rfl rfl)) ?_
          refine Wt_take (i := 32) (listed' := #[true, true, true, true, true, true, true, true, true, true, true, true, true, true, true, true, true, true, true, true, true, true, true, true, true, true, true, true, true, true, true, true, true]) (by kernel_rfl) rfl (by kernel_rfl) (by kernel_rfl) (by kernel_rfl) (by kernel_rfl) (YI_v (v := .bool true) rfl (fun w' hw' => r_as (v := .bool true) rfl)) ?_
          intro w16 hU16
          have hzw16 := hU16.size
          replace hs := hs.upd0 hU16
          replace HU := HU.trans0 hU16
          replace hT2 := hT2.upd0 hU16
          replace hE2 := hE2.upd0 hU16
          replace hL2 := hL2.upd0 hU16
          replace hO3 := hO3.upd0 hU16
          replace hb12 := hb12.upd0 hU16
          refine Wa_done (by kernel_rfl) ?_
          refine W_ret ?_
          refine ret_end (v := .bool true) rfl (res1 Try.results4 rfl) ?_
          exact ⟨_, rfl, rfl, HU⟩
    · refine Wl_call (r_call1 rfl Try.call17 rfl) (new_no _ hs (by omega) q2) ?_
      rintro v w17 ⟨rfl, hU17⟩
      have hzw17 := hU17.size
      replace hs := hs.upd0 hU17
      replace HU := HU.trans0 hU17
      refine Wl_v (r_mv (v := .tuple #[.pointer none, .int .i64 12]) rfl) ?_
      refine Wl_v (r_ext (v := .pointer none) rfl rfl) ?_
      refine Wl_v (r_ext (v := .int .i64 12) rfl rfl) ?_
      refine Wl_v (r_as (v := .pointer none) rfl) ?_
      refine Wl_v (r_as (v := .int .i64 12) rfl) ?_
      refine Wl_nil ?_
      refine W_seq ?_
      refine W_region ?_
      refine Wl_v (r_mv (v := .slice a n c) rfl) ?_
      have q17 : ¬ (Rt l) := q2
      refine Wl_call (r_call1 rfl Try.call13 rfl) (of_f _ hs (by omega) q17) ?_
      rintro v w18 ⟨rfl, hU18⟩
      have hzw18 := hU18.size
      replace hs := hs.upd0 hU18
      replace HU := HU.trans0 hU18
      refine Wl_v (r_mv (v := .tuple #[.slice none 0 0, .int .i64 12]) rfl) ?_
      refine Wl_v (r_ext (v := .slice none 0 0) rfl rfl) ?_
      refine Wl_v (r_ext (v := .int .i64 12) rfl rfl) ?_
      refine Wl_v (r_as (v := .slice none 0 0) rfl) ?_
      refine Wl_v (r_as (v := .int .i64 12) rfl) ?_
      refine Wl_nil ?_
      refine W_seq ?_
      refine W_seq ?_
      refine W_region ?_
      refine Wl_v (r_mv (v := .int .i64 12) rfl) ?_
      refine Wl_call (r_call1 rfl Try.call15 rfl) (num15 _ ) ?_
      rintro v w19 ⟨rfl, hU19⟩
      have hzw19 := hU19.size
      replace hs := hs.upd0 hU19
      replace HU := HU.trans0 hU19
      refine Wl_v (r_mv (v := .int .i64 12) rfl) ?_
      refine Wl_v (v := .bool false) (r_ne (a := 12) (b := 12) rfl rfl) ?_
      refine Wl_v (r_mv (v := .bool false) rfl) ?_
      refine Wl_guard_t rfl ?_
      refine Wl_v (r_mv (v := .pointer none) rfl) ?_
      refine Wl_guard_t rfl ?_
      refine Wl_v (r_nepn_n Try.underlying34 rfl rfl) ?_
      refine Wl_guard_t rfl ?_
      refine Wl_v (r_mv (v := .int .i64 12) rfl) ?_
      refine Wl_guard_t rfl ?_
      refine Wl_v (v := .bool false) (r_eq (a := 12) (b := 0) rfl rfl) ?_
      refine Wl_guard_t rfl ?_
      refine Wl_v (v := .bool false) (r_neb (a := false) (b := false) Try.underlying4 rfl rfl) ?_
      refine Wl_v (r_pick_f (v := .bool false) rfl rfl) ?_
      refine Wl_nil ?_
      refine W_cond_f rfl ?_
      refine W_skip ?_
      refine W_seq ?_
      refine W_region ?_
      refine Wl_v (r_mv (v := .pointer none) rfl) ?_
      refine Wl_v (r_mv (v := .int .i64 i) rfl) ?_
      refine Wl_call (r_call2 rfl Try.call18 rfl rfl) (at_nil _ ) ?_
      rintro v w20 ⟨rfl, hU20⟩
      have hzw20 := hU20.size
      replace hs := hs.upd0 hU20
      replace HU := HU.trans0 hU20
      refine Wl_v (r_mv (v := .tuple #[.agg #[.int .i64 0, .int .i64 0], .bool false]) rfl) ?_
      refine Wl_v (r_ext (v := .agg #[.int .i64 0, .int .i64 0]) rfl rfl) ?_
      refine Wl_v (r_ext (v := .bool false) rfl rfl) ?_
      refine Wl_alloc (cs := [.int .i64 0, .int .i64 0]) Try.zeroValue38 rfl ?_
      intro B21 w21 hB21 hU21 hzz21 hb21
      have hzw21 := hU21.size
      replace hs := hs.upd0 hU21
      replace HU := HU.trans0 hU21
      refine Wl_storea (off := 0) (vs := [.int .i64 0, .int .i64 0]) (cs' := [.int .i64 0, .int .i64 0]) Try.sizeOf38 rfl rfl rfl (by simp only [List.mem_cons, List.not_mem_nil, or_false, forall_eq_or_imp, forall_eq]; exact ⟨rfl, rfl⟩) hb21 (by simp) rfl ?_
      intro w22 hU22 hzz22 hb21n
      replace hb21 := hb21n; clear hb21n
      have hzw22 := hU22.size
      replace hs := hs.upd1 hU22 (by intro h1; have h3 : B21 < w.heap.size := h1; omega)
      replace HU := HU.trans1 hU22 (by show (False) ∨ w.heap.size ≤ B21; omega)
      refine Wl_v (r_as (v := .bool false) rfl) ?_
      refine Wl_nil ?_
      refine W_seq ?_
      refine W_region ?_
      refine Wl_v (r_mv (v := .slice a n c) rfl) ?_
      have q18 : ¬ (Rt l) := q17
      refine Wl_call (r_call1 rfl Try.call19 rfl) (longest_no _ hs (by omega) q18) ?_
      rintro v w23 ⟨rfl, hU23⟩
      have hzw23 := hU23.size
      replace hs := hs.upd0 hU23
      replace HU := HU.trans0 hU23
      replace hb21 := hb21.upd0 hU23
      refine Wl_v (r_mv (v := .tuple #[.int .i64 0, .int .i64 12]) rfl) ?_
      refine Wl_v (r_ext (v := .int .i64 0) rfl rfl) ?_
      refine Wl_v (r_ext (v := .int .i64 12) rfl rfl) ?_
      refine Wl_v (r_as (v := .int .i64 0) rfl) ?_
      refine Wl_v (r_as (v := .int .i64 12) rfl) ?_
      refine Wl_nil ?_
      refine W_seq ?_
      refine W_region ?_
      refine Wl_v (r_mv (v := .int .i64 i) rfl) ?_
      refine Wl_v (r_ge rfl rfl) ?_
      refine Wl_v (r_mv (v := .bool (decide (0 ≤ i))) rfl) ?_
      by_cases q19 : 0 ≤ i
      · rw [decide_eq_true q19]
        refine Wl_guard_t rfl ?_
        refine Wl_v (r_mv (v := .int .i64 i) rfl) ?_
        refine Wl_guard_t rfl ?_
        refine Wl_v (r_mv (v := .slice none 0 0) rfl) ?_
        refine Wl_guard_t rfl ?_
        refine Wl_v (r_len Try.underlying24 rfl) ?_
        refine Wl_guard_t rfl ?_
        refine Wl_v (r_lt rfl rfl) ?_
        refine Wl_v (r_pick_t (v := .bool (decide (i < 0))) rfl rfl) ?_
        refine Wl_v (r_as (v := .bool (decide (i < 0))) rfl) ?_
        refine Wl_nil ?_
        refine W_seq ?_
        refine W_drawt rfl (l0 := #[false, false, false, false, false, false, false, false, false, false, false, false, false, false, false, false, false, false, false, false, false, false, false, false, false, false, false, false, false, false, false, false, false]) (by kernel_rfl) ?_
        refine Wt_take (i := 0) (listed' := #[true, false, false, false, false, false, false, false, false, false, false, false, false, false, false, false, false, false, false, false, false, false, false, false, false, false, false, false, false, false, false, false, false]) (by kernel_rfl) rfl (by kernel_rfl) (by kernel_rfl) (by kernel_rfl) (by kernel_rfl) (YI_v (v := .bool false) rfl (fun w' hw' => r_mv (v := .bool false) rfl)) ?_
        refine Wt_take (i := 1) (listed' := #[true, true, false, false, false, false, false, false, false, false, false, false, false, false, false, false, false, false, false, false, false, false, false, false, false, false, false, false, false, false, false, false, false]) (by kernel_rfl) rfl (by kernel_rfl) (by kernel_rfl) (by kernel_rfl) (by kernel_rfl) (YI_v (v := .bool (decide (i < 0))) rfl (fun w' hw' => r_mv (v := .bool (decide (i < 0))) rfl)) ?_
        have q20 : ¬ (i < 0) := (by omega)
        rw [decide_eq_false q20]
        refine Wt_take (i := 2) (listed' := #[true, true, true, false, false, false, false, false, false, false, false, false, false, false, false, false, false, false, false, false, false, false, false, false, false, false, false, false, false, false, false, false, false]) (by kernel_rfl) rfl (by kernel_rfl) (by kernel_rfl) (by kernel_rfl) (by kernel_rfl) (YI_v (v := .bool true) rfl (fun w' hw' => r_eqb (a := false) (b := false) Try.underlying4 rfl rfl)) ?_
        refine Wt_take (i := 3) (listed' := #[true, true, true, true, false, false, false, false, false, false, false, false, false, false, false, false, false, false, false, false, false, false, false, false, false, false, false, false, false, false, false, false, false]) (by kernel_rfl) rfl (by kernel_rfl) (by kernel_rfl) (by kernel_rfl) (by kernel_rfl) (YI_v (v := .bool true) rfl (fun w' hw' => r_mv (v := .bool true) rfl)) ?_
        refine Wt_take (i := 4) (listed' := #[true, true, true, true, true, false, false, false, false, false, false, false, false, false, false, false, false, false, false, false, false, false, false, false, false, false, false, false, false, false, false, false, false]) (by kernel_rfl) rfl (by kernel_rfl) (by kernel_rfl) (by kernel_rfl) (by kernel_rfl) (YI_v (v := .bool false) rfl (fun w' hw' => r_mv (v := .bool false) rfl)) ?_
        refine Wt_take (i := 5) (listed' := #[true, true, true, true, true, true, false, false, false, false, false, false, false, false, false, false, false, false, false, false, false, false, false, false, false, false, false, false, false, false, false, false, false]) (by kernel_rfl) rfl (by kernel_rfl) (by kernel_rfl) (by kernel_rfl) (by kernel_rfl) (YI_v (v := .bool true) rfl (fun w' hw' => r_not (b := false) rfl)) ?_
        refine Wt_take (i := 6) (listed' := #[true, true, true, true, true, true, true, false, false, false, false, false, false, false, false, false, false, false, false, false, false, false, false, false, false, false, false, false, false, false, false, false, false]) (by kernel_rfl) rfl (by kernel_rfl) (by kernel_rfl) (by kernel_rfl) (by kernel_rfl) (YI_v (v := .bool true) rfl (fun w' hw' => r_mv (v := .bool true) rfl)) ?_
        refine Wt_take (i := 7) (listed' := #[true, true, true, true, true, true, true, true, false, false, false, false, false, false, false, false, false, false, false, false, false, false, false, false, false, false, false, false, false, false, false, false, false]) (by kernel_rfl) rfl (by kernel_rfl) (by kernel_rfl) (by kernel_rfl) (by kernel_rfl) (YI_v (v := .agg #[.int .i64 0, .int .i64 0]) rfl (fun w' hw' => r_loada (b := B21) (off := 0) (cs := [.int .i64 0, .int .i64 0]) Try.isAgg38 Try.sizeOf38 rfl rfl (fun j hj => by rw [(hb21.upd0 hw').cell]; match j, hj with | 0, _ => rfl | 1, _ => rfl))) ?_
        refine Wt_take (i := 8) (listed' := #[true, true, true, true, true, true, true, true, true, false, false, false, false, false, false, false, false, false, false, false, false, false, false, false, false, false, false, false, false, false, false, false, false]) (by kernel_rfl) rfl (by kernel_rfl) (by kernel_rfl) (by kernel_rfl) (by kernel_rfl) (YI_v (v := .agg #[.int .i64 0, .int .i64 0]) rfl (fun w' hw' => r_build (pl := #[(0, 1), (1, 1)]) (pv := []) (cs := #[.int .i64 0, .int .i64 0]) Try.zeroValue38 Try.underlying38 (fun w => by kernel_rfl) (by simp only [List.map_toArray, List.map_cons, List.map_nil] <;> rfl) (by kernel_rfl))) ?_
        refine Wt_take (i := 9) (listed' := #[true, true, true, true, true, true, true, true, true, true, false, false, false, false, false, false, false, false, false, false, false, false, false, false, false, false, false, false, false, false, false, false, false]) (by kernel_rfl) rfl (by kernel_rfl) (by kernel_rfl) (by kernel_rfl) (by kernel_rfl) (YI_v (v := .bool (decide (0 = 0 ∧ 0 = 0))) rfl (fun w' hw' => r_eqag (pp := 0 = 0 ∧ 0 = 0) Try.underlying38 (by kernel_rfl) (by kernel_rfl) rfl rfl (fun w => eqf_int (by decide) Try.underlying3 Try.isAgg3 rfl rfl (fun w => eqf_int (by decide) Try.underlying3 Try.isAgg3 rfl rfl (fun w => eqf_nil))) (by simp [Bool.decide_and]))) ?_
        refine Wt_take (i := 10) (listed' := #[true, true, true, true, true, true, true, true, true, true, true, false, false, false, false, false, false, false, false, false, false, false, false, false, false, false, false, false, false, false, false, false, false]) (by kernel_rfl) rfl (by kernel_rfl) (by kernel_rfl) (by kernel_rfl) (by kernel_rfl) (YI_v rfl (fun w' hw' => r_pick_t (v := .bool (decide (0 = 0 ∧ 0 = 0))) rfl rfl)) ?_
        refine Wt_take (i := 11) (listed' := #[true, true, true, true, true, true, true, true, true, true, true, true, false, false, false, false, false, false, false, false, false, false, false, false, false, false, false, false, false, false, false, false, false]) (by kernel_rfl) rfl (by kernel_rfl) (by kernel_rfl) (by kernel_rfl) (by kernel_rfl) (YI_v (v := .bool (decide (0 = 0 ∧ 0 = 0))) rfl (fun w' hw' => r_mv (v := .bool (decide (0 = 0 ∧ 0 = 0))) rfl)) ?_
        have q21 : 0 = 0 ∧ 0 = 0 := ⟨rfl, rfl⟩
        rw [decide_eq_true q21]
        refine Wt_take (i := 12) (listed' := #[true, true, true, true, true, true, true, true, true, true, true, true, true, false, false, false, false, false, false, false, false, false, false, false, false, false, false, false, false, false, false, false, false]) (by kernel_rfl) rfl (by kernel_rfl) (by kernel_rfl) (by kernel_rfl) (by kernel_rfl) (YI_no rfl) ?_
        refine Wt_take (i := 13) (listed' := #[true, true, true, true, true, true, true, true, true, true, true, true, true, true, false, false, false, false, false, false, false, false, false, false, false, false, false, false, false, false, false, false, false]) (by kernel_rfl) rfl (by kernel_rfl) (by kernel_rfl) (by kernel_rfl) (by kernel_rfl) (YI_no rfl) ?_
        refine Wt_take (i := 14) (listed' := #[true, true, true, true, true, true, true, true, true, true, true, true, true, true, true, false, false, false, false, false, false, false, false, false, false, false, false, false, false, false, false, false, false]) (by kernel_rfl) rfl (by kernel_rfl) (by kernel_rfl) (by kernel_rfl) (by kernel_rfl) (YI_no rfl) ?_
        refine Wt_take (i := 15) (listed' := #[true, true, true, true, true, true, true, true, true, true, true, true, true, true, true, true, false, false, false, false, false, false, false, false, false, false, false, false, false, false, false, false, false]) (by kernel_rfl) rfl (by kernel_rfl) (by kernel_rfl) (by kernel_rfl) (by kernel_rfl) (YI_no rfl) ?_
        refine Wt_take (i := 16) (listed' := #[true, true, true, true, true, true, true, true, true, true, true, true, true, true, true, true, true, false, false, false, false, false, false, false, false, false, false, false, false, false, false, false, false]) (by kernel_rfl) rfl (by kernel_rfl) (by kernel_rfl) (by kernel_rfl) (by kernel_rfl) (YI_no rfl) ?_
        refine Wt_take (i := 17) (listed' := #[true, true, true, true, true, true, true, true, true, true, true, true, true, true, true, true, true, true, false, false, false, false, false, false, false, false, false, false, false, false, false, false, false]) (by kernel_rfl) rfl (by kernel_rfl) (by kernel_rfl) (by kernel_rfl) (by kernel_rfl) (YI_no rfl) ?_
        refine Wt_take (i := 18) (listed' := #[true, true, true, true, true, true, true, true, true, true, true, true, true, true, true, true, true, true, true, false, false, false, false, false, false, false, false, false, false, false, false, false, false]) (by kernel_rfl) rfl (by kernel_rfl) (by kernel_rfl) (by kernel_rfl) (by kernel_rfl) (YI_no rfl) ?_
        refine Wt_take (i := 19) (listed' := #[true, true, true, true, true, true, true, true, true, true, true, true, true, true, true, true, true, true, true, true, false, false, false, false, false, false, false, false, false, false, false, false, false]) (by kernel_rfl) rfl (by kernel_rfl) (by kernel_rfl) (by kernel_rfl) (by kernel_rfl) (YI_no rfl) ?_
        refine Wt_take (i := 20) (listed' := #[true, true, true, true, true, true, true, true, true, true, true, true, true, true, true, true, true, true, true, true, true, false, false, false, false, false, false, false, false, false, false, false, false]) (by kernel_rfl) rfl (by kernel_rfl) (by kernel_rfl) (by kernel_rfl) (by kernel_rfl) (YI_no rfl) ?_
        refine Wt_take (i := 21) (listed' := #[true, true, true, true, true, true, true, true, true, true, true, true, true, true, true, true, true, true, true, true, true, true, false, false, false, false, false, false, false, false, false, false, false]) (by kernel_rfl) rfl (by kernel_rfl) (by kernel_rfl) (by kernel_rfl) (by kernel_rfl) (YI_v rfl (fun w' hw' => r_pick_t (v := .bool true) rfl rfl)) ?_
        refine Wt_take (i := 22) (listed' := #[true, true, true, true, true, true, true, true, true, true, true, true, true, true, true, true, true, true, true, true, true, true, true, false, false, false, false, false, false, false, false, false, false]) (by kernel_rfl) rfl (by kernel_rfl) (by kernel_rfl) (by kernel_rfl) (by kernel_rfl) (YI_v rfl (fun w' hw' => r_pick_t (v := .bool true) rfl rfl)) ?_
        refine Wt_take (i := 23) (listed' := #[true, true, true, true, true, true, true, true, true, true, true, true, true, true, true, true, true, true, true, true, true, true, true, true, false, false, false, false, false, false, false, false, false]) (by kernel_rfl) rfl (by kernel_rfl) (by kernel_rfl) (by kernel_rfl) (by kernel_rfl) (YI_v (v := .bool true) rfl (fun w' hw' => r_mv (v := .bool true) rfl)) ?_
        refine Wt_take (i := 24) (listed' := #[true, true, true, true, true, true, true, true, true, true, true, true, true, true, true, true, true, true, true, true, true, true, true, true, true, false, false, false, false, false, false, false, false]) (by kernel_rfl) rfl (by kernel_rfl) (by kernel_rfl) (by kernel_rfl) (by kernel_rfl) (YI_v (v := .pointer none) rfl (fun w' hw' => r_mv (v := .pointer none) rfl)) ?_
        refine Wt_take (i := 25) (listed' := #[true, true, true, true, true, true, true, true, true, true, true, true, true, true, true, true, true, true, true, true, true, true, true, true, true, true, false, false, false, false, false, false, false]) (by kernel_rfl) rfl (by kernel_rfl) (by kernel_rfl) (by kernel_rfl) (by kernel_rfl) (YI_c (v := .int .i64 0) rfl (fun w' => r_call1 rfl Try.call20 rfl) (fun w' hw' => bits_nil w' )) ?_
        refine Wt_take (i := 26) (listed' := #[true, true, true, true, true, true, true, true, true, true, true, true, true, true, true, true, true, true, true, true, true, true, true, true, true, true, true, false, false, false, false, false, false]) (by kernel_rfl) rfl (by kernel_rfl) (by kernel_rfl) (by kernel_rfl) (by kernel_rfl) (YI_v (v := .int .i64 0) rfl (fun w' hw' => r_mv (v := .int .i64 0) rfl)) ?_
        refine Wt_take (i := 27) (listed' := #[true, true, true, true, true, true, true, true, true, true, true, true, true, true, true, true, true, true, true, true, true, true, true, true, true, true, true, true, false, false, false, false, false]) (by kernel_rfl) rfl (by kernel_rfl) (by kernel_rfl) (by kernel_rfl) (by kernel_rfl) (YI_v (v := .bool true) rfl (fun w' hw' => r_eq (a := 0) (b := 0) rfl rfl)) ?_
        refine Wt_take (i := 28) (listed' := #[true, true, true, true, true, true, true, true, true, true, true, true, true, true, true, true, true, true, true, true, true, true, true, true, true, true, true, true, true, false, false, false, false]) (by kernel_rfl) rfl (by kernel_rfl) (by kernel_rfl) (by kernel_rfl) (by kernel_rfl) (YI_v rfl (fun w' hw' => r_pick_t (v := .bool true) rfl rfl)) ?_
        refine Wt_take (i := 29) (listed' := #[true, true, true, true, true, true, true, true, true, true, true, true, true, true, true, true, true, true, true, true, true, true, true, true, true, true, true, true, true, true, false, false, false]) (by kernel_rfl) rfl (by kernel_rfl) (by kernel_rfl) (by kernel_rfl) (by kernel_rfl) (YI_v (v := .bool true) rfl (fun w' hw' => r_mv (v := .bool true) rfl)) ?_
        refine Wt_take (i := 30) (listed' := #[true, true, true, true, true, true, true, true, true, true, true, true, true, true, true, true, true, true, true, true, true, true, true, true, true, true, true, true, true, true, true, false, false]) (by kernel_rfl) rfl (by kernel_rfl) (by kernel_rfl) (by kernel_rfl) (by kernel_rfl) (YI_c (v := .bool true) rfl (fun w' => r_call0 rfl Try.call11 ) (fun w' hw' => works15 w' )) ?_
        refine Wt_take (i := 31) (listed' := #[true, true, true, true, true, true, true, true, true, true, true, true, true, true, true, true, true, true, true, true, true, true, true, true, true, true, true, true, true, true, true, true, false]) (by kernel_rfl) rfl (by kernel_rfl) (by kernel_rfl) (by kernel_rfl) (by kernel_rfl) (YI_v rfl (fun w' hw' => r_pick_t (v := .bool true) rfl rfl)) ?_
        refine Wt_take (i := 32) (listed' := #[true, true, true, true, true, true, true, true, true, true, true, true, true, true, true, true, true, true, true, true, true, true, true, true, true, true, true, true, true, true, true, true, true]) (by kernel_rfl) rfl (by kernel_rfl) (by kernel_rfl) (by kernel_rfl) (by kernel_rfl) (YI_v (v := .bool true) rfl (fun w' hw' => r_as (v := .bool true) rfl)) ?_
        intro w24 hU24
        have hzw24 := hU24.size
        replace hs := hs.upd0 hU24
        replace HU := HU.trans0 hU24
        replace hb21 := hb21.upd0 hU24
        refine Wa_done (by kernel_rfl) ?_
        refine W_ret ?_
        refine ret_end (v := .bool true) rfl (res1 Try.results4 rfl) ?_
        exact ⟨_, rfl, rfl, HU⟩
      · rw [decide_eq_false q19]
        refine Wl_guard_f rfl ?_
        refine Wl_guard_f rfl ?_
        refine Wl_guard_f rfl ?_
        refine Wl_guard_f rfl ?_
        refine Wl_v (r_pick_f (v := .bool false) rfl rfl) ?_
        refine Wl_v (r_as (v := .bool false) rfl) ?_
        refine Wl_nil ?_
        refine W_seq ?_
        refine W_drawt rfl (l0 := #[false, false, false, false, false, false, false, false, false, false, false, false, false, false, false, false, false, false, false, false, false, false, false, false, false, false, false, false, false, false, false, false, false]) (by kernel_rfl) ?_
        refine Wt_take (i := 0) (listed' := #[true, false, false, false, false, false, false, false, false, false, false, false, false, false, false, false, false, false, false, false, false, false, false, false, false, false, false, false, false, false, false, false, false]) (by kernel_rfl) rfl (by kernel_rfl) (by kernel_rfl) (by kernel_rfl) (by kernel_rfl) (YI_v (v := .bool false) rfl (fun w' hw' => r_mv (v := .bool false) rfl)) ?_
        refine Wt_take (i := 1) (listed' := #[true, true, false, false, false, false, false, false, false, false, false, false, false, false, false, false, false, false, false, false, false, false, false, false, false, false, false, false, false, false, false, false, false]) (by kernel_rfl) rfl (by kernel_rfl) (by kernel_rfl) (by kernel_rfl) (by kernel_rfl) (YI_v (v := .bool false) rfl (fun w' hw' => r_mv (v := .bool false) rfl)) ?_
        refine Wt_take (i := 2) (listed' := #[true, true, true, false, false, false, false, false, false, false, false, false, false, false, false, false, false, false, false, false, false, false, false, false, false, false, false, false, false, false, false, false, false]) (by kernel_rfl) rfl (by kernel_rfl) (by kernel_rfl) (by kernel_rfl) (by kernel_rfl) (YI_v (v := .bool true) rfl (fun w' hw' => r_eqb (a := false) (b := false) Try.underlying4 rfl rfl)) ?_
        refine Wt_take (i := 3) (listed' := #[true, true, true, true, false, false, false, false, false, false, false, false, false, false, false, false, false, false, false, false, false, false, false, false, false, false, false, false, false, false, false, false, false]) (by kernel_rfl) rfl (by kernel_rfl) (by kernel_rfl) (by kernel_rfl) (by kernel_rfl) (YI_v (v := .bool true) rfl (fun w' hw' => r_mv (v := .bool true) rfl)) ?_
        refine Wt_take (i := 4) (listed' := #[true, true, true, true, true, false, false, false, false, false, false, false, false, false, false, false, false, false, false, false, false, false, false, false, false, false, false, false, false, false, false, false, false]) (by kernel_rfl) rfl (by kernel_rfl) (by kernel_rfl) (by kernel_rfl) (by kernel_rfl) (YI_v (v := .bool false) rfl (fun w' hw' => r_mv (v := .bool false) rfl)) ?_
        refine Wt_take (i := 5) (listed' := #[true, true, true, true, true, true, false, false, false, false, false, false, false, false, false, false, false, false, false, false, false, false, false, false, false, false, false, false, false, false, false, false, false]) (by kernel_rfl) rfl (by kernel_rfl) (by kernel_rfl) (by kernel_rfl) (by kernel_rfl) (YI_v (v := .bool true) rfl (fun w' hw' => r_not (b := false) rfl)) ?_
        refine Wt_take (i := 6) (listed' := #[true, true, true, true, true, true, true, false, false, false, false, false, false, false, false, false, false, false, false, false, false, false, false, false, false, false, false, false, false, false, false, false, false]) (by kernel_rfl) rfl (by kernel_rfl) (by kernel_rfl) (by kernel_rfl) (by kernel_rfl) (YI_v (v := .bool true) rfl (fun w' hw' => r_mv (v := .bool true) rfl)) ?_
        refine Wt_take (i := 7) (listed' := #[true, true, true, true, true, true, true, true, false, false, false, false, false, false, false, false, false, false, false, false, false, false, false, false, false, false, false, false, false, false, false, false, false]) (by kernel_rfl) rfl (by kernel_rfl) (by kernel_rfl) (by kernel_rfl) (by kernel_rfl) (YI_v (v := .agg #[.int .i64 0, .int .i64 0]) rfl (fun w' hw' => r_loada (b := B21) (off := 0) (cs := [.int .i64 0, .int .i64 0]) Try.isAgg38 Try.sizeOf38 rfl rfl (fun j hj => by rw [(hb21.upd0 hw').cell]; match j, hj with | 0, _ => rfl | 1, _ => rfl))) ?_
        refine Wt_take (i := 8) (listed' := #[true, true, true, true, true, true, true, true, true, false, false, false, false, false, false, false, false, false, false, false, false, false, false, false, false, false, false, false, false, false, false, false, false]) (by kernel_rfl) rfl (by kernel_rfl) (by kernel_rfl) (by kernel_rfl) (by kernel_rfl) (YI_v (v := .agg #[.int .i64 0, .int .i64 0]) rfl (fun w' hw' => r_build (pl := #[(0, 1), (1, 1)]) (pv := []) (cs := #[.int .i64 0, .int .i64 0]) Try.zeroValue38 Try.underlying38 (fun w => by kernel_rfl) (by simp only [List.map_toArray, List.map_cons, List.map_nil] <;> rfl) (by kernel_rfl))) ?_
        refine Wt_take (i := 9) (listed' := #[true, true, true, true, true, true, true, true, true, true, false, false, false, false, false, false, false, false, false, false, false, false, false, false, false, false, false, false, false, false, false, false, false]) (by kernel_rfl) rfl (by kernel_rfl) (by kernel_rfl) (by kernel_rfl) (by kernel_rfl) (YI_v (v := .bool (decide (0 = 0 ∧ 0 = 0))) rfl (fun w' hw' => r_eqag (pp := 0 = 0 ∧ 0 = 0) Try.underlying38 (by kernel_rfl) (by kernel_rfl) rfl rfl (fun w => eqf_int (by decide) Try.underlying3 Try.isAgg3 rfl rfl (fun w => eqf_int (by decide) Try.underlying3 Try.isAgg3 rfl rfl (fun w => eqf_nil))) (by simp [Bool.decide_and]))) ?_
        refine Wt_take (i := 10) (listed' := #[true, true, true, true, true, true, true, true, true, true, true, false, false, false, false, false, false, false, false, false, false, false, false, false, false, false, false, false, false, false, false, false, false]) (by kernel_rfl) rfl (by kernel_rfl) (by kernel_rfl) (by kernel_rfl) (by kernel_rfl) (YI_v rfl (fun w' hw' => r_pick_t (v := .bool (decide (0 = 0 ∧ 0 = 0))) rfl rfl)) ?_
        refine Wt_take (i := 11) (listed' := #[true, true, true, true, true, true, true, true, true, true, true, true, false, false, false, false, false, false, false, false, false, false, false, false, false, false, false, false, false, false, false, false, false]) (by kernel_rfl) rfl (by kernel_rfl) (by kernel_rfl) (by kernel_rfl) (by kernel_rfl) (YI_v (v := .bool (decide (0 = 0 ∧ 0 = 0))) rfl (fun w' hw' => r_mv (v := .bool (decide (0 = 0 ∧ 0 = 0))) rfl)) ?_
        have q22 : 0 = 0 ∧ 0 = 0 := ⟨rfl, rfl⟩
        rw [decide_eq_true q22]
        refine Wt_take (i := 12) (listed' := #[true, true, true, true, true, true, true, true, true, true, true, true, true, false, false, false, false, false, false, false, false, false, false, false, false, false, false, false, false, false, false, false, false]) (by kernel_rfl) rfl (by kernel_rfl) (by kernel_rfl) (by kernel_rfl) (by kernel_rfl) (YI_no rfl) ?_
        refine Wt_take (i := 13) (listed' := #[true, true, true, true, true, true, true, true, true, true, true, true, true, true, false, false, false, false, false, false, false, false, false, false, false, false, false, false, false, false, false, false, false]) (by kernel_rfl) rfl (by kernel_rfl) (by kernel_rfl) (by kernel_rfl) (by kernel_rfl) (YI_no rfl) ?_
        refine Wt_take (i := 14) (listed' := #[true, true, true, true, true, true, true, true, true, true, true, true, true, true, true, false, false, false, false, false, false, false, false, false, false, false, false, false, false, false, false, false, false]) (by kernel_rfl) rfl (by kernel_rfl) (by kernel_rfl) (by kernel_rfl) (by kernel_rfl) (YI_no rfl) ?_
        refine Wt_take (i := 15) (listed' := #[true, true, true, true, true, true, true, true, true, true, true, true, true, true, true, true, false, false, false, false, false, false, false, false, false, false, false, false, false, false, false, false, false]) (by kernel_rfl) rfl (by kernel_rfl) (by kernel_rfl) (by kernel_rfl) (by kernel_rfl) (YI_no rfl) ?_
        refine Wt_take (i := 16) (listed' := #[true, true, true, true, true, true, true, true, true, true, true, true, true, true, true, true, true, false, false, false, false, false, false, false, false, false, false, false, false, false, false, false, false]) (by kernel_rfl) rfl (by kernel_rfl) (by kernel_rfl) (by kernel_rfl) (by kernel_rfl) (YI_no rfl) ?_
        refine Wt_take (i := 17) (listed' := #[true, true, true, true, true, true, true, true, true, true, true, true, true, true, true, true, true, true, false, false, false, false, false, false, false, false, false, false, false, false, false, false, false]) (by kernel_rfl) rfl (by kernel_rfl) (by kernel_rfl) (by kernel_rfl) (by kernel_rfl) (YI_no rfl) ?_
        refine Wt_take (i := 18) (listed' := #[true, true, true, true, true, true, true, true, true, true, true, true, true, true, true, true, true, true, true, false, false, false, false, false, false, false, false, false, false, false, false, false, false]) (by kernel_rfl) rfl (by kernel_rfl) (by kernel_rfl) (by kernel_rfl) (by kernel_rfl) (YI_no rfl) ?_
        refine Wt_take (i := 19) (listed' := #[true, true, true, true, true, true, true, true, true, true, true, true, true, true, true, true, true, true, true, true, false, false, false, false, false, false, false, false, false, false, false, false, false]) (by kernel_rfl) rfl (by kernel_rfl) (by kernel_rfl) (by kernel_rfl) (by kernel_rfl) (YI_no rfl) ?_
        refine Wt_take (i := 20) (listed' := #[true, true, true, true, true, true, true, true, true, true, true, true, true, true, true, true, true, true, true, true, true, false, false, false, false, false, false, false, false, false, false, false, false]) (by kernel_rfl) rfl (by kernel_rfl) (by kernel_rfl) (by kernel_rfl) (by kernel_rfl) (YI_no rfl) ?_
        refine Wt_take (i := 21) (listed' := #[true, true, true, true, true, true, true, true, true, true, true, true, true, true, true, true, true, true, true, true, true, true, false, false, false, false, false, false, false, false, false, false, false]) (by kernel_rfl) rfl (by kernel_rfl) (by kernel_rfl) (by kernel_rfl) (by kernel_rfl) (YI_v rfl (fun w' hw' => r_pick_t (v := .bool true) rfl rfl)) ?_
        refine Wt_take (i := 22) (listed' := #[true, true, true, true, true, true, true, true, true, true, true, true, true, true, true, true, true, true, true, true, true, true, true, false, false, false, false, false, false, false, false, false, false]) (by kernel_rfl) rfl (by kernel_rfl) (by kernel_rfl) (by kernel_rfl) (by kernel_rfl) (YI_v rfl (fun w' hw' => r_pick_t (v := .bool true) rfl rfl)) ?_
        refine Wt_take (i := 23) (listed' := #[true, true, true, true, true, true, true, true, true, true, true, true, true, true, true, true, true, true, true, true, true, true, true, true, false, false, false, false, false, false, false, false, false]) (by kernel_rfl) rfl (by kernel_rfl) (by kernel_rfl) (by kernel_rfl) (by kernel_rfl) (YI_v (v := .bool true) rfl (fun w' hw' => r_mv (v := .bool true) rfl)) ?_
        refine Wt_take (i := 24) (listed' := #[true, true, true, true, true, true, true, true, true, true, true, true, true, true, true, true, true, true, true, true, true, true, true, true, true, false, false, false, false, false, false, false, false]) (by kernel_rfl) rfl (by kernel_rfl) (by kernel_rfl) (by kernel_rfl) (by kernel_rfl) (YI_v (v := .pointer none) rfl (fun w' hw' => r_mv (v := .pointer none) rfl)) ?_
        refine Wt_take (i := 25) (listed' := #[true, true, true, true, true, true, true, true, true, true, true, true, true, true, true, true, true, true, true, true, true, true, true, true, true, true, false, false, false, false, false, false, false]) (by kernel_rfl) rfl (by kernel_rfl) (by kernel_rfl) (by kernel_rfl) (by kernel_rfl) (YI_c (v := .int .i64 0) rfl (fun w' => r_call1 rfl Try.call20 rfl) (fun w' hw' => bits_nil w' )) ?_
        refine Wt_take (i := 26) (listed' := #[true, true, true, true, true, true, true, true, true, true, true, true, true, true, true, true, true, true, true, true, true, true, true, true, true, true, true, false, false, false, false, false, false]) (by kernel_rfl) rfl (by kernel_rfl) (by kernel_rfl) (by kernel_rfl) (by kernel_rfl) (YI_v (v := .int .i64 0) rfl (fun w' hw' => r_mv (v := .int .i64 0) rfl)) ?_
        refine Wt_take (i := 27) (listed' := #[true, true, true, true, true, true, true, true, true, true, true, true, true, true, true, true, true, true, true, true, true, true, true, true, true, true, true, true, false, false, false, false, false]) (by kernel_rfl) rfl (by kernel_rfl) (by kernel_rfl) (by kernel_rfl) (by kernel_rfl) (YI_v (v := .bool true) rfl (fun w' hw' => r_eq (a := 0) (b := 0) rfl rfl)) ?_
        refine Wt_take (i := 28) (listed' := #[true, true, true, true, true, true, true, true, true, true, true, true, true, true, true, true, true, true, true, true, true, true, true, true, true, true, true, true, true, false, false, false, false]) (by kernel_rfl) rfl (by kernel_rfl) (by kernel_rfl) (by kernel_rfl) (by kernel_rfl) (YI_v rfl (fun w' hw' => r_pick_t (v := .bool true) rfl rfl)) ?_
        refine Wt_take (i := 29) (listed' := #[true, true, true, true, true, true, true, true, true, true, true, true, true, true, true, true, true, true, true, true, true, true, true, true, true, true, true, true, true, true, false, false, false]) (by kernel_rfl) rfl (by kernel_rfl) (by kernel_rfl) (by kernel_rfl) (by kernel_rfl) (YI_v (v := .bool true) rfl (fun w' hw' => r_mv (v := .bool true) rfl)) ?_
        refine Wt_take (i := 30) (listed' := #[true, true, true, true, true, true, true, true, true, true, true, true, true, true, true, true, true, true, true, true, true, true, true, true, true, true, true, true, true, true, true, false, false]) (by kernel_rfl) rfl (by kernel_rfl) (by kernel_rfl) (by kernel_rfl) (by kernel_rfl) (YI_c (v := .bool true) rfl (fun w' => r_call0 rfl Try.call11 ) (fun w' hw' => works15 w' )) ?_
        refine Wt_take (i := 31) (listed' := #[true, true, true, true, true, true, true, true, true, true, true, true, true, true, true, true, true, true, true, true, true, true, true, true, true, true, true, true, true, true, true, true, false]) (by kernel_rfl) rfl (by kernel_rfl) (by kernel_rfl) (by kernel_rfl) (by kernel_rfl) (YI_v rfl (fun w' hw' => r_pick_t (v := .bool true) rfl rfl)) ?_
        refine Wt_take (i := 32) (listed' := #[true, true, true, true, true, true, true, true, true, true, true, true, true, true, true, true, true, true, true, true, true, true, true, true, true, true, true, true, true, true, true, true, true]) (by kernel_rfl) rfl (by kernel_rfl) (by kernel_rfl) (by kernel_rfl) (by kernel_rfl) (YI_v (v := .bool true) rfl (fun w' hw' => r_as (v := .bool true) rfl)) ?_
        intro w25 hU25
        have hzw25 := hU25.size
        replace hs := hs.upd0 hU25
        replace HU := HU.trans0 hU25
        replace hb21 := hb21.upd0 hU25
        refine Wa_done (by kernel_rfl) ?_
        refine W_ret ?_
        refine ret_end (v := .bool true) rfl (res1 Try.results4 rfl) ?_
        exact ⟨_, rfl, rfl, HU⟩

end Go.Proofs.Ytkgjdcjpnfjofaa
