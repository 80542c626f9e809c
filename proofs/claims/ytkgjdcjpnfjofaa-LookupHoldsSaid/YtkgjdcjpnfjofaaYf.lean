/-
  Walks, printed by a small program of this project (gen.py).
-/
import Derived.Test.YtkgjdcjpnfjofaaYe
set_option linter.unusedVariables false
set_option linter.unusedSimpArgs false
namespace Go.Proofs.Ytkgjdcjpnfjofaa
open Go.Fw

theorem longest_ok {a : Option Addr} {n c : Nat} {l : List Int} {R : Nat → Prop} (w : World) (hs : Sl w R 1 (.slice a n c) n (ints .i64 l)) (hn : n ≤ 17592186044415) (hr : Rt l) : Calls Try.prog 19 #[.slice a n c] w (Ret fun v w' => v = .tuple #[.int .i64 (mx l), .int .i64 0] ∧ Upd No w w') := by
  have h := longest_spec w hs hn
  rw [if_pos hr, if_pos hr] at h
  exact h
theorem longest_no {a : Option Addr} {n c : Nat} {l : List Int} {R : Nat → Prop} (w : World) (hs : Sl w R 1 (.slice a n c) n (ints .i64 l)) (hn : n ≤ 17592186044415) (hr : ¬ Rt l) : Calls Try.prog 19 #[.slice a n c] w (Ret fun v w' => v = .tuple #[.int .i64 0, .int .i64 12] ∧ Upd No w w') := by
  have h := longest_spec w hs hn
  rw [if_neg hr, if_neg hr] at h
  exact h
theorem tabn_s (l : List Int) (k : Nat) : tabn (k + 1) (ent l) = tabn k (ent l) ++ [((dec l ((k : Nat) : Int) (mx l)).1, (dec l ((k : Nat) : Int) (mx l)).2.1)] := by
  rw [mx_bt]
  simp [tabn, List.range_succ, ent]
theorem shlM {l : List Int} (hr : Rt l) : IntKind.i64.wrap (1 * 2 ^ (min (mx l).toNat IntKind.i64.bits)) = ((2 ^ bt l : Nat) : Int) := shlT (mx_nonneg l) (mx_le hr.1)

set_option maxHeartbeats 1000000 in
set_option maxRecDepth 100000 in
theorem of_t {a : Option Addr} {n c : Nat} {l : List Int} {R : Nat → Prop} (w : World) (hs : Sl w R 1 (.slice a n c) n (ints .i64 l)) (hn : n ≤ 17592186044415) (hr : Rt l) :
    Calls Try.prog 13 #[.slice a n c] w (Ret fun v w' => ∃ (a' : Option Addr) (c' : Nat), v = .tuple #[.slice a' (2 ^ bt l) c', .int .i64 0] ∧ Own w' (fun g => w.heap.size ≤ g) 38 2 (.slice a' (2 ^ bt l) c') (2 ^ bt l) (rows encE (tbl l)) ∧ Upd No w w') := by
  have HU : Upd (fun b => False) w w := Upd.refl _ _
  have hl_hs := ilen hs
  have hc_hs := hs.cap.1
  replace hs := hs.tight
  have hbt := bt_bd hr
  have hmx := mx_bt l
  have h11 := (p2_le11 hbt.2).2
  have hpn := p2_nat (bt l)
  have h256 := hr.2.1
  refine calls_of_W Try.func13 rfl Try.ntmps13 (by simp) ?_
  refine W_seq ?_
  refine W_region ?_
  refine Wl_v (r_as (v := .slice none 0 0) rfl) ?_
  refine Wl_v (r_as (v := .int .i64 0) rfl) ?_
  refine Wl_nil ?_
  refine W_seq ?_
  refine W_region ?_
  refine Wl_v (r_mv (v := .slice a n c) rfl) ?_
  refine Wl_call (r_call1 rfl Try.call19 rfl) (longest_ok _ hs (by omega) (by omega)) ?_
  rintro v w1 ⟨rfl, hU1⟩
  have hzw1 := hU1.size
  replace hs := hs.upd0 hU1
  replace HU := HU.trans0 hU1
  refine Wl_v (r_mv (v := .tuple #[.int .i64 (mx l), .int .i64 0]) rfl) ?_
  refine Wl_v (r_ext (v := .int .i64 (mx l)) rfl rfl) ?_
  refine Wl_v (r_ext (v := .int .i64 0) rfl rfl) ?_
  refine Wl_v (r_as (v := .int .i64 (mx l)) rfl) ?_
  refine Wl_v (r_as (v := .int .i64 0) rfl) ?_
  refine Wl_nil ?_
  refine W_seq ?_
  refine W_seq ?_
  refine W_region ?_
  refine Wl_v (r_mv (v := .int .i64 0) rfl) ?_
  refine Wl_v (v := .bool false) (r_ne (a := 0) (b := 0) rfl rfl) ?_
  refine Wl_nil ?_
  refine W_cond_f rfl ?_
  refine W_skip ?_
  refine W_seq ?_
  refine W_region ?_
  refine Wl_v (r_as (v := .slice none 0 0) rfl) ?_
  refine Wl_nil ?_
  refine W_seq ?_
  refine W_seq ?_
  refine W_region ?_
  refine Wl_v (r_as (v := .int .i64 0) rfl) ?_
  refine Wl_nil ?_
  refine W_block ?_
  refine W_loop (fun mu ρ ds w' => ∃ (k : Nat) (a2 : Option Addr) (c2 : Nat), 2 ^ bt l - k = mu ∧ ds = [] ∧ Liv ρ [(0, .slice a n c), (4, .int .i64 (mx l)), (6, .slice a2 k c2), (7, .int .i64 ((k : Nat) : Int))] ∧ k ≤ 2 ^ bt l ∧ Own w' (fun g => w1.heap.size ≤ g) 38 2 (.slice a2 k c2) k (rows encE (tabn k (ent l))) ∧ Upd (fun g => w1.heap.size ≤ g) w1 w') _ ⟨0, none, 0, rfl, rfl, ⟨rfl, rfl, (by first | rfl | exact vint (by omega) | exact vint (by simp)), (by first | rfl | exact vint (by omega) | exact vint (by simp)), trivial⟩, (Nat.zero_le _), (by simpa [tabn, rows] using Own.nil _ _ _ _), Upd.refl _ _⟩ ?_
  rintro m2 ρ2 ds2 w2 ⟨k, a2, c2, rfl, rfl, hl2, hk, hO, hU2⟩
  obtain ⟨ρ2x, rfl⟩ : ∃ ρx, ρ2 = upds ρx [(0, .slice a n c), (4, .int .i64 (mx l)), (6, .slice a2 k c2), (7, .int .i64 ((k : Nat) : Int))] := ⟨_, upds_self hl2⟩
  clear hl2
  have hzw2 := hU2.size
  replace hs := hs.upd hU2 (by intro x h1 h2; have h3 : ((R x) ∧ x < w.heap.size) := h1; have h4 : w1.heap.size ≤ x := h2; omega)
  replace HU := HU.trans hU2 (by intro x hx; have hx2 : w1.heap.size ≤ x := hx; show (False) ∨ w.heap.size ≤ x; omega)
  have HL2 := hU2
  refine W_seq ?_
  refine W_seq ?_
  refine W_region ?_
  refine Wl_v (r_mv (v := .int .i64 ((k : Nat) : Int)) rfl) ?_
  refine Wl_v (r_mv (v := .int .i64 (mx l)) rfl) ?_
  refine Wl_v (r_shl rfl rfl (by omega) (shlM hr)) ?_
  refine Wl_v (r_lt rfl rfl) ?_
  refine Wl_nil ?_
  by_cases q1 : ((k : Nat) : Int) < ((2 ^ bt l : Nat) : Int)
  · replace hO := hO.tight
    rw [decide_eq_true q1]
    refine W_cond_t rfl ?_
    refine W_skip ?_
    refine W_seq ?_
    refine W_block ?_
    refine W_seq ?_
    refine W_region ?_
    refine Wl_v (r_mv (v := .slice a n c) rfl) ?_
    refine Wl_v (r_mv (v := .int .i64 ((k : Nat) : Int)) rfl) ?_
    refine Wl_v (r_cvt Try.underlying3 Try.underlying45 rfl (wu64 (by omega) (by omega))) ?_
    refine Wl_v (r_mv (v := .int .i64 (mx l)) rfl) ?_
    refine Wl_call (r_call3 rfl Try.call23 rfl rfl rfl) (read_spec _ hs (by omega) (by omega) (by omega)) ?_
    rintro v w3 ⟨rfl, hU3⟩
    have hzw3 := hU3.size
    replace hs := hs.upd0 hU3
    replace HU := HU.trans0 hU3
    replace hO := hO.upd0 hU3
    replace HL2 := HL2.trans0 hU3
    refine Wl_v (r_mv (v := .tuple #[.int .i64 ((dec l ((k : Nat) : Int) (mx l)).1), .int .i64 ((dec l ((k : Nat) : Int) (mx l)).2.1), .int .i64 ((dec l ((k : Nat) : Int) (mx l)).2.2)]) rfl) ?_
    refine Wl_v (r_ext (v := .int .i64 ((dec l ((k : Nat) : Int) (mx l)).1)) rfl rfl) ?_
    refine Wl_v (r_ext (v := .int .i64 ((dec l ((k : Nat) : Int) (mx l)).2.1)) rfl rfl) ?_
    refine Wl_v (r_ext (v := .int .i64 ((dec l ((k : Nat) : Int) (mx l)).2.2)) rfl rfl) ?_
    refine Wl_v (r_as (v := .int .i64 ((dec l ((k : Nat) : Int) (mx l)).1)) rfl) ?_
    refine Wl_v (r_as (v := .int .i64 ((dec l ((k : Nat) : Int) (mx l)).2.1)) rfl) ?_
    refine Wl_v (r_as (v := .int .i64 ((dec l ((k : Nat) : Int) (mx l)).2.2)) rfl) ?_
    refine Wl_nil ?_
    refine W_region ?_
    refine Wl_v (r_mv (v := .slice a2 k c2) rfl) ?_
    refine Wl_v (r_mv (v := .int .i64 ((dec l ((k : Nat) : Int) (mx l)).1)) rfl) ?_
    refine Wl_v (r_mv (v := .int .i64 ((dec l ((k : Nat) : Int) (mx l)).2.1)) rfl) ?_
    refine Wl_v (r_build (pl := #[(0, 1), (1, 1)]) (pv := [(0, .int .i64 ((dec l ((k : Nat) : Int) (mx l)).1)), (1, .int .i64 ((dec l ((k : Nat) : Int) (mx l)).2.1))]) (cs := #[.int .i64 ((dec l ((k : Nat) : Int) (mx l)).1), .int .i64 ((dec l ((k : Nat) : Int) (mx l)).2.1)]) Try.zeroValue38 Try.underlying38 (fun w => by kernel_rfl) (by simp only [List.map_toArray, List.map_cons, List.map_nil] <;> rfl) (by kernel_rfl)) ?_
    refine Wl_lit (pv := [(0, .agg #[.int .i64 ((dec l ((k : Nat) : Int) (mx l)).1), .int .i64 ((dec l ((k : Nat) : Int) (mx l)).2.1)])]) (cs := [.int .i64 ((dec l ((k : Nat) : Int) (mx l)).1), .int .i64 ((dec l ((k : Nat) : Int) (mx l)).2.1)]) Try.underlying24 Try.sizeOf38 Try.zeroValue38 (by decide) (by decide) (by simp only [List.map_toArray, List.map_cons, List.map_nil] <;> rfl) (by kernel_rfl) rfl (by decide) ?_
    intro B4 w4 hB4 hU4 hzz4 hs4
    have hzw4 := hU4.size
    replace hs := hs.upd0 hU4
    replace HU := HU.trans0 hU4
    replace hO := hO.upd0 hU4
    replace HL2 := HL2.trans0 hU4
    replace hs4 : Own w4 (Is B4) 38 2 (.slice (some ⟨B4, 0, none⟩) 1 1) 1 (rows encE [((dec l ((k : Nat) : Int) (mx l)).1, (dec l ((k : Nat) : Int) (mx l)).2.1)]) := hs4
    refine Wl_appendc (cs3 := rows encE ((tabn k (ent l)) ++ [((dec l ((k : Nat) : Int) (mx l)).1, (dec l ((k : Nat) : Int) (mx l)).2.1)])) (tot := k + 1) (by first | rfl | exact (rows_app _ _).symm | simp) Try.underlying24 (ti := Try.t38) (z := .agg #[.int .i64 0, .int .i64 0]) (sz := 2) (by' := 16) rfl rfl rfl rfl rfl (by decide) rfl hO rfl hs4.sl (rows_one encE_one _) (by omega) (by simp only [maxLen]; omega) (by omega) ?_
    intro a5 c5 w5 hU5 hzz5 hO5
    clear hO
    have hzw5 := hU5.size
    replace hs := hs.upd hU5 (by intro x h1 h2; have h3 : ((R x) ∧ x < w.heap.size) := h1; have h4 : ((w1.heap.size ≤ x) ∧ x < w2.heap.size) := h2; omega)
    replace HU := HU.trans hU5 (by intro x hx; have hx2 : ((w1.heap.size ≤ x) ∧ x < w2.heap.size) := hx; show (False) ∨ w.heap.size ≤ x; omega)
    replace HL2 := HL2.trans hU5 (by intro x hx; have hx2 : ((w1.heap.size ≤ x) ∧ x < w2.heap.size) := hx; show (w1.heap.size ≤ x) ∨ w1.heap.size ≤ x; omega)
    replace hs4 := hs4.upd hU5 (by intro x h1 h2; have h3 : x = B4 := h1; have h4 : ((w1.heap.size ≤ x) ∧ x < w2.heap.size) := h2; omega)
    replace hO5 := hO5.tight
    have hl_hO5 := rlen encE_len (by decide) hO5.sl
    have hc_hO5 := hO5.sl.cap.1
    refine Wl_v (r_as (v := .slice a5 (k + 1) c5) rfl) ?_
    refine Wl_nil ?_
    refine W_region ?_
    refine Wl_v (r_mv (v := .int .i64 ((k : Nat) : Int)) rfl) ?_
    refine Wl_v (r_add rfl rfl (wi64 (by omega) (by omega))) ?_
    refine Wl_v (r_as (v := .int .i64 (((k : Nat) : Int) + 1)) rfl) ?_
    refine Wl_nil ?_
    refine ⟨_, ?_, (k + 1), a5, c5, rfl, rfl, ⟨rfl, rfl, (by first | rfl | exact vint (by omega) | exact vint (by simp)), (Eq.trans (b := .int .i64 (((k : Nat) : Int) + 1)) rfl (vint (by omega))), trivial⟩, (by omega), (by rw [tabn_s]; exact hO5.weak (by intro g hg; have h3 : ((((((w1.heap.size ≤ g) ∧ g < w2.heap.size)) ∨ g = w4.heap.size)) ∧ g < w5.heap.size) := hg; show w1.heap.size ≤ g; omega)), HL2⟩
    omega
  · rw [decide_eq_false q1]
    refine W_cond_f rfl ?_
    refine W_exit ?_
    refine W_seq ?_
    refine W_region ?_
    refine Wl_v (r_mv (v := .slice a2 k c2) rfl) ?_
    refine Wl_v (r_as (v := .slice a2 k c2) rfl) ?_
    refine Wl_v (r_as (v := .int .i64 0) rfl) ?_
    refine Wl_nil ?_
    refine W_ret ?_
    refine ret_end (v := .tuple #[.slice a2 k c2, .int .i64 0]) rfl (res2 Try.results13 rfl rfl) ?_
    obtain rfl : k = 2 ^ bt l := by omega
    exact ⟨_, rfl, a2, c2, rfl, hO.weak (by intro g hg; have h3 : w1.heap.size ≤ g := hg; show w.heap.size ≤ g; omega), HU⟩

set_option maxRecDepth 100000 in
theorem of_f {a : Option Addr} {n c : Nat} {l : List Int} {R : Nat → Prop} (w : World) (hs : Sl w R 1 (.slice a n c) n (ints .i64 l)) (hn : n ≤ 17592186044415) (hr : ¬ Rt l) :
    Calls Try.prog 13 #[.slice a n c] w (Ret fun v w' => v = .tuple #[.slice none 0 0, .int .i64 12] ∧ Upd No w w') := by
  have HU : Upd (fun b => False) w w := Upd.refl _ _
  have hl_hs := ilen hs
  have hc_hs := hs.cap.1
  replace hs := hs.tight
  refine calls_of_W Try.func13 rfl Try.ntmps13 (by simp) ?_
  refine W_seq ?_
  refine W_region ?_
  refine Wl_v (r_as (v := .slice none 0 0) rfl) ?_
  refine Wl_v (r_as (v := .int .i64 0) rfl) ?_
  refine Wl_nil ?_
  refine W_seq ?_
  refine W_region ?_
  refine Wl_v (r_mv (v := .slice a n c) rfl) ?_
  refine Wl_call (r_call1 rfl Try.call19 rfl) (longest_no _ hs (by omega) (by omega)) ?_
  rintro v w1 ⟨rfl, hU1⟩
  have hzw1 := hU1.size
  replace hs := hs.upd0 hU1
  replace HU := HU.trans0 hU1
  refine Wl_v (r_mv (v := .tuple #[.int .i64 0, .int .i64 12]) rfl) ?_
  refine Wl_v (r_ext (v := .int .i64 0) rfl rfl) ?_
  refine Wl_v (r_ext (v := .int .i64 12) rfl rfl) ?_
  refine Wl_v (r_as (v := .int .i64 0) rfl) ?_
  refine Wl_v (r_as (v := .int .i64 12) rfl) ?_
  refine Wl_nil ?_
  refine W_seq ?_
  refine W_seq ?_
  refine W_region ?_
  refine Wl_v (r_mv (v := .int .i64 12) rfl) ?_
  refine Wl_v (v := .bool true) (r_ne (a := 12) (b := 0) rfl rfl) ?_
  refine Wl_nil ?_
  refine W_cond_t rfl ?_
  refine W_seq ?_
  refine W_region ?_
  refine Wl_v (r_mv (v := .int .i64 12) rfl) ?_
  refine Wl_v (r_as (v := .slice none 0 0) rfl) ?_
  refine Wl_v (r_as (v := .int .i64 12) rfl) ?_
  refine Wl_nil ?_
  refine W_ret ?_
  refine ret_end (v := .tuple #[.slice none 0 0, .int .i64 12]) rfl (res2 Try.results13 rfl rfl) ?_
  exact ⟨_, rfl, rfl, HU⟩

set_option maxHeartbeats 1000000 in
set_option maxRecDepth 100000 in
theorem rtwo {a : Option Addr} {n c : Nat} {l : List Int} {i : Int} {R : Nat → Prop} (w : World) (hs : Sl w R 1 (.slice a n c) n (ints .i64 l)) (hn : n ≤ 17592186044415) (hr : Rt l) (hi : 0 ≤ i ∧ i < ((2 ^ bt l : Nat) : Int)) :
    Calls Try.prog 25 #[.slice a n c, .int .u64 i, .int .i64 (mx l)] w (Ret fun v w' => v = .agg #[.int .i64 ((two l i.toNat).1), .int .i64 ((two l i.toNat).2.1), .int .i64 ((two l i.toNat).2.2.1), .int .i64 ((two l i.toNat).2.2.2)] ∧ Upd No w w') := by
  have HU : Upd (fun b => False) w w := Upd.refl _ _
  have hl_hs := ilen hs
  have hc_hs := hs.cap.1
  replace hs := hs.tight
  have hbt := bt_bd hr
  have hmx := mx_bt l
  have h11 := (p2_le11 hbt.2).2
  have hpn := p2_nat (bt l)
  have h256 := hr.2.1
  have he := ent_dec (l := l) hi.1
  have her := ent_rng hr (i := i.toNat) (by omega)
  rw [he] at her
  dsimp only at her
  refine calls_of_W Try.func25 rfl Try.ntmps25 (by simp) ?_
  refine W_seq ?_
  refine W_region ?_
  refine Wl_alloc (cs := [.int .i64 0, .int .i64 0, .int .i64 0, .int .i64 0]) Try.zeroValue52 rfl ?_
  intro B1 w1 hB1 hU1 hzz1 hb1
  have hzw1 := hU1.size
  replace hs := hs.upd0 hU1
  replace HU := HU.trans0 hU1
  refine Wl_nil ?_
  refine W_seq ?_
  refine W_region ?_
  refine Wl_v (r_mv (v := .slice a n c) rfl) ?_
  refine Wl_v (r_mv (v := .int .u64 i) rfl) ?_
  refine Wl_v (r_mv (v := .int .i64 (mx l)) rfl) ?_
  refine Wl_call (r_call3 rfl Try.call23 rfl rfl rfl) (read_spec _ hs (by omega) (by omega) (by omega)) ?_
  rintro v w2 ⟨rfl, hU2⟩
  have hzw2 := hU2.size
  replace hs := hs.upd0 hU2
  replace HU := HU.trans0 hU2
  replace hb1 := hb1.upd0 hU2
  have hdr2 := dec_rng hr (bits := i) (m := mx l) (by omega) (by omega)
  refine Wl_v (r_mv (v := .tuple #[.int .i64 ((dec l i (mx l)).1), .int .i64 ((dec l i (mx l)).2.1), .int .i64 ((dec l i (mx l)).2.2)]) rfl) ?_
  refine Wl_v (r_ext (v := .int .i64 ((dec l i (mx l)).1)) rfl rfl) ?_
  refine Wl_v (r_ext (v := .int .i64 ((dec l i (mx l)).2.1)) rfl rfl) ?_
  refine Wl_v (r_ext (v := .int .i64 ((dec l i (mx l)).2.2)) rfl rfl) ?_
  refine Wl_v (r_as (v := .int .i64 ((dec l i (mx l)).1)) rfl) ?_
  refine Wl_v (r_as (v := .int .i64 ((dec l i (mx l)).2.1)) rfl) ?_
  refine Wl_v (r_as (v := .int .i64 ((dec l i (mx l)).2.2)) rfl) ?_
  refine Wl_nil ?_
  refine W_seq ?_
  refine W_region ?_
  refine Wl_v (r_mv (v := .int .i64 ((dec l i (mx l)).1)) rfl) ?_
  refine Wl_v (r_mv (v := .int .i64 ((dec l i (mx l)).2.1)) rfl) ?_
  refine Wl_v (r_build (pl := #[(0, 1), (1, 1), (2, 1), (3, 1)]) (pv := [(0, .int .i64 1), (1, .int .i64 ((dec l i (mx l)).1)), (3, .int .i64 ((dec l i (mx l)).2.1))]) (cs := #[.int .i64 1, .int .i64 ((dec l i (mx l)).1), .int .i64 0, .int .i64 ((dec l i (mx l)).2.1)]) Try.zeroValue52 Try.underlying52 (fun w => by kernel_rfl) (by simp only [List.map_toArray, List.map_cons, List.map_nil] <;> rfl) (by kernel_rfl)) ?_
  refine Wl_alloc (cs := [.int .i64 0, .int .i64 0, .int .i64 0, .int .i64 0]) Try.zeroValue52 rfl ?_
  intro B3 w3 hB3 hU3 hzz3 hb3
  have hzw3 := hU3.size
  replace hs := hs.upd0 hU3
  replace HU := HU.trans0 hU3
  replace hb1 := hb1.upd0 hU3
  refine Wl_storea (off := 0) (vs := [.int .i64 1, .int .i64 ((dec l i (mx l)).1), .int .i64 0, .int .i64 ((dec l i (mx l)).2.1)]) (cs' := [.int .i64 1, .int .i64 ((dec l i (mx l)).1), .int .i64 0, .int .i64 ((dec l i (mx l)).2.1)]) Try.sizeOf52 rfl rfl rfl (by simp only [List.mem_cons, List.not_mem_nil, or_false, forall_eq_or_imp, forall_eq]; exact ⟨rfl, rfl, rfl, rfl⟩) hb3 (by simp) rfl ?_
  intro w4 hU4 hzz4 hb3n
  replace hb3 := hb3n; clear hb3n
  have hzw4 := hU4.size
  replace hs := hs.upd1 hU4 (by intro h1; have h3 : ((R B3) ∧ B3 < w.heap.size) := h1; omega)
  replace HU := HU.trans1 hU4 (by show (False) ∨ w.heap.size ≤ B3; omega)
  replace hb1 := hb1.upd1 hU4 (by omega)
  refine Wl_nil ?_
  refine W_seq ?_
  refine W_region ?_
  refine Wl_v (r_mv (v := .int .i64 (mx l)) rfl) ?_
  refine Wl_v (r_mv (v := .int .i64 ((dec l i (mx l)).2.1)) rfl) ?_
  refine Wl_v (r_sub rfl rfl (wi64 (by omega) (by omega))) ?_
  refine Wl_v (r_as (v := .int .i64 ((mx l) - ((dec l i (mx l)).2.1))) rfl) ?_
  refine Wl_nil ?_
  refine W_seq ?_
  refine W_region ?_
  refine Wl_v (r_mv (v := .slice a n c) rfl) ?_
  refine Wl_v (r_mv (v := .int .u64 i) rfl) ?_
  refine Wl_v (r_mv (v := .int .i64 ((mx l) - ((dec l i (mx l)).2.1))) rfl) ?_
  refine Wl_v (r_shl rfl rfl (by omega) (shlU (by omega) (by omega))) ?_
  have hp2b := p2n_le (d := mx l - (dec l i (mx l)).2.1) (by omega)
  have hlow := Int.emod_nonneg i (b := ((2 ^ (mx l - (dec l i (mx l)).2.1).toNat : Nat) : Int)) (by omega)
  have hlow2 := Int.emod_lt_of_pos i (b := ((2 ^ (mx l - (dec l i (mx l)).2.1).toNat : Nat) : Int)) (by omega)
  refine Wl_v (r_rem rfl rfl (by omega) (tr (by omega))) ?_
  refine Wl_v (r_mv (v := .int .i64 ((mx l) - ((dec l i (mx l)).2.1))) rfl) ?_
  refine Wl_call (r_call3 rfl Try.call23 rfl rfl rfl) (read_spec _ hs (by omega) (by omega) (by omega)) ?_
  rintro v w5 ⟨rfl, hU5⟩
  have hzw5 := hU5.size
  replace hs := hs.upd0 hU5
  replace HU := HU.trans0 hU5
  replace hb1 := hb1.upd0 hU5
  replace hb3 := hb3.upd0 hU5
  have hdr5 := dec_rng hr (bits := i % ((2 ^ ((mx l) - ((dec l i (mx l)).2.1)).toNat : Nat) : Int)) (m := (mx l) - ((dec l i (mx l)).2.1)) (by omega) (by omega)
  refine Wl_v (r_mv (v := .tuple #[.int .i64 ((dec l (i % ((2 ^ ((mx l) - ((dec l i (mx l)).2.1)).toNat : Nat) : Int)) ((mx l) - ((dec l i (mx l)).2.1))).1), .int .i64 ((dec l (i % ((2 ^ ((mx l) - ((dec l i (mx l)).2.1)).toNat : Nat) : Int)) ((mx l) - ((dec l i (mx l)).2.1))).2.1), .int .i64 ((dec l (i % ((2 ^ ((mx l) - ((dec l i (mx l)).2.1)).toNat : Nat) : Int)) ((mx l) - ((dec l i (mx l)).2.1))).2.2)]) rfl) ?_
  refine Wl_v (r_ext (v := .int .i64 ((dec l (i % ((2 ^ ((mx l) - ((dec l i (mx l)).2.1)).toNat : Nat) : Int)) ((mx l) - ((dec l i (mx l)).2.1))).1)) rfl rfl) ?_
  refine Wl_v (r_ext (v := .int .i64 ((dec l (i % ((2 ^ ((mx l) - ((dec l i (mx l)).2.1)).toNat : Nat) : Int)) ((mx l) - ((dec l i (mx l)).2.1))).2.1)) rfl rfl) ?_
  refine Wl_v (r_ext (v := .int .i64 ((dec l (i % ((2 ^ ((mx l) - ((dec l i (mx l)).2.1)).toNat : Nat) : Int)) ((mx l) - ((dec l i (mx l)).2.1))).2.2)) rfl rfl) ?_
  refine Wl_v (r_as (v := .int .i64 ((dec l (i % ((2 ^ ((mx l) - ((dec l i (mx l)).2.1)).toNat : Nat) : Int)) ((mx l) - ((dec l i (mx l)).2.1))).1)) rfl) ?_
  refine Wl_v (r_as (v := .int .i64 ((dec l (i % ((2 ^ ((mx l) - ((dec l i (mx l)).2.1)).toNat : Nat) : Int)) ((mx l) - ((dec l i (mx l)).2.1))).2.1)) rfl) ?_
  refine Wl_v (r_as (v := .int .i64 ((dec l (i % ((2 ^ ((mx l) - ((dec l i (mx l)).2.1)).toNat : Nat) : Int)) ((mx l) - ((dec l i (mx l)).2.1))).2.2)) rfl) ?_
  refine Wl_nil ?_
  refine W_seq ?_
  refine W_seq ?_
  refine W_region ?_
  refine Wl_v (r_mv (v := .int .i64 ((dec l (i % ((2 ^ ((mx l) - ((dec l i (mx l)).2.1)).toNat : Nat) : Int)) ((mx l) - ((dec l i (mx l)).2.1))).2.2)) rfl) ?_
  refine Wl_v (r_ne rfl rfl) ?_
  refine Wl_nil ?_
  by_cases q1 : ((dec l (i % ((2 ^ ((mx l) - ((dec l i (mx l)).2.1)).toNat : Nat) : Int)) ((mx l) - ((dec l i (mx l)).2.1))).2.2) ≠ 0
  · rw [decide_eq_true q1]
    refine W_cond_t rfl ?_
    refine W_seq ?_
    refine W_region ?_
    refine Wl_v (r_loada (b := B3) (off := 0) (cs := [.int .i64 1, .int .i64 ((dec l i (mx l)).1), .int .i64 0, .int .i64 ((dec l i (mx l)).2.1)]) Try.isAgg52 Try.sizeOf52 rfl rfl (fun j hj => by rw [hb3.cell]; match j, hj with | 0, _ => rfl | 1, _ => rfl | 2, _ => rfl | 3, _ => rfl)) ?_
    refine Wl_storea (off := 0) (vs := [.int .i64 1, .int .i64 ((dec l i (mx l)).1), .int .i64 0, .int .i64 ((dec l i (mx l)).2.1)]) (cs' := [.int .i64 1, .int .i64 ((dec l i (mx l)).1), .int .i64 0, .int .i64 ((dec l i (mx l)).2.1)]) Try.sizeOf52 rfl rfl rfl (by simp only [List.mem_cons, List.not_mem_nil, or_false, forall_eq_or_imp, forall_eq]; exact ⟨rfl, rfl, rfl, rfl⟩) hb1 (by simp) rfl ?_
    intro w6 hU6 hzz6 hb1n
    replace hb1 := hb1n; clear hb1n
    have hzw6 := hU6.size
    replace hs := hs.upd1 hU6 (by intro h1; have h3 : ((R B1) ∧ B1 < w.heap.size) := h1; omega)
    replace HU := HU.trans1 hU6 (by show (False) ∨ w.heap.size ≤ B1; omega)
    replace hb3 := hb3.upd1 hU6 (by omega)
    refine Wl_nil ?_
    refine W_ret ?_
    refine ret_end (v := .agg #[.int .i64 1, .int .i64 ((dec l i (mx l)).1), .int .i64 0, .int .i64 ((dec l i (mx l)).2.1)]) rfl (rc1 Try.results25 rfl (cellAgg Try.isAgg52 Try.sizeOf52 rfl hb1)) ?_
    have htw : two l i.toNat = (1, (dec l i (mx l)).1, 0, (dec l i (mx l)).2.1) := by
      unfold two
      rw [he, show ((i.toNat : Nat) : Int) = i from by omega]
      dsimp only
      rw [← mx_bt, show p2 (bt l - ((dec l i (mx l)).2.1).toNat) = ((2 ^ (mx l - (dec l i (mx l)).2.1).toNat : Nat) : Int) from by rw [p2_nat]; congr 1; omega]
      rw [if_pos q1]
    exact ⟨_, rfl, (by rw [htw]), HU⟩
  · rw [decide_eq_false q1]
    refine W_cond_f rfl ?_
    refine W_skip ?_
    refine W_seq ?_
    refine W_region ?_
    refine Wl_v (r_mv (v := .int .i64 ((dec l i (mx l)).1)) rfl) ?_
    refine Wl_v (r_mv (v := .int .i64 ((dec l (i % ((2 ^ ((mx l) - ((dec l i (mx l)).2.1)).toNat : Nat) : Int)) ((mx l) - ((dec l i (mx l)).2.1))).1)) rfl) ?_
    refine Wl_v (r_mv (v := .int .i64 ((dec l i (mx l)).2.1)) rfl) ?_
    refine Wl_v (r_mv (v := .int .i64 ((dec l (i % ((2 ^ ((mx l) - ((dec l i (mx l)).2.1)).toNat : Nat) : Int)) ((mx l) - ((dec l i (mx l)).2.1))).2.1)) rfl) ?_
    refine Wl_v (r_add rfl rfl (wi64 (by omega) (by omega))) ?_
    refine Wl_v (r_build (pl := #[(0, 1), (1, 1), (2, 1), (3, 1)]) (pv := [(0, .int .i64 2), (1, .int .i64 ((dec l i (mx l)).1)), (2, .int .i64 ((dec l (i % ((2 ^ ((mx l) - ((dec l i (mx l)).2.1)).toNat : Nat) : Int)) ((mx l) - ((dec l i (mx l)).2.1))).1)), (3, .int .i64 (((dec l i (mx l)).2.1) + ((dec l (i % ((2 ^ ((mx l) - ((dec l i (mx l)).2.1)).toNat : Nat) : Int)) ((mx l) - ((dec l i (mx l)).2.1))).2.1)))]) (cs := #[.int .i64 2, .int .i64 ((dec l i (mx l)).1), .int .i64 ((dec l (i % ((2 ^ ((mx l) - ((dec l i (mx l)).2.1)).toNat : Nat) : Int)) ((mx l) - ((dec l i (mx l)).2.1))).1), .int .i64 (((dec l i (mx l)).2.1) + ((dec l (i % ((2 ^ ((mx l) - ((dec l i (mx l)).2.1)).toNat : Nat) : Int)) ((mx l) - ((dec l i (mx l)).2.1))).2.1))]) Try.zeroValue52 Try.underlying52 (fun w => by kernel_rfl) (by simp only [List.map_toArray, List.map_cons, List.map_nil] <;> rfl) (by kernel_rfl)) ?_
    refine Wl_storea (off := 0) (vs := [.int .i64 2, .int .i64 ((dec l i (mx l)).1), .int .i64 ((dec l (i % ((2 ^ ((mx l) - ((dec l i (mx l)).2.1)).toNat : Nat) : Int)) ((mx l) - ((dec l i (mx l)).2.1))).1), .int .i64 (((dec l i (mx l)).2.1) + ((dec l (i % ((2 ^ ((mx l) - ((dec l i (mx l)).2.1)).toNat : Nat) : Int)) ((mx l) - ((dec l i (mx l)).2.1))).2.1))]) (cs' := [.int .i64 2, .int .i64 ((dec l i (mx l)).1), .int .i64 ((dec l (i % ((2 ^ ((mx l) - ((dec l i (mx l)).2.1)).toNat : Nat) : Int)) ((mx l) - ((dec l i (mx l)).2.1))).1), .int .i64 (((dec l i (mx l)).2.1) + ((dec l (i % ((2 ^ ((mx l) - ((dec l i (mx l)).2.1)).toNat : Nat) : Int)) ((mx l) - ((dec l i (mx l)).2.1))).2.1))]) Try.sizeOf52 rfl rfl rfl (by simp only [List.mem_cons, List.not_mem_nil, or_false, forall_eq_or_imp, forall_eq]; exact ⟨rfl, rfl, rfl, rfl⟩) hb1 (by simp) rfl ?_
    intro w7 hU7 hzz7 hb1n
    replace hb1 := hb1n; clear hb1n
    have hzw7 := hU7.size
    replace hs := hs.upd1 hU7 (by intro h1; have h3 : ((R B1) ∧ B1 < w.heap.size) := h1; omega)
    replace HU := HU.trans1 hU7 (by show (False) ∨ w.heap.size ≤ B1; omega)
    replace hb3 := hb3.upd1 hU7 (by omega)
    refine Wl_nil ?_
    refine W_ret ?_
    refine ret_end (v := .agg #[.int .i64 2, .int .i64 ((dec l i (mx l)).1), .int .i64 ((dec l (i % ((2 ^ ((mx l) - ((dec l i (mx l)).2.1)).toNat : Nat) : Int)) ((mx l) - ((dec l i (mx l)).2.1))).1), .int .i64 (((dec l i (mx l)).2.1) + ((dec l (i % ((2 ^ ((mx l) - ((dec l i (mx l)).2.1)).toNat : Nat) : Int)) ((mx l) - ((dec l i (mx l)).2.1))).2.1))]) rfl (rc1 Try.results25 rfl (cellAgg Try.isAgg52 Try.sizeOf52 rfl hb1)) ?_
    have htw : two l i.toNat = (2, (dec l i (mx l)).1, (dec l (i % ((2 ^ (mx l - (dec l i (mx l)).2.1).toNat : Nat) : Int)) (mx l - (dec l i (mx l)).2.1)).1, (dec l i (mx l)).2.1 + (dec l (i % ((2 ^ (mx l - (dec l i (mx l)).2.1).toNat : Nat) : Int)) (mx l - (dec l i (mx l)).2.1)).2.1) := by
      unfold two
      rw [he, show ((i.toNat : Nat) : Int) = i from by omega]
      dsimp only
      rw [← mx_bt, show p2 (bt l - ((dec l i (mx l)).2.1).toNat) = ((2 ^ (mx l - (dec l i (mx l)).2.1).toNat : Nat) : Int) from by rw [p2_nat]; congr 1; omega]
      rw [if_neg q1]
    exact ⟨_, rfl, (by rw [htw]), HU⟩

set_option maxRecDepth 100000 in
theorem runs1_spec {ly B tb n ec lc : Nat} {ea la : Option Addr} {l : List Int} {J : Nat → World → Prop} {Jx : World → Prop} {Sb R : Nat → Prop} (w : World) (hB : Blk w B [.pointer (some ⟨tb, 0, none⟩)]) (hT : Blk w tb [.slice ea (2 ^ bt l) ec, .int .i64 ((bt l : Nat) : Int), .slice la n lc]) (hE : Sl w R 2 (.slice ea (2 ^ bt l) ec) (2 ^ bt l) (rows encE (tbl l))) (hr : Rt l) (hSR : ∀ g, R g → ¬ Sb g) (hSB : ¬ Sb B) (hST : ¬ Sb tb) (hSf : ∀ g, w.heap.size ≤ g → ¬ Sb g) (hRw : ∀ g, R g → g < w.heap.size) (hJ0 : J 0 w) (hJS : ∀ (j : Nat) (w w' : World), J j w → Upd No w w' → J j w') (hy : ∀ j w, j < (ord l).length → J j w → YieldC Try.prog ly #[.int .i64 ((rp l j : Nat) : Int), .agg #[.int .i64 ((os l).getD j (0, 0)).1, .int .i64 ((os l).getD j (0, 0)).2]] w (fun e w' => (e = .returned (.bool true) ∧ (Upd Sb w w' ∧ J (j + 1) w')) ∨ (e = .returned (.bool false) ∧ Jx w'))) :
    Calls Try.prog 40 #[.func (.yield ly) #[] #[], .pointer (some ⟨B, 0, none⟩)] w (Ret fun v w' => J (ord l).length w' ∨ Jx w') := by
  have HU : Upd (fun b => False) w w := Upd.refl _ _
  replace hE := hE.weak (R' := fun g => R g ∧ g < w.heap.size) (fun g h => ⟨h, hRw g h⟩)
  have hbt := bt_bd hr
  have h11 := (p2_le11 hbt.2).2
  have hpn := p2_nat (bt l)
  have hl_hE := rlen encE_len (by decide) hE
  have hc_hE := hE.cap.1
  have hbl_B := hB.lt
  have hbl_T := hT.lt
  refine calls_of_W Try.func40 rfl Try.ntmps40 (by simp) ?_
  refine W_scope ?_
  refine W_seq ?_
  refine W_label ?_
  refine W_seq ?_
  refine W_region ?_
  refine Wl_v (r_as (v := .int .i64 0) rfl) ?_
  refine Wl_nil ?_
  refine W_block ?_
  refine W_loop (fun mu ρ ds w' => ∃ (j : Nat), (ord l).length - j = mu ∧ ds = [] ∧ Liv ρ [(0, .func (.yield ly) #[] #[]), (1, .pointer (some ⟨B, 0, none⟩)), (3, .int .i64 ((rp l j : Nat) : Int))] ∧ j ≤ (ord l).length ∧ Blk w' B [.pointer (some ⟨tb, 0, none⟩)] ∧ Blk w' tb [.slice ea (2 ^ bt l) ec, .int .i64 ((bt l : Nat) : Int), .slice la n lc] ∧ Sl w' (fun g => (R g ∧ g < w.heap.size)) 2 (.slice ea (2 ^ bt l) ec) (2 ^ bt l) (rows encE (tbl l)) ∧ J j w' ∧ w.heap.size ≤ w'.heap.size) _ ⟨0, rfl, rfl, ⟨rfl, rfl, (Eq.trans (b := .int .i64 0) rfl (vint (by rw [rp_zero]; rfl))), trivial⟩, (by omega), hB, hT, hE, hJ0, (by omega)⟩ ?_
  rintro m1 ρ1 ds1 w1 ⟨j, rfl, rfl, hl1, hj, hB, hT, hE, hJ0, hsz⟩
  obtain ⟨ρ1x, rfl⟩ : ∃ ρx, ρ1 = upds ρx [(0, .func (.yield ly) #[] #[]), (1, .pointer (some ⟨B, 0, none⟩)), (3, .int .i64 ((rp l j : Nat) : Int))] := ⟨_, upds_self hl1⟩
  clear hl1
  refine W_block ?_
  refine W_seq ?_
  refine W_region ?_
  refine Wl_load (v := .pointer (some ⟨tb, 0, none⟩)) Try.isAgg34 rfl hB rfl ?_
  refine Wl_v (r_mv (v := .int .i64 ((rp l j : Nat) : Int)) rfl) ?_
  have HR : Upd (fun b => False) w1 w1 := Upd.refl _ _
  by_cases q1 : j < (ord l).length
  · have hjl := q1
    have hrl := rp_lt hr hjl
    have hos := os_at2 hr hjl
    have her := ent_rng hr hrl
    rw [hos] at her
    have hre := rp_succ hr hjl
    have hp2b := p2n_le (d := ((bt l : Nat) : Int) - ((os l).getD j (0, 0)).2) (by omega)
    refine Wl_call (r_call2 rfl Try.call18 rfl rfl) (tat_in _ hT hE.any (by omega) (by omega)) ?_
    rintro v w2 ⟨rfl, hU2⟩
    have hzw2 := hU2.size
    replace hB := hB.upd0 hU2
    replace hT := hT.upd0 hU2
    replace hE := hE.upd0 hU2
    replace hJ0 := hJ0
    replace hsz := hsz
    replace HR := HR.trans0 hU2
    refine Wl_v (r_mv (v := .tuple #[.agg #[.int .i64 ((ent l ((rp l j : Nat) : Int).toNat).1), .int .i64 ((ent l ((rp l j : Nat) : Int).toNat).2)], .bool true]) rfl) ?_
    refine Wl_v (r_ext (v := .agg #[.int .i64 ((ent l ((rp l j : Nat) : Int).toNat).1), .int .i64 ((ent l ((rp l j : Nat) : Int).toNat).2)]) rfl rfl) ?_
    rw [show ent l (((rp l j : Nat) : Int)).toNat = ((os l).getD j (0, 0)) from by rw [Int.toNat_natCast, hos]]
    refine Wl_v (r_ext (v := .bool true) rfl rfl) ?_
    refine Wl_alloc (cs := [.int .i64 0, .int .i64 0]) Try.zeroValue38 rfl ?_
    intro B3 w3 hB3 hU3 hzz3 hb3
    have hzw3 := hU3.size
    replace hB := hB.upd0 hU3
    replace hT := hT.upd0 hU3
    replace hE := hE.upd0 hU3
    replace hJ0 := hJ0
    replace hsz := hsz
    replace HR := HR.trans0 hU3
    refine Wl_storea (off := 0) (vs := [.int .i64 (((os l).getD j (0, 0)).1), .int .i64 (((os l).getD j (0, 0)).2)]) (cs' := [.int .i64 (((os l).getD j (0, 0)).1), .int .i64 (((os l).getD j (0, 0)).2)]) Try.sizeOf38 rfl rfl rfl (by simp only [List.mem_cons, List.not_mem_nil, or_false, forall_eq_or_imp, forall_eq]; exact ⟨rfl, rfl⟩) hb3 (by simp) rfl ?_
    intro w4 hU4 hzz4 hb3n
    replace hb3 := hb3n; clear hb3n
    have hzw4 := hU4.size
    replace hB := hB.upd1 hU4 (by omega)
    replace hT := hT.upd1 hU4 (by omega)
    replace hE := hE.upd1 hU4 (by intro h1; have h3 : (R B3 ∧ B3 < w.heap.size) := h1; omega)
    replace hJ0 := hJ0
    replace HR := HR.trans1 hU4 (by show (False) ∨ w1.heap.size ≤ B3; omega)
    refine Wl_v (r_as (v := .bool true) rfl) ?_
    refine Wl_nil ?_
    refine W_seq ?_
    refine W_seq ?_
    refine W_region ?_
    refine Wl_v (r_mv (v := .bool true) rfl) ?_
    refine Wl_v (r_not (b := true) rfl) ?_
    refine Wl_v (r_mv (v := .bool false) rfl) ?_
    refine Wl_guard_t rfl ?_
    refine Wl_v (r_mv (v := .func (.yield ly) #[] #[]) rfl) ?_
    refine Wl_guard_t rfl ?_
    refine Wl_v (r_mv (v := .int .i64 ((rp l j : Nat) : Int)) rfl) ?_
    refine Wl_guard_t rfl ?_
    refine Wl_v (r_loada (b := B3) (off := 0) (cs := [.int .i64 (((os l).getD j (0, 0)).1), .int .i64 (((os l).getD j (0, 0)).2)]) Try.isAgg38 Try.sizeOf38 rfl rfl (fun j hj => by rw [hb3.cell]; match j, hj with | 0, _ => rfl | 1, _ => rfl)) ?_
    refine Wl_guard_t rfl ?_
    refine Wl_yield2 rfl rfl rfl (hy j _ hjl (hJS _ _ _ hJ0 HR)) ?_ ?_
    · rintro w5 ⟨hU5, hJn⟩
      have hzw5 := hU5.size
      replace hB := hB.upd hU5 hSB
      replace hT := hT.upd hU5 hST
      replace hE := hE.upd hU5 (fun g hg => hSR g hg.1)
      replace hJ0 := hJn
      clear HR
      have HR : Upd (fun b => False) w5 w5 := Upd.refl _ _
      replace hb3 := hb3.upd hU5 (hSf _ (by omega))
      refine Wl_guard_t rfl ?_
      refine Wl_v (r_not (b := true) rfl) ?_
      refine Wl_v (r_pick_f (v := .bool false) rfl rfl) ?_
      refine Wl_nil ?_
      refine W_cond_f rfl ?_
      refine W_skip ?_
      refine W_drawt rfl (l0 := #[false, false, false, false, false, false, false, false, false, false, false]) (by kernel_rfl) ?_
      refine Wt_take (i := 0) (listed' := #[true, false, false, false, false, false, false, false, false, false, false]) (by kernel_rfl) rfl (by kernel_rfl) (by kernel_rfl) (by kernel_rfl) (by kernel_rfl) (YI_v (v := .int .i64 ((rp l j : Nat) : Int)) rfl (fun w' hw' => r_mv (v := .int .i64 ((rp l j : Nat) : Int)) rfl)) ?_
      refine Wt_take (i := 1) (listed' := #[true, true, false, false, false, false, false, false, false, false, false]) (by kernel_rfl) rfl (by kernel_rfl) (by kernel_rfl) (by kernel_rfl) (by kernel_rfl) (YI_v (v := .pointer (some ⟨tb, 0, none⟩)) rfl (fun w' hw' => r_load Try.isAgg34 rfl (by rw [(hB.upd0 hw').cell]; rfl))) ?_
      refine Wt_take (i := 2) (listed' := #[true, true, true, false, false, false, false, false, false, false, false]) (by kernel_rfl) rfl (by kernel_rfl) (by kernel_rfl) (by kernel_rfl) (by kernel_rfl) (YI_v (v := .pointer (some ⟨tb, 0, none⟩)) rfl (fun w' hw' => r_nil rfl)) ?_
      refine Wt_take (i := 3) (listed' := #[true, true, true, true, false, false, false, false, false, false, false]) (by kernel_rfl) rfl (by kernel_rfl) (by kernel_rfl) (by kernel_rfl) (by kernel_rfl) (YI_v (v := .pointer (some ⟨tb, 1, none⟩)) rfl (fun w' hw' => r_fld Try.underlying67 rfl Try.sizeOf3 rfl rfl)) ?_
      refine Wt_take (i := 4) (listed' := #[true, true, true, true, true, false, false, false, false, false, false]) (by kernel_rfl) rfl (by kernel_rfl) (by kernel_rfl) (by kernel_rfl) (by kernel_rfl) (YI_v (v := .int .i64 ((bt l : Nat) : Int)) rfl (fun w' hw' => r_load Try.isAgg3 rfl (by rw [(hT.upd0 hw').cell]; rfl))) ?_
      refine Wt_take (i := 5) (listed' := #[true, true, true, true, true, true, false, false, false, false, false]) (by kernel_rfl) rfl (by kernel_rfl) (by kernel_rfl) (by kernel_rfl) (by kernel_rfl) (YI_v (v := .pointer (some ⟨B3, 1, none⟩)) rfl (fun w' hw' => r_fld Try.underlying38 rfl Try.sizeOf3 rfl rfl)) ?_
      refine Wt_take (i := 6) (listed' := #[true, true, true, true, true, true, true, false, false, false, false]) (by kernel_rfl) rfl (by kernel_rfl) (by kernel_rfl) (by kernel_rfl) (by kernel_rfl) (YI_v (v := .int .i64 (((os l).getD j (0, 0)).2)) rfl (fun w' hw' => r_load Try.isAgg3 rfl (by rw [(hb3.upd0 hw').cell]; rfl))) ?_
      refine Wt_take (i := 7) (listed' := #[true, true, true, true, true, true, true, true, false, false, false]) (by kernel_rfl) rfl (by kernel_rfl) (by kernel_rfl) (by kernel_rfl) (by kernel_rfl) (YI_v (v := .int .i64 (((bt l : Nat) : Int) - (((os l).getD j (0, 0)).2))) rfl (fun w' hw' => r_sub rfl rfl (wi64 (by omega) (by omega)))) ?_
      refine Wt_take (i := 8) (listed' := #[true, true, true, true, true, true, true, true, true, false, false]) (by kernel_rfl) rfl (by kernel_rfl) (by kernel_rfl) (by kernel_rfl) (by kernel_rfl) (YI_v (v := .int .i64 ((2 ^ (((bt l : Nat) : Int) - (((os l).getD j (0, 0)).2)).toNat : Nat) : Int)) rfl (fun w' hw' => r_shl rfl rfl (by omega) (shlT (by omega) (by omega)))) ?_
      refine Wt_take (i := 9) (listed' := #[true, true, true, true, true, true, true, true, true, true, false]) (by kernel_rfl) rfl (by kernel_rfl) (by kernel_rfl) (by kernel_rfl) (by kernel_rfl) (YI_v (v := .int .i64 (((rp l j : Nat) : Int) + ((2 ^ (((bt l : Nat) : Int) - (((os l).getD j (0, 0)).2)).toNat : Nat) : Int))) rfl (fun w' hw' => r_add rfl rfl (wi64 (by omega) (by omega)))) ?_
      refine Wt_take (i := 10) (listed' := #[true, true, true, true, true, true, true, true, true, true, true]) (by kernel_rfl) rfl (by kernel_rfl) (by kernel_rfl) (by kernel_rfl) (by kernel_rfl) (YI_v (v := .int .i64 (((rp l j : Nat) : Int) + ((2 ^ (((bt l : Nat) : Int) - (((os l).getD j (0, 0)).2)).toNat : Nat) : Int))) rfl (fun w' hw' => r_as (v := .int .i64 (((rp l j : Nat) : Int) + ((2 ^ (((bt l : Nat) : Int) - (((os l).getD j (0, 0)).2)).toNat : Nat) : Int))) rfl)) ?_
      intro w6 hU6
      have hzw6 := hU6.size
      replace hB := hB.upd0 hU6
      replace hT := hT.upd0 hU6
      replace hE := hE.upd0 hU6
      replace hJ0 := hJ0
      replace hb3 := hb3.upd0 hU6
      replace HR := HR.trans0 hU6
      refine Wa_done (by kernel_rfl) ?_
      refine ⟨_, ?_, (j + 1), rfl, rfl, ⟨rfl, rfl, (Eq.trans (b := .int .i64 (((rp l j : Nat) : Int) + ((2 ^ (((bt l : Nat) : Int) - (((os l).getD j (0, 0)).2)).toNat : Nat) : Int))) rfl (vint (by rw [rp_succ hr hjl]; omega))), trivial⟩, (by omega), hB, hT, hE, (hJS _ _ _ hJ0 HR), (by omega)⟩
      omega
    · rintro w7 hJx
      refine Wl_guard_t rfl ?_
      refine Wl_v (r_not (b := false) rfl) ?_
      refine Wl_v (r_pick_f (v := .bool true) rfl rfl) ?_
      refine Wl_nil ?_
      refine W_cond_t rfl ?_
      refine W_exit ?_
      refine nrm_end (v := .tuple #[]) rfl (res0 Try.results40) ?_
      exact ⟨_, rfl, Or.inr hJx⟩
  · have hje : j = (ord l).length := by omega
    have hra := rp_all hr
    rw [← hje] at hra
    refine Wl_call (r_call2 rfl Try.call18 rfl rfl) (tat_out _ hT hE.any (by omega) (by omega)) ?_
    rintro v w8 ⟨rfl, hU8⟩
    have hzw8 := hU8.size
    replace hB := hB.upd0 hU8
    replace hT := hT.upd0 hU8
    replace hE := hE.upd0 hU8
    replace hJ0 := hJ0
    replace hsz := hsz
    replace HR := HR.trans0 hU8
    refine Wl_v (r_mv (v := .tuple #[.agg #[.int .i64 0, .int .i64 0], .bool false]) rfl) ?_
    refine Wl_v (r_ext (v := .agg #[.int .i64 0, .int .i64 0]) rfl rfl) ?_
    refine Wl_v (r_ext (v := .bool false) rfl rfl) ?_
    refine Wl_alloc (cs := [.int .i64 0, .int .i64 0]) Try.zeroValue38 rfl ?_
    intro B9 w9 hB9 hU9 hzz9 hb9
    have hzw9 := hU9.size
    replace hB := hB.upd0 hU9
    replace hT := hT.upd0 hU9
    replace hE := hE.upd0 hU9
    replace hJ0 := hJ0
    replace hsz := hsz
    replace HR := HR.trans0 hU9
    refine Wl_storea (off := 0) (vs := [.int .i64 0, .int .i64 0]) (cs' := [.int .i64 0, .int .i64 0]) Try.sizeOf38 rfl rfl rfl (by simp only [List.mem_cons, List.not_mem_nil, or_false, forall_eq_or_imp, forall_eq]; exact ⟨rfl, rfl⟩) hb9 (by simp) rfl ?_
    intro w10 hU10 hzz10 hb9n
    replace hb9 := hb9n; clear hb9n
    have hzw10 := hU10.size
    replace hB := hB.upd1 hU10 (by omega)
    replace hT := hT.upd1 hU10 (by omega)
    replace hE := hE.upd1 hU10 (by intro h1; have h3 : (R B9 ∧ B9 < w.heap.size) := h1; omega)
    replace hJ0 := hJ0
    replace HR := HR.trans1 hU10 (by show (False) ∨ w1.heap.size ≤ B9; omega)
    refine Wl_v (r_as (v := .bool false) rfl) ?_
    refine Wl_nil ?_
    refine W_seq ?_
    refine W_seq ?_
    refine W_region ?_
    refine Wl_v (r_mv (v := .bool false) rfl) ?_
    refine Wl_v (r_not (b := false) rfl) ?_
    refine Wl_v (r_mv (v := .bool true) rfl) ?_
    refine Wl_guard_f rfl ?_
    refine Wl_guard_f rfl ?_
    refine Wl_guard_f rfl ?_
    refine Wl_guard_f rfl ?_
    refine Wl_guard_f rfl ?_
    refine Wl_v (r_pick_t (v := .bool true) rfl rfl) ?_
    refine Wl_nil ?_
    refine W_cond_t rfl ?_
    refine W_exit ?_
    refine nrm_end (v := .tuple #[]) rfl (res0 Try.results40) ?_
    exact ⟨_, rfl, Or.inl (by rw [← hje]; exact hJS _ _ _ hJ0 HR)⟩

set_option maxRecDepth 100000 in
theorem runs_spec {tb : Nat} (w : World)  :
    Calls Try.prog 27 #[.pointer (some ⟨tb, 0, none⟩)] w (Ret fun v w' => ∃ (B : Nat), v = .func (.func 40) #[] #[.pointer (some ⟨B, 0, none⟩)] ∧ Blk w' B [.pointer (some ⟨tb, 0, none⟩)] ∧ w.heap.size ≤ B ∧ Upd No w w') := by
  have HU : Upd (fun b => False) w w := Upd.refl _ _
  refine calls_of_W Try.func27 rfl Try.ntmps27 (by simp) ?_
  refine W_seq ?_
  refine W_region ?_
  refine Wl_box (v := .pointer (some ⟨tb, 0, none⟩)) (cs := [.pointer (some ⟨tb, 0, none⟩)]) rfl rfl ?_
  intro B1 w1 hB1 hU1 hzz1 hb1
  have hzw1 := hU1.size
  replace HU := HU.trans0 hU1
  refine Wl_v (r_as (v := .nilFunc) rfl) ?_
  refine Wl_nil ?_
  refine W_seq ?_
  refine W_region ?_
  refine Wl_v (r_mkf1 (v0 := .pointer (some ⟨B1, 0, none⟩)) rfl) ?_
  refine Wl_v (r_as (v := .func (.func 40) #[] #[.pointer (some ⟨B1, 0, none⟩)]) rfl) ?_
  refine Wl_nil ?_
  refine W_ret ?_
  refine ret_end (v := .func (.func 40) #[] #[.pointer (some ⟨B1, 0, none⟩)]) rfl (res1 Try.results27 rfl) ?_
  exact ⟨_, rfl, B1, rfl, hb1, (by omega), HU⟩

set_option maxRecDepth 100000 in
theorem runs_nil  (w : World)  :
    Calls Try.prog 27 #[.pointer none] w (Ret fun v w' => ∃ (B : Nat), v = .func (.func 40) #[] #[.pointer (some ⟨B, 0, none⟩)] ∧ Blk w' B [.pointer none] ∧ w.heap.size ≤ B ∧ Upd No w w') := by
  have HU : Upd (fun b => False) w w := Upd.refl _ _
  refine calls_of_W Try.func27 rfl Try.ntmps27 (by simp) ?_
  refine W_seq ?_
  refine W_region ?_
  refine Wl_box (v := .pointer none) (cs := [.pointer none]) rfl rfl ?_
  intro B1 w1 hB1 hU1 hzz1 hb1
  have hzw1 := hU1.size
  replace HU := HU.trans0 hU1
  refine Wl_v (r_as (v := .nilFunc) rfl) ?_
  refine Wl_nil ?_
  refine W_seq ?_
  refine W_region ?_
  refine Wl_v (r_mkf1 (v0 := .pointer (some ⟨B1, 0, none⟩)) rfl) ?_
  refine Wl_v (r_as (v := .func (.func 40) #[] #[.pointer (some ⟨B1, 0, none⟩)]) rfl) ?_
  refine Wl_nil ?_
  refine W_ret ?_
  refine ret_end (v := .func (.func 40) #[] #[.pointer (some ⟨B1, 0, none⟩)]) rfl (res1 Try.results27 rfl) ?_
  exact ⟨_, rfl, B1, rfl, hb1, (by omega), HU⟩

end Go.Proofs.Ytkgjdcjpnfjofaa
