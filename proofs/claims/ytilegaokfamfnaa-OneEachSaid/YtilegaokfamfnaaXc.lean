/-
 Walks, printed by a small program of this project (gen.py).
-/
import Derived.Test.YtilegaokfamfnaaXb
set_option linter.unusedVariables false
set_option linter.unusedSimpArgs false
namespace Go.Proofs.Ytilegaokfamfnaa
open Go.Fw

set_option maxRecDepth 100000 in
theorem codes_spec {a : Option Addr} {n c : Nat} {l : List Int} {R : Nat → Prop} (w : World) (hs : Sl w R 1 (.slice a n c) n (ints .i64 l)) (hn : n ≤ 17592186044415) (hr : Rt l) :
  Calls Try.prog 84 #[.agg #[.slice a n c]] w (Ret fun v w' => ∃ (a' : Option Addr) (c' : Nat), v = .slice a' n c' ∧ Own w' (fun g => w.heap.size ≤ g) 67 2 (.slice a' n c') n (rows encC (cds l)) ∧ Upd No w w') := by
 have HU : Upd (fun b => False) w w := Upd.refl _ _
 have hl_hs := ilen hs
 have hc_hs := hs.cap.1
 replace hs := hs.tight
 have h256 := hr.2.1
 refine calls_of_W Try.func84 rfl Try.ntmps84 (by simp) ?_
 refine W_seq ?_
 refine W_region ?_
 refine Wl_box (v := .agg #[.slice a n c]) (cs := [.slice a n c]) rfl rfl ?_
 intro B1 w1 hB1 hU1 hzz1 hb1
 have hzw1 := hU1.size
 replace hs := hs.upd0 hU1
 replace HU := HU.trans0 hU1
 refine Wl_v (r_as (v := .slice none 0 0) rfl) ?_
 refine Wl_nil ?_
 refine W_seq ?_
 refine W_region ?_
 refine Wl_v (r_fld Try.underlying124 rfl Try.sizeOf122 rfl rfl) ?_
 refine Wl_load (v := .slice a n c) Try.isAgg122 rfl hb1 rfl ?_
 refine Wl_call (r_call1 rfl Try.call92 rfl) (first_spec _ hs (by omega) (by omega)) ?_
 rintro v w2 ⟨rfl, hU2⟩
 have hzw2 := hU2.size
 replace hs := hs.upd0 hU2
 replace HU := HU.trans0 hU2
 replace hb1 := hb1.upd0 hU2
 refine Wl_alloc (cs := [.int .u32 0, .int .u32 0, .int .u32 0, .int .u32 0, .int .u32 0, .int .u32 0, .int .u32 0, .int .u32 0, .int .u32 0, .int .u32 0, .int .u32 0, .int .u32 0]) Try.zeroValue142 rfl ?_
 intro B3 w3 hB3 hU3 hzz3 hb3
 have hzw3 := hU3.size
 replace hs := hs.upd0 hU3
 replace HU := HU.trans0 hU3
 replace hb1 := hb1.upd0 hU3
 replace hb3 : Blk w3 B3 (ints .u32 (tab12 (fun _ => 0))) := hb3
 refine Wl_storea (off := 0) (vs := ints .u32 (tab12 (F l))) (cs' := ints .u32 (tab12 (F l))) Try.sizeOf142 rfl rfl (by simp only [ints, List.length_map]; exact tab12_len _) one_ints hb3 (by have h1 : (tab12 (F l)).length = 12 := tab12_len _; have h2 : (tab12 (fun _ => 0)).length = 12 := tab12_len _; simp only [ints, List.length_map]; omega) (take0_drop ((tab12_len _ : (tab12 (fun _ => 0)).length = 12).trans (tab12_len _ : (tab12 (F l)).length = 12).symm)) ?_
 intro w4 hU4 hzz4 hb3n
 replace hb3 := hb3n; clear hb3n
 have hzw4 := hU4.size
 replace hs := hs.upd1 hU4 (by intro h1; have h3 : ((R B3) ∧ B3 < w.heap.size) := h1; omega)
 replace HU := HU.trans1 hU4 (by show (False) ∨ w.heap.size ≤ B3; omega)
 replace hb1 := hb1.upd1 hU4 (by omega)
 refine Wl_nil ?_
 refine W_seq ?_
 refine W_region ?_
 refine Wl_v (r_fld Try.underlying124 rfl Try.sizeOf122 rfl rfl) ?_
 refine Wl_load (v := .slice a n c) Try.isAgg122 rfl hb1 rfl ?_
 refine Wl_v (r_len Try.underlying122 rfl) ?_
 refine Wl_makeo (c' := n) (zc := [.int .i64 0, .int .u32 0]) (cs := rows encC (List.replicate n (0, 0))) (sz := 2) Try.underlying53 (ti := Try.t67) (z := .agg #[.int .i64 0, .int .u32 0]) rfl rfl rfl rfl (by decide) rfl rfl (by omega) (by omega) (by show 16 * _ ≤ _; omega) (by simp only [maxLen]; omega) (rows_rep (enc := encC) (0, 0) _) rfl ?_
 intro B5 w5 hB5 hU5 hzz5 hO5
 have hzw5 := hU5.size
 replace hs := hs.upd0 hU5
 replace HU := HU.trans0 hU5
 replace hb1 := hb1.upd0 hU5
 replace hb3 := hb3.upd0 hU5
 have hl_hO5 := rlen encC_len (by decide) hO5.sl
 have hc_hO5 := hO5.sl.cap.1
 refine Wl_v (r_as (v := .slice (some ⟨B5, 0, none⟩) n n) rfl) ?_
 refine Wl_nil ?_
 refine W_seq ?_
 refine W_seq ?_
 refine W_region ?_
 refine Wl_v (r_fld Try.underlying124 rfl Try.sizeOf122 rfl rfl) ?_
 refine Wl_load (v := .slice a n c) Try.isAgg122 rfl hb1 rfl ?_
 refine Wl_v (r_len Try.underlying122 rfl) ?_
 refine Wl_v (r_mv (v := .int .i64 0) rfl) ?_
 refine Wl_nil ?_
 refine W_block ?_
 refine W_loop (fun mu ρ ds w' => ∃ (k : Nat), n - k = mu ∧ ds = [] ∧ Liv ρ [(3, .pointer (some ⟨B3, 0, none⟩)), (4, .slice (some ⟨B5, 0, none⟩) n n), (15, .slice a n c), (16, .int .i64 ((n : Nat) : Int)), (17, .int .i64 ((k : Nat) : Int))] ∧ k ≤ n ∧ Blk w' B3 (ints .u32 (tab12 (fun j => F l j + cn (l.take k) j))) ∧ Own w' (fun g => g = B5) 67 2 (.slice (some ⟨B5, 0, none⟩) n n) n (rows encC (tabn n (fun i => if i < k then cd l i else (0, 0)))) ∧ Upd (fun g => g = B3 ∨ (g = B5)) w5 w') _ ⟨0, rfl, rfl, ⟨rfl, rfl, rfl, rfl, (by first | rfl | exact vint (by omega) | exact vint (by simp)), trivial⟩, (by omega), (hb3.icong (tab12_congr fun x hx => by simp [cn])), (hO5.rcong (by rw [tabn_rep]; exact tabn_congr fun j hj => by rw [if_neg (by omega)])), Upd.refl _ _⟩ ?_
 rintro m6 ρ6 ds6 w6 ⟨k, rfl, rfl, hl6, hk, hb3, hO5, hU6⟩
 obtain ⟨ρ6x, rfl⟩ : ∃ ρx, ρ6 = upds ρx [(3, .pointer (some ⟨B3, 0, none⟩)), (4, .slice (some ⟨B5, 0, none⟩) n n), (15, .slice a n c), (16, .int .i64 ((n : Nat) : Int)), (17, .int .i64 ((k : Nat) : Int))] := ⟨_, upds_self hl6⟩
 clear hl6
 have hzw6 := hU6.size
 replace hs := hs.upd hU6 (by intro x h1 h2; have h3 : ((R x) ∧ x < w.heap.size) := h1; have h4 : x = B3 ∨ (x = B5) := h2; omega)
 replace HU := HU.trans hU6 (by intro x hx; have hx2 : x = B3 ∨ (x = B5) := hx; show (False) ∨ w.heap.size ≤ x; omega)
 have HL6 := hU6
 refine W_seq ?_
 refine W_region ?_
 refine Wl_v (r_lt rfl rfl) ?_
 refine Wl_nil ?_
 refine W_seq ?_
 by_cases q1 : ((k : Nat) : Int) < ((n : Nat) : Int)
 ·have hgd := hr.1.gd k
  rw [decide_eq_true q1]
  refine W_cond_t rfl ?_
  refine W_skip ?_
  refine W_seq ?_
  refine W_block ?_
  refine W_seq ?_
  refine W_region ?_
  refine Wl_v (r_mv (v := .int .i64 ((k : Nat) : Int)) rfl) ?_
  refine Wl_idxi Try.underlying122 Try.sizeOf3 rfl rfl hs (by omega) (by omega) ?_
  intro ib7 io7 hc7
  rw [Int.toNat_natCast] at hc7
  refine Wl_loadc Try.isAgg3 rfl hc7 ?_
  refine Wl_v (r_as (v := .int .i64 ((k : Nat) : Int)) rfl) ?_
  refine Wl_v (r_as (v := .int .i64 (l.getD k 0)) rfl) ?_
  refine Wl_nil ?_
  refine W_seq ?_
  refine W_region ?_
  refine Wl_v (r_mv (v := .int .i64 (l.getD k 0)) rfl) ?_
  refine Wl_v (r_gt rfl rfl) ?_
  refine Wl_nil ?_
  by_cases q2 : 0 < (l.getD k 0)
  ·have hrk := rank_lt hr.1 (i := k) (by omega) q2
   have hfl := F_le' hr (n := (l.getD k 0).toNat) (by omega)
   have hcn := cn_nonneg (l.take k) (l.getD k 0).toNat
   rw [decide_eq_true q2]
   refine W_cond_t rfl ?_
   refine W_seq ?_
   refine W_region ?_
   refine Wl_v (r_mv (v := .slice (some ⟨B5, 0, none⟩) n n) rfl) ?_
   refine Wl_v (r_mv (v := .int .i64 ((k : Nat) : Int)) rfl) ?_
   refine Wl_v (r_mv (v := .int .i64 (l.getD k 0)) rfl) ?_
   refine Wl_v (r_mv (v := .int .i64 (l.getD k 0)) rfl) ?_
   refine Wl_v (r_idxa (len := 12) (i' := (l.getD k 0).toNat) (o' := (l.getD k 0).toNat) Try.underlying142 Try.sizeOf65 rfl rfl (by omega) (by omega) (by omega)) ?_
   refine Wl_loadc (v := .int .u32 (F l ((l.getD k 0).toNat) + cn (l.take k) ((l.getD k 0).toNat))) Try.isAgg65 rfl (by rw [hb3.icell (by rw [tab12_len]; omega), tab12_get _ (by omega)]) ?_
   refine Wl_v (r_build (pl := #[(0, 1), (1, 1)]) (pv := [(0, .int .i64 (l.getD k 0)), (1, .int .u32 (F l ((l.getD k 0).toNat) + cn (l.take k) ((l.getD k 0).toNat)))]) (cs := #[.int .i64 (l.getD k 0), .int .u32 (F l ((l.getD k 0).toNat) + cn (l.take k) ((l.getD k 0).toNat))]) Try.zeroValue67 Try.underlying67 (fun w => by kernel_rfl) (by simp only [List.map_toArray, List.map_cons, List.map_nil] <;> rfl) (by kernel_rfl)) ?_
   refine Wl_v (r_idxor (i' := k) (o' := k * 2) Try.underlying53 Try.sizeOf67 rfl rfl (by omega) (by omega) rfl) ?_
   refine Wl_storer (i := k) (l.getD k 0, F l ((l.getD k 0).toNat) + cn (l.take k) ((l.getD k 0).toNat)) encC_len (by decide) (encC_one _) Try.sizeOf67 rfl rfl rfl hO5 (by omega) ?_
   intro w8 hU8 hzz8 hO8
   clear hO5
   have hzw8 := hU8.size
   replace hb3 := hb3.upd1 hU8 (by omega)
   replace HL6 := HL6.trans1 hU8 (by show (B5 = B3 ∨ (B5 = B5)) ∨ w5.heap.size ≤ B5; omega)
   have hl_hO8 := rlen encC_len (by decide) hO8.sl
   have hc_hO8 := hO8.sl.cap.1
   refine Wl_nil ?_
   refine W_region ?_
   refine Wl_v (r_mv (v := .int .i64 (l.getD k 0)) rfl) ?_
   refine Wl_v (r_idxa (len := 12) (i' := (l.getD k 0).toNat) (o' := (l.getD k 0).toNat) Try.underlying142 Try.sizeOf65 rfl rfl (by omega) (by omega) (by omega)) ?_
   refine Wl_loadc (v := .int .u32 (F l ((l.getD k 0).toNat) + cn (l.take k) ((l.getD k 0).toNat))) Try.isAgg65 rfl (by rw [hb3.icell (by rw [tab12_len]; omega), tab12_get _ (by omega)]) ?_
   refine Wl_v (r_add rfl rfl (wu32 (by omega) (by omega))) ?_
   refine Wl_v (r_idxa (len := 12) (i' := (l.getD k 0).toNat) (o' := (l.getD k 0).toNat) Try.underlying142 Try.sizeOf65 rfl rfl (by omega) (by omega) (by omega)) ?_
   refine Wl_storei (i := (l.getD k 0).toNat) (l' := tab12 (fun x => if x = (l.getD k 0).toNat then (F l ((l.getD k 0).toNat) + cn (l.take k) ((l.getD k 0).toNat)) + 1 else F l x + cn (l.take k) x)) Try.sizeOf65 rfl rfl hb3 (by rw [tab12_len]; omega) (tab12_set _ (by omega) _ _ (fun j hj => rfl)) ?_
   intro w9 hU9 hzz9 hb3n
   replace hb3 := hb3n; clear hb3n
   have hzw9 := hU9.size
   replace HL6 := HL6.trans1 hU9 (by show (B3 = B3 ∨ (B3 = B5)) ∨ w5.heap.size ≤ B3; omega)
   replace hO8 := hO8.upd1 hU9 (by intro h1; have h3 : B3 = B5 := h1; omega)
   refine Wl_nil ?_
   refine W_region ?_
   refine Wl_v (r_add rfl rfl (wi64 (by omega) (by omega))) ?_
   refine Wl_v (r_mv (v := .int .i64 (((k : Nat) : Int) + 1)) rfl) ?_
   refine Wl_nil ?_
   refine ⟨_, ?_, (k + 1), rfl, rfl, ⟨rfl, rfl, rfl, rfl, (Eq.trans (b := .int .i64 (((k : Nat) : Int) + 1)) rfl (vint (by omega))), trivial⟩, (by omega), (hb3.icong (tab12_congr fun x hx => by rw [cn_take (by omega)]; by_cases hxx : x = (l.getD k 0).toNat; rw [if_pos hxx, if_pos ⟨by omega, by omega⟩, hxx]; omega; rw [if_neg hxx, if_neg (by omega)]; omega)), (hO8.rcong (tabn_set _ _ (by omega) _ (fun j hj => by by_cases h1 : j = k; rw [if_pos h1, if_pos (by omega), h1, cd, if_pos (by omega)]; rw [if_neg h1]; by_cases h2 : j < k; rw [if_pos h2, if_pos (by omega)]; rw [if_neg h2, if_neg (by omega)]))), HL6⟩
   omega
  ·rw [decide_eq_false q2]
   refine W_cond_f rfl ?_
   refine W_skip ?_
   refine W_region ?_
   refine Wl_v (r_add rfl rfl (wi64 (by omega) (by omega))) ?_
   refine Wl_v (r_mv (v := .int .i64 (((k : Nat) : Int) + 1)) rfl) ?_
   refine Wl_nil ?_
   refine ⟨_, ?_, (k + 1), rfl, rfl, ⟨rfl, rfl, rfl, rfl, (Eq.trans (b := .int .i64 (((k : Nat) : Int) + 1)) rfl (vint (by omega))), trivial⟩, (by omega), (hb3.icong (tab12_congr fun x hx => by rw [cn_take (by omega), if_neg (by omega)]; omega)), (hO5.rcong (tabn_congr fun j hj => by by_cases h2 : j < k; rw [if_pos h2, if_pos (by omega)]; rw [if_neg h2]; by_cases h1 : j = k; rw [if_pos (by omega), h1, cd_zero (by omega)]; rw [if_neg (by omega)])), HL6⟩
   omega
 ·rw [decide_eq_false q1]
  refine W_cond_f rfl ?_
  refine W_exit ?_
  refine W_seq ?_
  refine W_region ?_
  refine Wl_v (r_mv (v := .slice (some ⟨B5, 0, none⟩) n n) rfl) ?_
  refine Wl_v (r_as (v := .slice (some ⟨B5, 0, none⟩) n n) rfl) ?_
  refine Wl_nil ?_
  refine W_ret ?_
  refine ret_end (v := .slice (some ⟨B5, 0, none⟩) n n) rfl (res1 Try.results84 rfl) ?_
  exact ⟨_, rfl, (some ⟨B5, 0, none⟩), n, rfl, ((hO5.weak (by intro g hg; have h3 : g = B5 := hg; show w.heap.size ≤ g; omega)).rcong (by unfold cds; rw [show l.length = n from by omega]; exact tabn_congr fun j hj => if_pos (by omega))), HU⟩

set_option maxRecDepth 100000 in
theorem of_ok {a : Option Addr} {n c : Nat} {l : List Int} {R : Nat → Prop} (w : World) (hs : Sl w R 1 (.slice a n c) n (ints .i64 l)) (hn : n ≤ 17592186044415) (hr : Rt l) :
  Calls Try.prog 81 #[.slice a n c] w (Ret fun v w' => v = .agg #[.slice a n n] ∧ Sl w' R 1 (.slice a n n) n (ints .i64 l) ∧ Upd No w w') := by
 have HU : Upd (fun b => False) w w := Upd.refl _ _
 have hl_hs := ilen hs
 have hc_hs := hs.cap.1
 replace hs := hs.tight
 have h256 := hr.2.1
 refine calls_of_W Try.func81 rfl Try.ntmps81 (by simp) ?_
 refine W_seq ?_
 refine W_region ?_
 refine Wl_alloc (cs := [.slice none 0 0]) Try.zeroValue124 rfl ?_
 intro B1 w1 hB1 hU1 hzz1 hb1
 have hzw1 := hU1.size
 replace hs := hs.upd0 hU1
 replace HU := HU.trans0 hU1
 refine Wl_nil ?_
 refine W_seq ?_
 refine W_region ?_
 refine Wl_v (r_mv (v := .slice a n c) rfl) ?_
 refine Wl_call (r_call1 rfl Try.call91 rfl) (right_spec _ hs (by omega)) ?_
 rintro v w2 ⟨rfl, hU2⟩
 have hzw2 := hU2.size
 replace hs := hs.upd0 hU2
 replace HU := HU.trans0 hU2
 replace hb1 := hb1.upd0 hU2
 have q1 : Rt l := hr
 rw [decide_eq_true q1]
 refine Wl_lit (pv := [(0, .bool true)]) (cs := [.bool true]) Try.underlying72 Try.sizeOf4 Try.zeroValue4 (by decide) (by decide) (by simp only [List.map_toArray, List.map_cons, List.map_nil] <;> rfl) (by kernel_rfl) rfl (by decide) ?_
 intro B3 w3 hB3 hU3 hzz3 hs3
 have hzw3 := hU3.size
 replace hs := hs.upd0 hU3
 replace HU := HU.trans0 hU3
 replace hb1 := hb1.upd0 hU3
 replace hs3 : Own w3 (Is B3) 4 1 (.slice (some ⟨B3, 0, none⟩) 1 1) 1 (rows encB [true]) := hs3
 refine Wl_call (r_call2 rfl Try.call90 rfl rfl) (must_ok _ hs3.sl (by omega) (by rfl)) ?_
 rintro v w4 ⟨rfl, hU4⟩
 have hzw4 := hU4.size
 replace hs := hs.upd0 hU4
 replace HU := HU.trans0 hU4
 replace hb1 := hb1.upd0 hU4
 refine Wl_nil ?_
 refine W_seq ?_
 refine W_region ?_
 refine Wl_v (r_mv (v := .slice a n c) rfl) ?_
 refine Wl_v (r_mv (v := .slice a n c) rfl) ?_
 refine Wl_v (r_len Try.underlying22 rfl) ?_
 refine Wl_v (r_mv (v := .slice a n c) rfl) ?_
 refine Wl_v (r_len Try.underlying22 rfl) ?_
 refine Wl_v (r_slice3 (h' := n) (q' := n) Try.underlying22 Try.sizeOf3 rfl rfl rfl (by omega) (by omega) (by omega) (by omega)) ?_
 have hT5 := Sl.recap (q := n) hs (by omega) (by simp only [maxLen]; omega)
 have hl_hT5 := ilen hT5
 have hc_hT5 := hT5.cap.1
 refine Wl_v (r_build (pl := #[(0, 1)]) (pv := [(0, .slice a n n)]) (cs := #[.slice a n n]) Try.zeroValue124 Try.underlying124 (fun w => by kernel_rfl) (by simp only [List.map_toArray, List.map_cons, List.map_nil] <;> rfl) (by kernel_rfl)) ?_
 refine Wl_storea (off := 0) (vs := [.slice a n n]) (cs' := [.slice a n n]) Try.sizeOf124 rfl rfl rfl (by simp only [List.mem_cons, List.not_mem_nil, or_false, forall_eq_or_imp, forall_eq]; exact rfl) hb1 (by simp) rfl ?_
 intro w6 hU6 hzz6 hb1n
 replace hb1 := hb1n; clear hb1n
 have hzw6 := hU6.size
 replace HU := HU.trans1 hU6 (by show (False) ∨ w.heap.size ≤ B1; omega)
 replace hT5 := hT5.upd1 hU6 (by intro h1; have h3 : ((R B1) ∧ B1 < w.heap.size) := h1; omega)
 refine Wl_nil ?_
 refine W_ret ?_
 refine ret_end (v := .agg #[.slice a n n]) rfl (rc1 Try.results81 rfl (cellAgg Try.isAgg124 Try.sizeOf124 rfl hb1)) ?_
 exact ⟨_, rfl, rfl, (hT5.weak (by intro g hg; have h3 : ((R g) ∧ g < w.heap.size) := hg; exact h3.1)), HU⟩

set_option maxRecDepth 100000 in
theorem of_no {a : Option Addr} {n c : Nat} {l : List Int} {R : Nat → Prop} (w : World) (hs : Sl w R 1 (.slice a n c) n (ints .i64 l)) (hn : n ≤ 17592186044415) (hr : ¬ Rt l) :
  Calls Try.prog 81 #[.slice a n c] w (Pan (.iface 25 (.int .i64 12)) fun w' => Upd No w w') := by
 have HU : Upd (fun b => False) w w := Upd.refl _ _
 have hl_hs := ilen hs
 have hc_hs := hs.cap.1
 replace hs := hs.tight
 refine calls_of_W Try.func81 rfl Try.ntmps81 (by simp) ?_
 refine W_seq ?_
 refine W_region ?_
 refine Wl_alloc (cs := [.slice none 0 0]) Try.zeroValue124 rfl ?_
 intro B1 w1 hB1 hU1 hzz1 hb1
 have hzw1 := hU1.size
 replace hs := hs.upd0 hU1
 replace HU := HU.trans0 hU1
 refine Wl_nil ?_
 refine W_seq ?_
 refine W_region ?_
 refine Wl_v (r_mv (v := .slice a n c) rfl) ?_
 refine Wl_call (r_call1 rfl Try.call91 rfl) (right_spec _ hs (by omega)) ?_
 rintro v w2 ⟨rfl, hU2⟩
 have hzw2 := hU2.size
 replace HU := HU.trans0 hU2
 have q1 : ¬ (Rt l) := hr
 rw [decide_eq_false q1]
 refine Wl_lit (pv := [(0, .bool false)]) (cs := [.bool false]) Try.underlying72 Try.sizeOf4 Try.zeroValue4 (by decide) (by decide) (by simp only [List.map_toArray, List.map_cons, List.map_nil] <;> rfl) (by kernel_rfl) rfl (by decide) ?_
 intro B3 w3 hB3 hU3 hzz3 hs3
 have hzw3 := hU3.size
 replace HU := HU.trans0 hU3
 replace hs3 : Own w3 (Is B3) 4 1 (.slice (some ⟨B3, 0, none⟩) 1 1) 1 (rows encB [false]) := hs3
 refine Wl_callp (r_call2 rfl Try.call90 rfl rfl) (must_no _ hs3.sl (by omega) (by rfl)) ?_
 intro w4 hU4
 have hzw4 := hU4.size
 replace HU := HU.trans0 hU4
 refine pan_ds rfl ?_
 refine lv_panic ?_
 exact ⟨rfl, HU⟩

theorem check_clr (w : World) : Calls Try.prog 80 #[] w (Ret fun v w1 => v = .tuple #[] ∧ True ∧ Upd (fun g => False) w w1) := by
 refine calls_of_W Try.func80 rfl Try.ntmps80 (by simp) ?_
 refine W_skip ?_
 refine nrm_end (v := .tuple #[]) rfl (res0 Try.results80) ?_
 exact ⟨_, rfl, rfl, trivial, Upd.refl _ _⟩

set_option maxRecDepth 100000 in
theorem check_ok {a : Option Addr} {n c : Nat} {l : List Int} {R : Nat → Prop} (w : World) (hs : Sl w R 1 (.slice a n c) n (ints .i64 l)) (hn : n ≤ 17592186044415) (hr : Rt l) :
  Calls Try.prog 55 #[.slice a n c] w (Ret fun v w' => v = .int .i64 0 ∧ Upd No w w') := by
 have HU : Upd (fun b => False) w w := Upd.refl _ _
 have hl_hs := ilen hs
 have hc_hs := hs.cap.1
 replace hs := hs.tight
 have h256 := hr.2.1
 refine calls_of_W Try.func55 rfl Try.ntmps55 (by simp) ?_
 refine W_seq ?_
 refine W_region ?_
 refine Wl_alloc (cs := [.int .i64 0]) Try.zeroValue25 rfl ?_
 intro B1 w1 hB1 hU1 hzz1 hb1
 have hzw1 := hU1.size
 replace hs := hs.upd0 hU1
 replace HU := HU.trans0 hU1
 refine Wl_nil ?_
 refine W_seq ?_
 refine W_region ?_
 refine Wl_defer2 rfl rfl ?_
 refine Wl_nil ?_
 refine W_seq ?_
 refine W_region ?_
 refine Wl_v (r_mv (v := .slice a n c) rfl) ?_
 refine Wl_call (r_call1 rfl Try.call81 rfl) (of_ok _ hs (by omega) (by omega)) ?_
 rintro v w2 ⟨rfl, hS2, hU2⟩
 have hzw2 := hU2.size
 replace HU := HU.trans0 hU2
 replace hb1 := hb1.upd0 hU2
 have hl_hS2 := ilen hS2
 have hc_hS2 := hS2.cap.1
 refine Wl_nil ?_
 refine W_seq ?_
 refine W_region ?_
 refine Wl_store (v := .int .i64 0) (cs' := [.int .i64 0]) Try.sizeOf25 rfl rfl rfl rfl hb1 rfl rfl ?_
 intro w3 hU3 hzz3 hb1n
 replace hb1 := hb1n; clear hb1n
 have hzw3 := hU3.size
 replace HU := HU.trans1 hU3 (by show (False) ∨ w.heap.size ≤ B1; omega)
 refine Wl_nil ?_
 refine W_ret ?_
 refine ret_ds rfl ?_
 refine lv_call (by simp) Try.call79 rfl (caught_ret _) ?_
 rintro e1 u1 w4 ⟨rfl, v1, rfl, rfl, hU4⟩
 have hzw4 := hU4.size
 replace HU := HU.trans0 hU4
 replace hb1 := hb1.upd0 hU4
 refine lv_nil (v := .int .i64 0) (rc1 Try.results55 rfl (cellIs Try.isAgg25 hb1)) ?_
 exact ⟨_, rfl, rfl, HU⟩

set_option maxRecDepth 100000 in
theorem check_no {a : Option Addr} {n c : Nat} {l : List Int} {R : Nat → Prop} (w : World) (hs : Sl w R 1 (.slice a n c) n (ints .i64 l)) (hn : n ≤ 17592186044415) (hr : ¬ Rt l) :
  Calls Try.prog 55 #[.slice a n c] w (Ret fun v w' => v = .int .i64 12 ∧ Upd No w w') := by
 have HU : Upd (fun b => False) w w := Upd.refl _ _
 have hl_hs := ilen hs
 have hc_hs := hs.cap.1
 replace hs := hs.tight
 refine calls_of_W Try.func55 rfl Try.ntmps55 (by simp) ?_
 refine W_seq ?_
 refine W_region ?_
 refine Wl_alloc (cs := [.int .i64 0]) Try.zeroValue25 rfl ?_
 intro B1 w1 hB1 hU1 hzz1 hb1
 have hzw1 := hU1.size
 replace hs := hs.upd0 hU1
 replace HU := HU.trans0 hU1
 refine Wl_nil ?_
 refine W_seq ?_
 refine W_region ?_
 refine Wl_defer2 rfl rfl ?_
 refine Wl_nil ?_
 refine W_seq ?_
 refine W_region ?_
 refine Wl_v (r_mv (v := .slice a n c) rfl) ?_
 refine Wl_callp (r_call1 rfl Try.call81 rfl) (of_no _ hs (by omega) (by omega)) ?_
 intro w2 hU2
 have hzw2 := hU2.size
 replace HU := HU.trans0 hU2
 replace hb1 := hb1.upd0 hU2
 refine pan_ds rfl ?_
 refine lv_call (by simp) Try.call79 rfl (caught_pan (S := fun g => False) (Φ := fun w' => True) _ hb1 Try.call80 (by show ¬ (False); first | omega | exact fun h => h) (check_clr _)) ?_
 rintro e1 u1 w3 ⟨rfl, v1, rfl, rfl, wq3, _, hUa3, hUb3, hbe3⟩
 have hzwq3 := hUa3.size
 replace HU := HU.trans0 hUa3
 have hzw3 := hUb3.size
 replace HU := HU.trans1 hUb3 (by show (False) ∨ w.heap.size ≤ B1; omega)
 refine lv_nil (v := .int .i64 12) (rc1 Try.results55 rfl (cellIs Try.isAgg25 hbe3)) ?_
 exact ⟨_, rfl, rfl, HU⟩

set_option maxRecDepth 100000 in
theorem codes_clr {b0 : Nat} {xb0 : Value} (w : World) (hbb0 : Blk w b0 [xb0]) :
  Calls Try.prog 83 #[.pointer (some ⟨b0, 0, none⟩)] w (Ret fun v w' => v = .tuple #[] ∧ Blk w' b0 [.slice none 0 0] ∧ Upd (fun g => g = b0) w w') := by
 have HU : Upd (fun b => b = b0) w w := Upd.refl _ _
 have hlb0 := hbb0.lt
 refine calls_of_W Try.func83 rfl Try.ntmps83 (by simp) ?_
 refine W_region ?_
 refine Wl_store (v := .slice none 0 0) (cs' := [.slice none 0 0]) Try.sizeOf53 rfl rfl rfl rfl hbb0 rfl rfl ?_
 intro w1 hU1 hzz1 hbb0n
 replace hbb0 := hbb0n; clear hbb0n
 have hzw1 := hU1.size
 replace HU := HU.trans1 hU1 (by show (b0 = b0) ∨ w.heap.size ≤ b0; omega)
 refine Wl_nil ?_
 refine nrm_end (v := .tuple #[]) rfl (res0 Try.results83) ?_
 exact ⟨_, rfl, rfl, hbb0, HU⟩

set_option maxRecDepth 100000 in
theorem codes_ok {a : Option Addr} {n c : Nat} {l : List Int} {R : Nat → Prop} (w : World) (hs : Sl w R 1 (.slice a n c) n (ints .i64 l)) (hn : n ≤ 17592186044415) (hr : Rt l) :
  Calls Try.prog 64 #[.slice a n c] w (Ret fun v w' => ∃ (a' : Option Addr) (c' : Nat), v = .tuple #[.slice a' n c', .int .i64 0] ∧ Own w' (fun g => w.heap.size ≤ g) 67 2 (.slice a' n c') n (rows encC (cds l)) ∧ Upd No w w') := by
 have HU : Upd (fun b => False) w w := Upd.refl _ _
 have hl_hs := ilen hs
 have hc_hs := hs.cap.1
 replace hs := hs.tight
 have h256 := hr.2.1
 refine calls_of_W Try.func64 rfl Try.ntmps64 (by simp) ?_
 refine W_seq ?_
 refine W_region ?_
 refine Wl_alloc (cs := [.slice none 0 0]) Try.zeroValue53 rfl ?_
 intro B1 w1 hB1 hU1 hzz1 hb1
 have hzw1 := hU1.size
 replace hs := hs.upd0 hU1
 replace HU := HU.trans0 hU1
 refine Wl_alloc (cs := [.int .i64 0]) Try.zeroValue25 rfl ?_
 intro B2 w2 hB2 hU2 hzz2 hb2
 have hzw2 := hU2.size
 replace hs := hs.upd0 hU2
 replace HU := HU.trans0 hU2
 replace hb1 := hb1.upd0 hU2
 refine Wl_nil ?_
 refine W_seq ?_
 refine W_region ?_
 refine Wl_v (r_mkf1 (v0 := .pointer (some ⟨B1, 0, none⟩)) rfl) ?_
 refine Wl_defer2 rfl rfl ?_
 refine Wl_nil ?_
 refine W_seq ?_
 refine W_region ?_
 refine Wl_v (r_mv (v := .slice a n c) rfl) ?_
 refine Wl_call (r_call1 rfl Try.call81 rfl) (of_ok _ hs (by omega) (by omega)) ?_
 rintro v w3 ⟨rfl, hS3, hU3⟩
 have hzw3 := hU3.size
 replace HU := HU.trans0 hU3
 replace hb1 := hb1.upd0 hU3
 replace hb2 := hb2.upd0 hU3
 have hl_hS3 := ilen hS3
 have hc_hS3 := hS3.cap.1
 refine Wl_call (r_call1 rfl Try.call84 rfl) (codes_spec _ hS3 (by omega) (by omega)) ?_
 rintro v w4 ⟨a4, c4, rfl, hO4, hU4⟩
 have hzw4 := hU4.size
 replace HU := HU.trans0 hU4
 replace hb1 := hb1.upd0 hU4
 replace hb2 := hb2.upd0 hU4
 replace hO4 := hO4.tight
 have hl_hO4 := rlen encC_len (by decide) hO4.sl
 have hc_hO4 := hO4.sl.cap.1
 refine Wl_store (v := .slice a4 n c4) (cs' := [.slice a4 n c4]) Try.sizeOf53 rfl rfl rfl rfl hb1 rfl rfl ?_
 intro w5 hU5 hzz5 hb1n
 replace hb1 := hb1n; clear hb1n
 have hzw5 := hU5.size
 replace HU := HU.trans1 hU5 (by show (False) ∨ w.heap.size ≤ B1; omega)
 replace hb2 := hb2.upd1 hU5 (by omega)
 replace hO4 := hO4.upd1 hU5 (by intro h1; have h3 : ((w3.heap.size ≤ B1) ∧ B1 < w4.heap.size) := h1; omega)
 refine Wl_store (v := .int .i64 0) (cs' := [.int .i64 0]) Try.sizeOf25 rfl rfl rfl rfl hb2 rfl rfl ?_
 intro w6 hU6 hzz6 hb2n
 replace hb2 := hb2n; clear hb2n
 have hzw6 := hU6.size
 replace HU := HU.trans1 hU6 (by show (False) ∨ w.heap.size ≤ B2; omega)
 replace hb1 := hb1.upd1 hU6 (by omega)
 replace hO4 := hO4.upd1 hU6 (by intro h1; have h3 : ((w3.heap.size ≤ B2) ∧ B2 < w4.heap.size) := h1; omega)
 refine Wl_nil ?_
 refine W_ret ?_
 refine ret_ds rfl ?_
 refine lv_call (by simp) Try.call79 rfl (caught_ret _) ?_
 rintro e1 u1 w7 ⟨rfl, v1, rfl, rfl, hU7⟩
 have hzw7 := hU7.size
 replace HU := HU.trans0 hU7
 replace hb1 := hb1.upd0 hU7
 replace hb2 := hb2.upd0 hU7
 replace hO4 := hO4.upd0 hU7
 refine lv_nil (v := .tuple #[.slice a4 n c4, .int .i64 0]) (rc2 Try.results64 rfl rfl (cellIs Try.isAgg53 hb1) (cellIs Try.isAgg25 hb2)) ?_
 exact ⟨_, rfl, a4, c4, rfl, (hO4.weak (by intro g hg; have h3 : ((w3.heap.size ≤ g) ∧ g < w4.heap.size) := hg; show w.heap.size ≤ g; omega)), HU⟩

set_option maxRecDepth 100000 in
theorem codes_no {a : Option Addr} {n c : Nat} {l : List Int} {R : Nat → Prop} (w : World) (hs : Sl w R 1 (.slice a n c) n (ints .i64 l)) (hn : n ≤ 17592186044415) (hr : ¬ Rt l) :
  Calls Try.prog 64 #[.slice a n c] w (Ret fun v w' => v = .tuple #[.slice none 0 0, .int .i64 12] ∧ Upd No w w') := by
 have HU : Upd (fun b => False) w w := Upd.refl _ _
 have hl_hs := ilen hs
 have hc_hs := hs.cap.1
 replace hs := hs.tight
 refine calls_of_W Try.func64 rfl Try.ntmps64 (by simp) ?_
 refine W_seq ?_
 refine W_region ?_
 refine Wl_alloc (cs := [.slice none 0 0]) Try.zeroValue53 rfl ?_
 intro B1 w1 hB1 hU1 hzz1 hb1
 have hzw1 := hU1.size
 replace hs := hs.upd0 hU1
 replace HU := HU.trans0 hU1
 refine Wl_alloc (cs := [.int .i64 0]) Try.zeroValue25 rfl ?_
 intro B2 w2 hB2 hU2 hzz2 hb2
 have hzw2 := hU2.size
 replace hs := hs.upd0 hU2
 replace HU := HU.trans0 hU2
 replace hb1 := hb1.upd0 hU2
 refine Wl_nil ?_
 refine W_seq ?_
 refine W_region ?_
 refine Wl_v (r_mkf1 (v0 := .pointer (some ⟨B1, 0, none⟩)) rfl) ?_
 refine Wl_defer2 rfl rfl ?_
 refine Wl_nil ?_
 refine W_seq ?_
 refine W_region ?_
 refine Wl_v (r_mv (v := .slice a n c) rfl) ?_
 refine Wl_callp (r_call1 rfl Try.call81 rfl) (of_no _ hs (by omega) (by omega)) ?_
 intro w3 hU3
 have hzw3 := hU3.size
 replace HU := HU.trans0 hU3
 replace hb1 := hb1.upd0 hU3
 replace hb2 := hb2.upd0 hU3
 refine pan_ds rfl ?_
 refine lv_call (by simp) Try.call79 rfl (caught_pan (S := fun g => g = B1) (Φ := fun w' => Blk w' B1 [.slice none 0 0]) _ hb2 Try.call83 (by show ¬ (B2 = B1); first | omega | exact fun h => h) (codes_clr _ hb1)) ?_
 rintro e1 u1 w4 ⟨rfl, v1, rfl, rfl, wq4, hz4_0, hUa4, hUb4, hbe4⟩
 have hzwq4 := hUa4.size
 replace HU := HU.trans hUa4 (by intro x hx; have hx2 : x = B1 := hx; show (False) ∨ w.heap.size ≤ x; omega)
 have hzw4 := hUb4.size
 replace HU := HU.trans1 hUb4 (by show (False) ∨ w.heap.size ≤ B2; omega)
 replace hz4_0 := hz4_0.upd1 hUb4 (by omega)
 refine lv_nil (v := .tuple #[.slice none 0 0, .int .i64 12]) (rc2 Try.results64 rfl rfl (cellIs Try.isAgg53 hz4_0) (cellIs Try.isAgg25 hbe4)) ?_
 exact ⟨_, rfl, rfl, HU⟩

end Go.Proofs.Ytilegaokfamfnaa
