/-
 Walks, printed by a small program of this project (gen.py).
-/
import Derived.Test.YtilegaokfamfnaaZj
set_option linter.unusedVariables false
set_option linter.unusedSimpArgs false
namespace Go.Proofs.Ytilegaokfamfnaa
open Go.Fw

set_option maxRecDepth 100000 in
theorem num17 {e : Int} (w : World)  :
  Calls Try.prog 30 #[.int .i64 e] w (Ret fun v w' => v = .int .i64 e ∧ Upd No w w') := by
 have HU : Upd (fun b => False) w w := Upd.refl _ _
 refine calls_of_W Try.func30 rfl Try.ntmps30 (by simp) ?_
 refine W_seq ?_
 refine W_region ?_
 refine Wl_v (r_as (v := .int .i64 0) rfl) ?_
 refine Wl_nil ?_
 refine W_seq ?_
 refine W_region ?_
 refine Wl_v (r_mv (v := .int .i64 e) rfl) ?_
 refine Wl_v (r_as (v := .int .i64 e) rfl) ?_
 refine Wl_nil ?_
 refine W_ret ?_
 refine ret_end (v := .int .i64 e) rfl (res1 Try.results30 rfl) ?_
 exact ⟨_, rfl, rfl, HU⟩

set_option maxRecDepth 100000 in
theorem tells17 {x e y no : Int} (w : World)  :
  Calls Try.prog 18 #[.int .i64 x, .int .i64 e, .int .i64 y, .int .i64 no] w (Ret fun v w' => v = .bool (decide ((x : Int) = y ∧ (e : Int) = no)) ∧ Upd No w w') := by
 have HU : Upd (fun b => False) w w := Upd.refl _ _
 refine calls_of_W Try.func18 rfl Try.ntmps18 (by simp) ?_
 refine W_seq ?_
 refine W_region ?_
 refine Wl_v (r_as (v := .bool false) rfl) ?_
 refine Wl_nil ?_
 refine W_seq ?_
 refine W_region ?_
 refine Wl_v (r_mv (v := .int .i64 x) rfl) ?_
 refine Wl_v (r_mv (v := .int .i64 y) rfl) ?_
 refine Wl_v (r_eq rfl rfl) ?_
 refine Wl_v (r_mv (v := .bool (decide (x = y))) rfl) ?_
 by_cases q1 : x = y
 ·rw [decide_eq_true q1]
  refine Wl_guard_t rfl ?_
  refine Wl_v (r_mv (v := .int .i64 e) rfl) ?_
  refine Wl_guard_t rfl ?_
  refine Wl_call (r_call1 rfl Try.call30 rfl) (num17 _ ) ?_
  rintro v w1 ⟨rfl, hU1⟩
  have hzw1 := hU1.size
  replace HU := HU.trans0 hU1
  refine Wl_guard_t rfl ?_
  refine Wl_v (r_mv (v := .int .i64 no) rfl) ?_
  refine Wl_guard_t rfl ?_
  refine Wl_v (r_eq rfl rfl) ?_
  refine Wl_v (r_pick_t (v := .bool (decide (e = no))) rfl rfl) ?_
  refine Wl_v (r_as (v := .bool (decide (e = no))) rfl) ?_
  refine Wl_nil ?_
  refine W_ret ?_
  refine ret_end (v := .bool (decide (e = no))) rfl (res1 Try.results18 rfl) ?_
  exact ⟨_, rfl, (vbool (by omega)), HU⟩
 ·rw [decide_eq_false q1]
  refine Wl_guard_f rfl ?_
  refine Wl_guard_f rfl ?_
  refine Wl_guard_f rfl ?_
  refine Wl_guard_f rfl ?_
  refine Wl_v (r_pick_f (v := .bool false) rfl rfl) ?_
  refine Wl_v (r_as (v := .bool false) rfl) ?_
  refine Wl_nil ?_
  refine W_ret ?_
  refine ret_end (v := .bool false) rfl (res1 Try.results18 rfl) ?_
  exact ⟨_, rfl, (vboolf (fun h => by omega)), HU⟩

set_option maxRecDepth 100000 in
theorem is17 {a : Option Addr} {n c : Nat} {x y : List Int} {e no : Int} (w : World) (hs : Sl w (fun g => g < w.heap.size) 1 (.slice a n c) n (ints .u8 x)) (hbx : Byt x) (hby : Byt y) :
  Calls Try.prog 14 #[.slice a n c, .int .i64 e, .string (strOfNums y), .int .i64 no] w (Ret fun v w' => v = .bool (decide ((x : List Int) = y ∧ (e : Int) = no)) ∧ Upd No w w') := by
 have HU : Upd (fun b => False) w w := Upd.refl _ _
 have hl_hs := ilen hs
 have hc_hs := hs.cap.1
 refine calls_of_W Try.func14 rfl Try.ntmps14 (by simp) ?_
 refine W_seq ?_
 refine W_region ?_
 refine Wl_v (r_as (v := .bool false) rfl) ?_
 refine Wl_nil ?_
 refine W_seq ?_
 refine W_region ?_
 refine Wl_v (r_mv (v := .slice a n c) rfl) ?_
 refine Wl_bstr Try.underlying23 Try.underlying5 Try.underlying9 rfl hs ?_
 refine Wl_v (r_mv (v := .string (strOfNums y)) rfl) ?_
 refine Wl_v (r_eqstr (show Byt x from hbx) hby rfl rfl) ?_
 refine Wl_v (r_mv (v := .bool (decide (x = y))) rfl) ?_
 by_cases q1 : x = y
 ·rw [decide_eq_true q1]
  refine Wl_guard_t rfl ?_
  refine Wl_v (r_mv (v := .int .i64 e) rfl) ?_
  refine Wl_guard_t rfl ?_
  refine Wl_call (r_call1 rfl Try.call30 rfl) (num17 _ ) ?_
  rintro v w1 ⟨rfl, hU1⟩
  have hzw1 := hU1.size
  replace HU := HU.trans0 hU1
  refine Wl_guard_t rfl ?_
  refine Wl_v (r_mv (v := .int .i64 no) rfl) ?_
  refine Wl_guard_t rfl ?_
  refine Wl_v (r_eq rfl rfl) ?_
  refine Wl_v (r_pick_t (v := .bool (decide (e = no))) rfl rfl) ?_
  refine Wl_v (r_as (v := .bool (decide (e = no))) rfl) ?_
  refine Wl_nil ?_
  refine W_ret ?_
  refine ret_end (v := .bool (decide (e = no))) rfl (res1 Try.results14 rfl) ?_
  exact ⟨_, rfl, (vbool (by constructor <;> intro h <;> first | exact ⟨q1, h⟩ | exact h.2)), HU⟩
 ·rw [decide_eq_false q1]
  refine Wl_guard_f rfl ?_
  refine Wl_guard_f rfl ?_
  refine Wl_guard_f rfl ?_
  refine Wl_guard_f rfl ?_
  refine Wl_v (r_pick_f (v := .bool false) rfl rfl) ?_
  refine Wl_v (r_as (v := .bool false) rfl) ?_
  refine Wl_nil ?_
  refine W_ret ?_
  refine ret_end (v := .bool false) rfl (res1 Try.results14 rfl) ?_
  exact ⟨_, rfl, (vboolf (fun h => q1 h.1)), HU⟩

theorem w17_rt : Rt [2, 1, 0, 2] := by decide +kernel
theorem w17_cl : Cl [43] := by decide +kernel
theorem w17_nb : nb [2, 1, 0, 2] (wn [43]) (tbt [43]) = 3 := by decide +kernel
theorem w17_it : ∀ i, i < 3 → ((st [2, 1, 0, 2] (wn [43]) (tbt [43]) (i + 1) : Nat) : Int) = ([4, 2, 0] : List Int).getD i 0 ∧ (nd [2, 1, 0, 2] (wn [43]) (st [2, 1, 0, 2] (wn [43]) (tbt [43]) i)).1 = ([1, 0, 3] : List Int).getD i 0 := by decide +kernel

set_option maxHeartbeats 4000000 in
set_option maxRecDepth 100000 in
theorem works17  (w : World)  :
  Calls Try.prog 11 #[] w (Ret fun v w' => v = .bool true ∧ Upd No w w') := by
 have HU : Upd (fun b => False) w w := Upd.refl _ _
 refine calls_of_W Try.func11 rfl Try.ntmps11 (by simp) ?_
 refine W_seq ?_
 refine W_region ?_
 refine Wl_alloc (cs := [.bool false]) Try.zeroValue4 rfl ?_
 intro B1 w1 hB1 hU1 hzz1 hb1
 have hzw1 := hU1.size
 replace HU := HU.trans0 hU1
 refine Wl_nil ?_
 refine W_seq ?_
 refine W_region ?_
 refine Wl_lit (pv := [(0, .int .i64 2), (1, .int .i64 1), (2, .int .i64 0), (3, .int .i64 2)]) (cs := [.int .i64 2, .int .i64 1, .int .i64 0, .int .i64 2]) Try.underlying22 Try.sizeOf3 Try.zeroValue3 (by decide) (by decide) (by simp only [List.map_toArray, List.map_cons, List.map_nil] <;> rfl) (by kernel_rfl) rfl (by decide) ?_
 intro B2 w2 hB2 hU2 hzz2 hs2
 have hzw2 := hU2.size
 replace HU := HU.trans0 hU2
 replace hb1 := hb1.upd0 hU2
 replace hs2 : Own w2 (Is B2) 3 1 (.slice (some ⟨B2, 0, none⟩) 4 4) 4 (ints .i64 [2, 1, 0, 2]) := hs2
 replace hs2 : Own w2 (Is B2) 3 1 (.slice (some ⟨B2, 0, none⟩) 4 4) 4 (ints .i64 [2, 1, 0, 2]) := hs2
 refine Wl_lit (pv := [(0, .int .u8 1), (1, .int .u8 0), (2, .int .u8 3)]) (cs := [.int .u8 1, .int .u8 0, .int .u8 3]) Try.underlying23 Try.sizeOf5 Try.zeroValue5 (by decide) (by decide) (by simp only [List.map_toArray, List.map_cons, List.map_nil] <;> rfl) (by kernel_rfl) rfl (by decide) ?_
 intro B3 w3 hB3 hU3 hzz3 hs3
 have hzw3 := hU3.size
 replace HU := HU.trans0 hU3
 replace hb1 := hb1.upd0 hU3
 replace hs2 := hs2.upd0 hU3
 replace hs3 : Own w3 (Is B3) 5 1 (.slice (some ⟨B3, 0, none⟩) 3 3) 3 (ints .u8 [1, 0, 3]) := hs3
 replace hs3 : Own w3 (Is B3) 5 1 (.slice (some ⟨B3, 0, none⟩) 3 3) 3 (ints .u8 [1, 0, 3]) := hs3
 refine Wl_alloc (cs := [.slice none 0 0]) Try.zeroValue23 rfl ?_
 intro B4 w4 hB4 hU4 hzz4 hb4
 have hzw4 := hU4.size
 replace HU := HU.trans0 hU4
 replace hb1 := hb1.upd0 hU4
 replace hs2 := hs2.upd0 hU4
 replace hs3 := hs3.upd0 hU4
 refine Wl_v (r_as (v := .slice (some ⟨B2, 0, none⟩) 4 4) rfl) ?_
 refine Wl_store (v := .slice (some ⟨B3, 0, none⟩) 3 3) (cs' := [.slice (some ⟨B3, 0, none⟩) 3 3]) Try.sizeOf23 rfl rfl rfl rfl hb4 rfl rfl ?_
 intro w5 hU5 hzz5 hb4n
 replace hb4 := hb4n; clear hb4n
 have hzw5 := hU5.size
 replace HU := HU.trans1 hU5 (by show (False) ∨ w.heap.size ≤ B4; omega)
 replace hb1 := hb1.upd1 hU5 (by omega)
 replace hs2 := hs2.upd1 hU5 (by intro h1; have h3 : B4 = B2 := h1; omega)
 replace hs3 := hs3.upd1 hU5 (by intro h1; have h3 : B4 = B3 := h1; omega)
 refine Wl_nil ?_
 refine W_seq ?_
 refine W_region ?_
 refine Wl_v (r_mv (v := .slice (some ⟨B2, 0, none⟩) 4 4) rfl) ?_
 refine Wl_load (v := .slice (some ⟨B3, 0, none⟩) 3 3) Try.isAgg23 rfl hb4 rfl ?_
 refine Wl_call (r_call2 rfl Try.call12 rfl rfl) (oenc_spec _ hs2.sl (by omega) hs3.sl.any (by intro x hx; simp at hx; omega) (by omega)) ?_
 rintro v w6 ⟨a6, m6, c6, rfl, hO6, hU6⟩
 have hzw6 := hU6.size
 replace HU := HU.trans0 hU6
 replace hb1 := hb1.upd0 hU6
 replace hs2 := hs2.upd0 hU6
 replace hs3 := hs3.upd0 hU6
 replace hb4 := hb4.upd0 hU6
 replace hO6 := hO6.tight
 have hl_hO6 := ilen hO6.sl
 have hc_hO6 := hO6.sl.cap.1
 replace hO6 := hO6.icong (show (ecF [2, 1, 0, 2] [1, 0, 3]).1 = [43] from by decide +kernel)
 have hz_hO6 : m6 = 1 := (ilen hO6.sl).symm
 rw [show (ecF [2, 1, 0, 2] [1, 0, 3]).2 = 0 from by decide +kernel]
 refine Wl_v (r_mv (v := .tuple #[.slice a6 m6 c6, .int .i64 0]) rfl) ?_
 refine Wl_v (r_ext (v := .slice a6 m6 c6) rfl rfl) ?_
 refine Wl_v (r_ext (v := .int .i64 0) rfl rfl) ?_
 refine Wl_v (r_as (v := .slice a6 m6 c6) rfl) ?_
 refine Wl_v (r_as (v := .int .i64 0) rfl) ?_
 refine Wl_nil ?_
 refine W_seq ?_
 refine W_region ?_
 refine Wl_v (r_mv (v := .slice (some ⟨B2, 0, none⟩) 4 4) rfl) ?_
 refine Wl_load (v := .slice (some ⟨B3, 0, none⟩) 3 3) Try.isAgg23 rfl hb4 rfl ?_
 refine Wl_call (r_call2 rfl Try.call15 rfl rfl) (obl_spec _ hs2.sl (by omega) hs3.sl.any (by intro x hx; simp at hx; omega) (by omega)) ?_
 rintro v w7 ⟨rfl, hU7⟩
 have hzw7 := hU7.size
 replace HU := HU.trans0 hU7
 replace hb1 := hb1.upd0 hU7
 replace hs2 := hs2.upd0 hU7
 replace hs3 := hs3.upd0 hU7
 replace hb4 := hb4.upd0 hU7
 replace hO6 := hO6.upd0 hU7
 rw [show (blF [2, 1, 0, 2] [1, 0, 3]).1 = 5 from by decide +kernel]
 rw [show (blF [2, 1, 0, 2] [1, 0, 3]).2 = 0 from by decide +kernel]
 refine Wl_v (r_mv (v := .tuple #[.int .i64 5, .int .i64 0]) rfl) ?_
 refine Wl_v (r_ext (v := .int .i64 5) rfl rfl) ?_
 refine Wl_v (r_ext (v := .int .i64 0) rfl rfl) ?_
 refine Wl_v (r_as (v := .int .i64 5) rfl) ?_
 refine Wl_v (r_as (v := .int .i64 0) rfl) ?_
 refine Wl_nil ?_
 refine W_seq ?_
 refine W_region ?_
 refine Wl_v (r_mv (v := .slice (some ⟨B2, 0, none⟩) 4 4) rfl) ?_
 refine Wl_call (r_call2 rfl Try.call12 rfl rfl) (oenc_spec (b := []) _ hs2.sl (by omega) (Sl.nil _ _ _) byt_nil (by omega)) ?_
 rintro v w8 ⟨a8, m8, c8, rfl, hO8, hU8⟩
 have hzw8 := hU8.size
 replace HU := HU.trans0 hU8
 replace hb1 := hb1.upd0 hU8
 replace hs2 := hs2.upd0 hU8
 replace hs3 := hs3.upd0 hU8
 replace hb4 := hb4.upd0 hU8
 replace hO6 := hO6.upd0 hU8
 replace hO8 := hO8.tight
 have hl_hO8 := ilen hO8.sl
 have hc_hO8 := hO8.sl.cap.1
 replace hO8 := hO8.icong (show (ecF [2, 1, 0, 2] []).1 = [1] from by decide +kernel)
 have hz_hO8 : m8 = 1 := (ilen hO8.sl).symm
 rw [show (ecF [2, 1, 0, 2] []).2 = 0 from by decide +kernel]
 refine Wl_v (r_mv (v := .tuple #[.slice a8 m8 c8, .int .i64 0]) rfl) ?_
 refine Wl_v (r_ext (v := .slice a8 m8 c8) rfl rfl) ?_
 refine Wl_v (r_ext (v := .int .i64 0) rfl rfl) ?_
 refine Wl_v (r_as (v := .slice a8 m8 c8) rfl) ?_
 refine Wl_v (r_as (v := .int .i64 0) rfl) ?_
 refine Wl_nil ?_
 refine W_seq ?_
 refine W_region ?_
 refine Wl_v (r_mv (v := .slice (some ⟨B2, 0, none⟩) 4 4) rfl) ?_
 refine Wl_lit (pv := [(0, .int .u8 2)]) (cs := [.int .u8 2]) Try.underlying23 Try.sizeOf5 Try.zeroValue5 (by decide) (by decide) (by simp only [List.map_toArray, List.map_cons, List.map_nil] <;> rfl) (by kernel_rfl) rfl (by decide) ?_
 intro B9 w9 hB9 hU9 hzz9 hs9
 have hzw9 := hU9.size
 replace HU := HU.trans0 hU9
 replace hb1 := hb1.upd0 hU9
 replace hs2 := hs2.upd0 hU9
 replace hs3 := hs3.upd0 hU9
 replace hb4 := hb4.upd0 hU9
 replace hO6 := hO6.upd0 hU9
 replace hO8 := hO8.upd0 hU9
 replace hs9 : Own w9 (Is B9) 5 1 (.slice (some ⟨B9, 0, none⟩) 1 1) 1 (ints .u8 [2]) := hs9
 replace hs9 : Own w9 (Is B9) 5 1 (.slice (some ⟨B9, 0, none⟩) 1 1) 1 (ints .u8 [2]) := hs9
 refine Wl_call (r_call2 rfl Try.call12 rfl rfl) (oenc_spec _ hs2.sl (by omega) hs9.sl.any (by intro x hx; simp at hx; omega) (by omega)) ?_
 rintro v w10 ⟨a10, m10, c10, rfl, hO10, hU10⟩
 have hzw10 := hU10.size
 replace HU := HU.trans0 hU10
 replace hb1 := hb1.upd0 hU10
 replace hs2 := hs2.upd0 hU10
 replace hs3 := hs3.upd0 hU10
 replace hb4 := hb4.upd0 hU10
 replace hO6 := hO6.upd0 hU10
 replace hO8 := hO8.upd0 hU10
 replace hO10 := hO10.tight
 have hl_hO10 := ilen hO10.sl
 have hc_hO10 := hO10.sl.cap.1
 replace hO10 := hO10.icong (show (ecF [2, 1, 0, 2] [2]).1 = [] from by decide +kernel)
 have hz_hO10 : m10 = 0 := (ilen hO10.sl).symm
 rw [show (ecF [2, 1, 0, 2] [2]).2 = 2 from by decide +kernel]
 refine Wl_v (r_mv (v := .tuple #[.slice a10 m10 c10, .int .i64 2]) rfl) ?_
 refine Wl_v (r_ext (v := .slice a10 m10 c10) rfl rfl) ?_
 refine Wl_v (r_ext (v := .int .i64 2) rfl rfl) ?_
 refine Wl_v (r_as (v := .slice a10 m10 c10) rfl) ?_
 refine Wl_v (r_as (v := .int .i64 2) rfl) ?_
 refine Wl_nil ?_
 refine W_seq ?_
 refine W_region ?_
 refine Wl_v (r_mv (v := .slice (some ⟨B2, 0, none⟩) 4 4) rfl) ?_
 refine Wl_load (v := .slice (some ⟨B3, 0, none⟩) 3 3) Try.isAgg23 rfl hb4 rfl ?_
 refine Wl_call (r_call2 rfl Try.call16 rfl rfl) (osz_spec _ hs2.sl (by omega) hs3.sl.any (by intro x hx; simp at hx; omega) (by omega)) ?_
 rintro v w11 ⟨rfl, hU11⟩
 have hzw11 := hU11.size
 replace HU := HU.trans0 hU11
 replace hb1 := hb1.upd0 hU11
 replace hs2 := hs2.upd0 hU11
 replace hs3 := hs3.upd0 hU11
 replace hb4 := hb4.upd0 hU11
 replace hO6 := hO6.upd0 hU11
 replace hO8 := hO8.upd0 hU11
 replace hO10 := hO10.upd0 hU11
 rw [show (if (blF [2, 1, 0, 2] [1, 0, 3]).2 ≠ 0 then 0 else (blF [2, 1, 0, 2] [1, 0, 3]).1 / 8 + 1) = 1 from by decide +kernel]
 rw [show (blF [2, 1, 0, 2] [1, 0, 3]).2 = 0 from by decide +kernel]
 refine Wl_v (r_mv (v := .tuple #[.int .i64 1, .int .i64 0]) rfl) ?_
 refine Wl_v (r_ext (v := .int .i64 1) rfl rfl) ?_
 refine Wl_v (r_ext (v := .int .i64 0) rfl rfl) ?_
 refine Wl_v (r_as (v := .int .i64 1) rfl) ?_
 refine Wl_v (r_as (v := .int .i64 0) rfl) ?_
 refine Wl_nil ?_
 refine W_seq ?_
 refine W_seq ?_
 refine W_region ?_
 refine Wl_v (r_mv (v := .slice a6 m6 c6) rfl) ?_
 refine Wl_v (r_mv (v := .int .i64 0) rfl) ?_
 refine Wl_call (r_call4 rfl Try.call14 rfl rfl rfl rfl) (is17 (y := [43]) _ hO6.sl.any (by intro x hx; simp at hx; omega) (by intro x hx; simp at hx; omega)) ?_
 rintro v w12 ⟨rfl, hU12⟩
 have hzw12 := hU12.size
 replace HU := HU.trans0 hU12
 replace hb1 := hb1.upd0 hU12
 replace hs2 := hs2.upd0 hU12
 replace hs3 := hs3.upd0 hU12
 replace hb4 := hb4.upd0 hU12
 replace hO6 := hO6.upd0 hU12
 replace hO8 := hO8.upd0 hU12
 replace hO10 := hO10.upd0 hU12
 refine Wl_v (r_not rfl) ?_
 refine Wl_v (r_mv (v := .bool (!decide (([43] : List Int) = [43] ∧ (0 : Int) = 0))) rfl) ?_
 have q1 : ([43] : List Int) = [43] ∧ (0 : Int) = 0 := ⟨rfl, rfl⟩
 rw [decide_eq_true q1]
 simp only [Bool.not_true, Bool.not_false]
 refine Wl_guard_t rfl ?_
 refine Wl_v (r_mv (v := .int .i64 5) rfl) ?_
 refine Wl_guard_t rfl ?_
 refine Wl_v (r_mv (v := .int .i64 0) rfl) ?_
 refine Wl_guard_t rfl ?_
 refine Wl_call (r_call4 rfl Try.call18 rfl rfl rfl rfl) (tells17 _ ) ?_
 rintro v w13 ⟨rfl, hU13⟩
 have hzw13 := hU13.size
 replace HU := HU.trans0 hU13
 replace hb1 := hb1.upd0 hU13
 replace hs2 := hs2.upd0 hU13
 replace hs3 := hs3.upd0 hU13
 replace hb4 := hb4.upd0 hU13
 replace hO6 := hO6.upd0 hU13
 replace hO8 := hO8.upd0 hU13
 replace hO10 := hO10.upd0 hU13
 refine Wl_guard_t rfl ?_
 refine Wl_v (r_not rfl) ?_
 refine Wl_v (r_pick_f (v := .bool (!decide ((5 : Int) = 5 ∧ (0 : Int) = 0))) rfl rfl) ?_
 refine Wl_v (r_mv (v := .bool (!decide ((5 : Int) = 5 ∧ (0 : Int) = 0))) rfl) ?_
 have q2 : (5 : Int) = 5 ∧ (0 : Int) = 0 := ⟨rfl, rfl⟩
 rw [decide_eq_true q2]
 simp only [Bool.not_true, Bool.not_false]
 refine Wl_guard_t rfl ?_
 refine Wl_v (r_mv (v := .slice a8 m8 c8) rfl) ?_
 refine Wl_guard_t rfl ?_
 refine Wl_v (r_mv (v := .int .i64 0) rfl) ?_
 refine Wl_guard_t rfl ?_
 refine Wl_call (r_call4 rfl Try.call14 rfl rfl rfl rfl) (is17 (y := [1]) _ hO8.sl.any (by intro x hx; simp at hx; omega) (by intro x hx; simp at hx; omega)) ?_
 rintro v w14 ⟨rfl, hU14⟩
 have hzw14 := hU14.size
 replace HU := HU.trans0 hU14
 replace hb1 := hb1.upd0 hU14
 replace hs2 := hs2.upd0 hU14
 replace hs3 := hs3.upd0 hU14
 replace hb4 := hb4.upd0 hU14
 replace hO6 := hO6.upd0 hU14
 replace hO10 := hO10.upd0 hU14
 refine Wl_guard_t rfl ?_
 refine Wl_v (r_not rfl) ?_
 refine Wl_v (r_pick_f (v := .bool (!decide (([1] : List Int) = [1] ∧ (0 : Int) = 0))) rfl rfl) ?_
 refine Wl_v (r_mv (v := .bool (!decide (([1] : List Int) = [1] ∧ (0 : Int) = 0))) rfl) ?_
 have q3 : ([1] : List Int) = [1] ∧ (0 : Int) = 0 := ⟨rfl, rfl⟩
 rw [decide_eq_true q3]
 simp only [Bool.not_true, Bool.not_false]
 refine Wl_guard_t rfl ?_
 refine Wl_v (r_mv (v := .slice a10 m10 c10) rfl) ?_
 refine Wl_guard_t rfl ?_
 refine Wl_v (r_mv (v := .int .i64 2) rfl) ?_
 refine Wl_guard_t rfl ?_
 refine Wl_call (r_call4 rfl Try.call14 rfl rfl rfl rfl) (is17 (y := []) _ hO10.sl.any byt_nil byt_nil) ?_
 rintro v w15 ⟨rfl, hU15⟩
 have hzw15 := hU15.size
 replace HU := HU.trans0 hU15
 replace hb1 := hb1.upd0 hU15
 replace hs2 := hs2.upd0 hU15
 replace hs3 := hs3.upd0 hU15
 replace hb4 := hb4.upd0 hU15
 replace hO6 := hO6.upd0 hU15
 refine Wl_guard_t rfl ?_
 refine Wl_v (r_not rfl) ?_
 refine Wl_v (r_pick_f (v := .bool (!decide (([] : List Int) = [] ∧ (2 : Int) = 2))) rfl rfl) ?_
 refine Wl_v (r_mv (v := .bool (!decide (([] : List Int) = [] ∧ (2 : Int) = 2))) rfl) ?_
 have q4 : ([] : List Int) = [] ∧ (2 : Int) = 2 := ⟨rfl, rfl⟩
 rw [decide_eq_true q4]
 simp only [Bool.not_true, Bool.not_false]
 refine Wl_guard_t rfl ?_
 refine Wl_v (r_mv (v := .int .i64 1) rfl) ?_
 refine Wl_guard_t rfl ?_
 refine Wl_v (r_mv (v := .int .i64 0) rfl) ?_
 refine Wl_guard_t rfl ?_
 refine Wl_call (r_call4 rfl Try.call18 rfl rfl rfl rfl) (tells17 _ ) ?_
 rintro v w16 ⟨rfl, hU16⟩
 have hzw16 := hU16.size
 replace HU := HU.trans0 hU16
 replace hb1 := hb1.upd0 hU16
 replace hs2 := hs2.upd0 hU16
 replace hs3 := hs3.upd0 hU16
 replace hb4 := hb4.upd0 hU16
 replace hO6 := hO6.upd0 hU16
 refine Wl_guard_t rfl ?_
 refine Wl_v (r_not rfl) ?_
 refine Wl_v (r_pick_f (v := .bool (!decide ((1 : Int) = 1 ∧ (0 : Int) = 0))) rfl rfl) ?_
 refine Wl_nil ?_
 have q5 : (1 : Int) = 1 ∧ (0 : Int) = 0 := ⟨rfl, rfl⟩
 rw [decide_eq_true q5]
 simp only [Bool.not_true, Bool.not_false]
 refine W_cond_f rfl ?_
 refine W_skip ?_
 refine W_seq ?_
 refine W_region ?_
 refine Wl_v (r_mv (v := .slice (some ⟨B2, 0, none⟩) 4 4) rfl) ?_
 refine Wl_v (r_mv (v := .slice a6 m6 c6) rfl) ?_
 refine Wl_call (r_call3 rfl Try.call19 rfl rfl rfl) (odec _ hs2.sl (by omega) hO6.sl.any (by intro x hx; simp at hx; omega) (by omega) (by omega)) ?_
 rintro v w17 ⟨a17, m17, c17, rfl, hO17, hU17⟩
 have hzw17 := hU17.size
 replace HU := HU.trans0 hU17
 replace hb1 := hb1.upd0 hU17
 replace hs2 := hs2.upd0 hU17
 replace hs3 := hs3.upd0 hU17
 replace hb4 := hb4.upd0 hU17
 replace hO6 := hO6.upd0 hU17
 replace hO17 := hO17.tight
 have hl_hO17 := ilen hO17.sl
 have hc_hO17 := hO17.sl.cap.1
 replace hO17 := hO17.icong (show (dcF [2, 1, 0, 2] [43] 3).1 = [1, 0, 3] from by decide +kernel)
 have hz_hO17 : m17 = 3 := (ilen hO17.sl).symm
 rw [show (dcF [2, 1, 0, 2] [43] 3).2 = 0 from by decide +kernel]
 refine Wl_v (r_mv (v := .tuple #[.slice a17 m17 c17, .int .i64 0]) rfl) ?_
 refine Wl_v (r_ext (v := .slice a17 m17 c17) rfl rfl) ?_
 refine Wl_v (r_ext (v := .int .i64 0) rfl rfl) ?_
 refine Wl_v (r_as (v := .slice a17 m17 c17) rfl) ?_
 refine Wl_v (r_as (v := .int .i64 0) rfl) ?_
 refine Wl_nil ?_
 refine W_seq ?_
 refine W_region ?_
 refine Wl_v (r_mv (v := .slice (some ⟨B2, 0, none⟩) 4 4) rfl) ?_
 refine Wl_v (r_mv (v := .slice a6 m6 c6) rfl) ?_
 refine Wl_call (r_call3 rfl Try.call19 rfl rfl rfl) (odec _ hs2.sl (by omega) hO6.sl.any (by intro x hx; simp at hx; omega) (by omega) (by omega)) ?_
 rintro v w18 ⟨a18, m18, c18, rfl, hO18, hU18⟩
 have hzw18 := hU18.size
 replace HU := HU.trans0 hU18
 replace hb1 := hb1.upd0 hU18
 replace hs2 := hs2.upd0 hU18
 replace hs3 := hs3.upd0 hU18
 replace hb4 := hb4.upd0 hU18
 replace hO6 := hO6.upd0 hU18
 replace hO17 := hO17.upd0 hU18
 replace hO18 := hO18.tight
 have hl_hO18 := ilen hO18.sl
 have hc_hO18 := hO18.sl.cap.1
 replace hO18 := hO18.icong (show (dcF [2, 1, 0, 2] [43] 2).1 = [] from by decide +kernel)
 have hz_hO18 : m18 = 0 := (ilen hO18.sl).symm
 rw [show (dcF [2, 1, 0, 2] [43] 2).2 = 14 from by decide +kernel]
 refine Wl_v (r_mv (v := .tuple #[.slice a18 m18 c18, .int .i64 14]) rfl) ?_
 refine Wl_v (r_ext (v := .slice a18 m18 c18) rfl rfl) ?_
 refine Wl_v (r_ext (v := .int .i64 14) rfl rfl) ?_
 refine Wl_v (r_as (v := .slice a18 m18 c18) rfl) ?_
 refine Wl_v (r_as (v := .int .i64 14) rfl) ?_
 refine Wl_nil ?_
 refine W_seq ?_
 refine W_region ?_
 refine Wl_v (r_mv (v := .slice (some ⟨B2, 0, none⟩) 4 4) rfl) ?_
 refine Wl_v (r_mv (v := .slice a6 m6 c6) rfl) ?_
 refine Wl_call (r_call3 rfl Try.call19 rfl rfl rfl) (odec _ hs2.sl (by omega) hO6.sl.any (by intro x hx; simp at hx; omega) (by omega) (by omega)) ?_
 rintro v w19 ⟨a19, m19, c19, rfl, hO19, hU19⟩
 have hzw19 := hU19.size
 replace HU := HU.trans0 hU19
 replace hb1 := hb1.upd0 hU19
 replace hs2 := hs2.upd0 hU19
 replace hs3 := hs3.upd0 hU19
 replace hb4 := hb4.upd0 hU19
 replace hO6 := hO6.upd0 hU19
 replace hO17 := hO17.upd0 hU19
 replace hO18 := hO18.upd0 hU19
 replace hO19 := hO19.tight
 have hl_hO19 := ilen hO19.sl
 have hc_hO19 := hO19.sl.cap.1
 replace hO19 := hO19.icong (show (dcF [2, 1, 0, 2] [43] 4).1 = [] from by decide +kernel)
 have hz_hO19 : m19 = 0 := (ilen hO19.sl).symm
 rw [show (dcF [2, 1, 0, 2] [43] 4).2 = 14 from by decide +kernel]
 refine Wl_v (r_mv (v := .tuple #[.slice a19 m19 c19, .int .i64 14]) rfl) ?_
 refine Wl_v (r_ext (v := .slice a19 m19 c19) rfl rfl) ?_
 refine Wl_v (r_ext (v := .int .i64 14) rfl rfl) ?_
 refine Wl_v (r_as (v := .slice a19 m19 c19) rfl) ?_
 refine Wl_v (r_as (v := .int .i64 14) rfl) ?_
 refine Wl_nil ?_
 refine W_seq ?_
 refine W_region ?_
 refine Wl_v (r_mv (v := .slice (some ⟨B2, 0, none⟩) 4 4) rfl) ?_
 refine Wl_v (r_mv (v := .slice a6 m6 c6) rfl) ?_
 refine Wl_call (r_call2 rfl Try.call21 rfl rfl) (octs _ hs2.sl (by omega) hO6.sl.any (by intro x hx; simp at hx; omega) (by omega)) ?_
 rintro v w20 ⟨rfl, hU20⟩
 have hzw20 := hU20.size
 replace HU := HU.trans0 hU20
 replace hb1 := hb1.upd0 hU20
 replace hs2 := hs2.upd0 hU20
 replace hs3 := hs3.upd0 hU20
 replace hb4 := hb4.upd0 hU20
 replace hO6 := hO6.upd0 hU20
 replace hO17 := hO17.upd0 hU20
 replace hO18 := hO18.upd0 hU20
 replace hO19 := hO19.upd0 hU20
 rw [show (ctF [2, 1, 0, 2] [43]).1 = 3 from by decide +kernel]
 rw [show (ctF [2, 1, 0, 2] [43]).2 = 0 from by decide +kernel]
 refine Wl_v (r_mv (v := .tuple #[.int .i64 3, .int .i64 0]) rfl) ?_
 refine Wl_v (r_ext (v := .int .i64 3) rfl rfl) ?_
 refine Wl_v (r_ext (v := .int .i64 0) rfl rfl) ?_
 refine Wl_v (r_as (v := .int .i64 3) rfl) ?_
 refine Wl_v (r_as (v := .int .i64 0) rfl) ?_
 refine Wl_nil ?_
 refine W_seq ?_
 refine W_region ?_
 refine Wl_v (r_mv (v := .slice (some ⟨B2, 0, none⟩) 4 4) rfl) ?_
 refine Wl_v (r_mv (v := .slice a6 m6 c6) rfl) ?_
 refine Wl_call (r_call3 rfl Try.call23 rfl rfl rfl) (opfx _ hs2.sl (by omega) hO6.sl.any (by intro x hx; simp at hx; omega) (by omega) (by omega)) ?_
 rintro v w21 ⟨a21, m21, c21, rfl, hO21, hU21⟩
 have hzw21 := hU21.size
 replace HU := HU.trans0 hU21
 replace hb1 := hb1.upd0 hU21
 replace hs2 := hs2.upd0 hU21
 replace hs3 := hs3.upd0 hU21
 replace hb4 := hb4.upd0 hU21
 replace hO6 := hO6.upd0 hU21
 replace hO17 := hO17.upd0 hU21
 replace hO18 := hO18.upd0 hU21
 replace hO19 := hO19.upd0 hU21
 replace hO21 := hO21.tight
 have hl_hO21 := ilen hO21.sl
 have hc_hO21 := hO21.sl.cap.1
 replace hO21 := hO21.icong (show (pfF [2, 1, 0, 2] [43] 2).1 = [1, 0] from by decide +kernel)
 have hz_hO21 : m21 = 2 := (ilen hO21.sl).symm
 rw [show (pfF [2, 1, 0, 2] [43] 2).2 = 0 from by decide +kernel]
 refine Wl_v (r_mv (v := .tuple #[.slice a21 m21 c21, .int .i64 0]) rfl) ?_
 refine Wl_v (r_ext (v := .slice a21 m21 c21) rfl rfl) ?_
 refine Wl_v (r_ext (v := .int .i64 0) rfl rfl) ?_
 refine Wl_v (r_as (v := .slice a21 m21 c21) rfl) ?_
 refine Wl_v (r_as (v := .int .i64 0) rfl) ?_
 refine Wl_nil ?_
 refine W_seq ?_
 refine W_seq ?_
 refine W_region ?_
 refine Wl_v (r_mv (v := .slice a17 m17 c17) rfl) ?_
 refine Wl_v (r_mv (v := .int .i64 0) rfl) ?_
 refine Wl_call (r_call4 rfl Try.call14 rfl rfl rfl rfl) (is17 (y := [1, 0, 3]) _ hO17.sl.any (by intro x hx; simp at hx; omega) (by intro x hx; simp at hx; omega)) ?_
 rintro v w22 ⟨rfl, hU22⟩
 have hzw22 := hU22.size
 replace HU := HU.trans0 hU22
 replace hb1 := hb1.upd0 hU22
 replace hs2 := hs2.upd0 hU22
 replace hs3 := hs3.upd0 hU22
 replace hb4 := hb4.upd0 hU22
 replace hO6 := hO6.upd0 hU22
 replace hO18 := hO18.upd0 hU22
 replace hO19 := hO19.upd0 hU22
 replace hO21 := hO21.upd0 hU22
 refine Wl_v (r_not rfl) ?_
 refine Wl_v (r_mv (v := .bool (!decide (([1, 0, 3] : List Int) = [1, 0, 3] ∧ (0 : Int) = 0))) rfl) ?_
 have q6 : ([1, 0, 3] : List Int) = [1, 0, 3] ∧ (0 : Int) = 0 := ⟨rfl, rfl⟩
 rw [decide_eq_true q6]
 simp only [Bool.not_true, Bool.not_false]
 refine Wl_guard_t rfl ?_
 refine Wl_v (r_mv (v := .slice a18 m18 c18) rfl) ?_
 refine Wl_guard_t rfl ?_
 refine Wl_v (r_mv (v := .int .i64 14) rfl) ?_
 refine Wl_guard_t rfl ?_
 refine Wl_call (r_call4 rfl Try.call14 rfl rfl rfl rfl) (is17 (y := []) _ hO18.sl.any byt_nil byt_nil) ?_
 rintro v w23 ⟨rfl, hU23⟩
 have hzw23 := hU23.size
 replace HU := HU.trans0 hU23
 replace hb1 := hb1.upd0 hU23
 replace hs2 := hs2.upd0 hU23
 replace hs3 := hs3.upd0 hU23
 replace hb4 := hb4.upd0 hU23
 replace hO6 := hO6.upd0 hU23
 replace hO19 := hO19.upd0 hU23
 replace hO21 := hO21.upd0 hU23
 refine Wl_guard_t rfl ?_
 refine Wl_v (r_not rfl) ?_
 refine Wl_v (r_pick_f (v := .bool (!decide (([] : List Int) = [] ∧ (14 : Int) = 14))) rfl rfl) ?_
 refine Wl_v (r_mv (v := .bool (!decide (([] : List Int) = [] ∧ (14 : Int) = 14))) rfl) ?_
 have q7 : ([] : List Int) = [] ∧ (14 : Int) = 14 := ⟨rfl, rfl⟩
 rw [decide_eq_true q7]
 simp only [Bool.not_true, Bool.not_false]
 refine Wl_guard_t rfl ?_
 refine Wl_v (r_mv (v := .slice a19 m19 c19) rfl) ?_
 refine Wl_guard_t rfl ?_
 refine Wl_v (r_mv (v := .int .i64 14) rfl) ?_
 refine Wl_guard_t rfl ?_
 refine Wl_call (r_call4 rfl Try.call14 rfl rfl rfl rfl) (is17 (y := []) _ hO19.sl.any byt_nil byt_nil) ?_
 rintro v w24 ⟨rfl, hU24⟩
 have hzw24 := hU24.size
 replace HU := HU.trans0 hU24
 replace hb1 := hb1.upd0 hU24
 replace hs2 := hs2.upd0 hU24
 replace hs3 := hs3.upd0 hU24
 replace hb4 := hb4.upd0 hU24
 replace hO6 := hO6.upd0 hU24
 replace hO21 := hO21.upd0 hU24
 refine Wl_guard_t rfl ?_
 refine Wl_v (r_not rfl) ?_
 refine Wl_v (r_pick_f (v := .bool (!decide (([] : List Int) = [] ∧ (14 : Int) = 14))) rfl rfl) ?_
 refine Wl_v (r_mv (v := .bool (!decide (([] : List Int) = [] ∧ (14 : Int) = 14))) rfl) ?_
 have q8 : ([] : List Int) = [] ∧ (14 : Int) = 14 := ⟨rfl, rfl⟩
 rw [decide_eq_true q8]
 simp only [Bool.not_true, Bool.not_false]
 refine Wl_guard_t rfl ?_
 refine Wl_v (r_mv (v := .int .i64 3) rfl) ?_
 refine Wl_guard_t rfl ?_
 refine Wl_v (r_mv (v := .int .i64 0) rfl) ?_
 refine Wl_guard_t rfl ?_
 refine Wl_call (r_call4 rfl Try.call18 rfl rfl rfl rfl) (tells17 _ ) ?_
 rintro v w25 ⟨rfl, hU25⟩
 have hzw25 := hU25.size
 replace HU := HU.trans0 hU25
 replace hb1 := hb1.upd0 hU25
 replace hs2 := hs2.upd0 hU25
 replace hs3 := hs3.upd0 hU25
 replace hb4 := hb4.upd0 hU25
 replace hO6 := hO6.upd0 hU25
 replace hO21 := hO21.upd0 hU25
 refine Wl_guard_t rfl ?_
 refine Wl_v (r_not rfl) ?_
 refine Wl_v (r_pick_f (v := .bool (!decide ((3 : Int) = 3 ∧ (0 : Int) = 0))) rfl rfl) ?_
 refine Wl_v (r_mv (v := .bool (!decide ((3 : Int) = 3 ∧ (0 : Int) = 0))) rfl) ?_
 have q9 : (3 : Int) = 3 ∧ (0 : Int) = 0 := ⟨rfl, rfl⟩
 rw [decide_eq_true q9]
 simp only [Bool.not_true, Bool.not_false]
 refine Wl_guard_t rfl ?_
 refine Wl_v (r_mv (v := .slice a21 m21 c21) rfl) ?_
 refine Wl_guard_t rfl ?_
 refine Wl_v (r_mv (v := .int .i64 0) rfl) ?_
 refine Wl_guard_t rfl ?_
 refine Wl_call (r_call4 rfl Try.call14 rfl rfl rfl rfl) (is17 (y := [1, 0]) _ hO21.sl.any (by intro x hx; simp at hx; omega) (by intro x hx; simp at hx; omega)) ?_
 rintro v w26 ⟨rfl, hU26⟩
 have hzw26 := hU26.size
 replace HU := HU.trans0 hU26
 replace hb1 := hb1.upd0 hU26
 replace hs2 := hs2.upd0 hU26
 replace hs3 := hs3.upd0 hU26
 replace hb4 := hb4.upd0 hU26
 replace hO6 := hO6.upd0 hU26
 refine Wl_guard_t rfl ?_
 refine Wl_v (r_not rfl) ?_
 refine Wl_v (r_pick_f (v := .bool (!decide (([1, 0] : List Int) = [1, 0] ∧ (0 : Int) = 0))) rfl rfl) ?_
 refine Wl_nil ?_
 have q10 : ([1, 0] : List Int) = [1, 0] ∧ (0 : Int) = 0 := ⟨rfl, rfl⟩
 rw [decide_eq_true q10]
 simp only [Bool.not_true, Bool.not_false]
 refine W_cond_f rfl ?_
 refine W_skip ?_
 refine W_seq ?_
 refine W_region ?_
 refine Wl_v (r_mv (v := .slice (some ⟨B2, 0, none⟩) 4 4) rfl) ?_
 refine Wl_lit (pv := [(0, .int .u8 3)]) (cs := [.int .u8 3]) Try.underlying23 Try.sizeOf5 Try.zeroValue5 (by decide) (by decide) (by simp only [List.map_toArray, List.map_cons, List.map_nil] <;> rfl) (by kernel_rfl) rfl (by decide) ?_
 intro B27 w27 hB27 hU27 hzz27 hs27
 have hzw27 := hU27.size
 replace HU := HU.trans0 hU27
 replace hb1 := hb1.upd0 hU27
 replace hs2 := hs2.upd0 hU27
 replace hs3 := hs3.upd0 hU27
 replace hb4 := hb4.upd0 hU27
 replace hO6 := hO6.upd0 hU27
 replace hs27 : Own w27 (Is B27) 5 1 (.slice (some ⟨B27, 0, none⟩) 1 1) 1 (ints .u8 [3]) := hs27
 replace hs27 : Own w27 (Is B27) 5 1 (.slice (some ⟨B27, 0, none⟩) 1 1) 1 (ints .u8 [3]) := hs27
 refine Wl_call (r_call2 rfl Try.call21 rfl rfl) (octs _ hs2.sl (by omega) hs27.sl.any (by intro x hx; simp at hx; omega) (by omega)) ?_
 rintro v w28 ⟨rfl, hU28⟩
 have hzw28 := hU28.size
 replace HU := HU.trans0 hU28
 replace hb1 := hb1.upd0 hU28
 replace hs2 := hs2.upd0 hU28
 replace hs3 := hs3.upd0 hU28
 replace hb4 := hb4.upd0 hU28
 replace hO6 := hO6.upd0 hU28
 rw [show (ctF [2, 1, 0, 2] [3]).1 = 0 from by decide +kernel]
 rw [show (ctF [2, 1, 0, 2] [3]).2 = 14 from by decide +kernel]
 refine Wl_v (r_mv (v := .tuple #[.int .i64 0, .int .i64 14]) rfl) ?_
 refine Wl_v (r_ext (v := .int .i64 0) rfl rfl) ?_
 refine Wl_v (r_ext (v := .int .i64 14) rfl rfl) ?_
 refine Wl_v (r_as (v := .int .i64 0) rfl) ?_
 refine Wl_v (r_as (v := .int .i64 14) rfl) ?_
 refine Wl_nil ?_
 refine W_seq ?_
 refine W_region ?_
 refine Wl_v (r_mv (v := .slice (some ⟨B2, 0, none⟩) 4 4) rfl) ?_
 refine Wl_lit (pv := [(0, .int .u8 0)]) (cs := [.int .u8 0]) Try.underlying23 Try.sizeOf5 Try.zeroValue5 (by decide) (by decide) (by simp only [List.map_toArray, List.map_cons, List.map_nil] <;> rfl) (by kernel_rfl) rfl (by decide) ?_
 intro B29 w29 hB29 hU29 hzz29 hs29
 have hzw29 := hU29.size
 replace HU := HU.trans0 hU29
 replace hb1 := hb1.upd0 hU29
 replace hs2 := hs2.upd0 hU29
 replace hs3 := hs3.upd0 hU29
 replace hb4 := hb4.upd0 hU29
 replace hO6 := hO6.upd0 hU29
 replace hs29 : Own w29 (Is B29) 5 1 (.slice (some ⟨B29, 0, none⟩) 1 1) 1 (ints .u8 [0]) := hs29
 replace hs29 : Own w29 (Is B29) 5 1 (.slice (some ⟨B29, 0, none⟩) 1 1) 1 (ints .u8 [0]) := hs29
 refine Wl_call (r_call3 rfl Try.call19 rfl rfl rfl) (odec _ hs2.sl (by omega) hs29.sl.any (by intro x hx; simp at hx; omega) (by omega) (by omega)) ?_
 rintro v w30 ⟨a30, m30, c30, rfl, hO30, hU30⟩
 have hzw30 := hU30.size
 replace HU := HU.trans0 hU30
 replace hb1 := hb1.upd0 hU30
 replace hs2 := hs2.upd0 hU30
 replace hs3 := hs3.upd0 hU30
 replace hb4 := hb4.upd0 hU30
 replace hO6 := hO6.upd0 hU30
 replace hO30 := hO30.tight
 have hl_hO30 := ilen hO30.sl
 have hc_hO30 := hO30.sl.cap.1
 replace hO30 := hO30.icong (show (dcF [2, 1, 0, 2] [0] 0).1 = [] from by decide +kernel)
 have hz_hO30 : m30 = 0 := (ilen hO30.sl).symm
 rw [show (dcF [2, 1, 0, 2] [0] 0).2 = 14 from by decide +kernel]
 refine Wl_v (r_mv (v := .tuple #[.slice a30 m30 c30, .int .i64 14]) rfl) ?_
 refine Wl_v (r_ext (v := .slice a30 m30 c30) rfl rfl) ?_
 refine Wl_v (r_ext (v := .int .i64 14) rfl rfl) ?_
 refine Wl_v (r_as (v := .slice a30 m30 c30) rfl) ?_
 refine Wl_v (r_as (v := .int .i64 14) rfl) ?_
 refine Wl_nil ?_
 refine W_seq ?_
 refine W_region ?_
 refine Wl_v (r_mv (v := .slice (some ⟨B2, 0, none⟩) 4 4) rfl) ?_
 refine Wl_lit (pv := [(0, .int .u8 1), (1, .int .u8 2)]) (cs := [.int .u8 1, .int .u8 2]) Try.underlying23 Try.sizeOf5 Try.zeroValue5 (by decide) (by decide) (by simp only [List.map_toArray, List.map_cons, List.map_nil] <;> rfl) (by kernel_rfl) rfl (by decide) ?_
 intro B31 w31 hB31 hU31 hzz31 hs31
 have hzw31 := hU31.size
 replace HU := HU.trans0 hU31
 replace hb1 := hb1.upd0 hU31
 replace hs2 := hs2.upd0 hU31
 replace hs3 := hs3.upd0 hU31
 replace hb4 := hb4.upd0 hU31
 replace hO6 := hO6.upd0 hU31
 replace hO30 := hO30.upd0 hU31
 replace hs31 : Own w31 (Is B31) 5 1 (.slice (some ⟨B31, 0, none⟩) 2 2) 2 (ints .u8 [1, 2]) := hs31
 replace hs31 : Own w31 (Is B31) 5 1 (.slice (some ⟨B31, 0, none⟩) 2 2) 2 (ints .u8 [1, 2]) := hs31
 refine Wl_call (r_call2 rfl Try.call25 rfl rfl) (oen_spec _ hs2.sl (by omega) hs31.sl.any (by intro x hx; simp at hx; omega) (by omega)) ?_
 rintro v w32 ⟨rfl, hU32⟩
 have hzw32 := hU32.size
 replace HU := HU.trans0 hU32
 replace hb1 := hb1.upd0 hU32
 replace hs2 := hs2.upd0 hU32
 replace hs3 := hs3.upd0 hU32
 replace hb4 := hb4.upd0 hU32
 replace hO6 := hO6.upd0 hU32
 replace hO30 := hO30.upd0 hU32
 rw [show (enF [2, 1, 0, 2] [1, 2]).1 = 1 from by decide +kernel]
 refine Wl_v (r_mv (v := .tuple #[.int .i64 1, .bool (decide ((enF [2, 1, 0, 2] [1, 2]).2 = true))]) rfl) ?_
 refine Wl_v (r_ext (v := .int .i64 1) rfl rfl) ?_
 refine Wl_v (r_ext (v := .bool (decide ((enF [2, 1, 0, 2] [1, 2]).2 = true))) rfl rfl) ?_
 refine Wl_v (r_as (v := .int .i64 1) rfl) ?_
 refine Wl_v (r_as (v := .bool (decide ((enF [2, 1, 0, 2] [1, 2]).2 = true))) rfl) ?_
 refine Wl_nil ?_
 refine W_seq ?_
 refine W_region ?_
 refine Wl_v (r_mv (v := .slice (some ⟨B2, 0, none⟩) 4 4) rfl) ?_
 refine Wl_lit (pv := [(0, .int .u8 1), (1, .int .u8 3)]) (cs := [.int .u8 1, .int .u8 3]) Try.underlying23 Try.sizeOf5 Try.zeroValue5 (by decide) (by decide) (by simp only [List.map_toArray, List.map_cons, List.map_nil] <;> rfl) (by kernel_rfl) rfl (by decide) ?_
 intro B33 w33 hB33 hU33 hzz33 hs33
 have hzw33 := hU33.size
 replace HU := HU.trans0 hU33
 replace hb1 := hb1.upd0 hU33
 replace hs2 := hs2.upd0 hU33
 replace hs3 := hs3.upd0 hU33
 replace hb4 := hb4.upd0 hU33
 replace hO6 := hO6.upd0 hU33
 replace hO30 := hO30.upd0 hU33
 replace hs33 : Own w33 (Is B33) 5 1 (.slice (some ⟨B33, 0, none⟩) 2 2) 2 (ints .u8 [1, 3]) := hs33
 replace hs33 : Own w33 (Is B33) 5 1 (.slice (some ⟨B33, 0, none⟩) 2 2) 2 (ints .u8 [1, 3]) := hs33
 refine Wl_call (r_call2 rfl Try.call25 rfl rfl) (oen_spec _ hs2.sl (by omega) hs33.sl.any (by intro x hx; simp at hx; omega) (by omega)) ?_
 rintro v w34 ⟨rfl, hU34⟩
 have hzw34 := hU34.size
 replace HU := HU.trans0 hU34
 replace hb1 := hb1.upd0 hU34
 replace hs2 := hs2.upd0 hU34
 replace hs3 := hs3.upd0 hU34
 replace hb4 := hb4.upd0 hU34
 replace hO6 := hO6.upd0 hU34
 replace hO30 := hO30.upd0 hU34
 rw [show (enF [2, 1, 0, 2] [1, 3]).1 = 2 from by decide +kernel]
 refine Wl_v (r_mv (v := .tuple #[.int .i64 2, .bool (decide ((enF [2, 1, 0, 2] [1, 3]).2 = true))]) rfl) ?_
 refine Wl_v (r_ext (v := .int .i64 2) rfl rfl) ?_
 refine Wl_v (r_ext (v := .bool (decide ((enF [2, 1, 0, 2] [1, 3]).2 = true))) rfl rfl) ?_
 refine Wl_v (r_as (v := .int .i64 2) rfl) ?_
 refine Wl_v (r_as (v := .bool (decide ((enF [2, 1, 0, 2] [1, 3]).2 = true))) rfl) ?_
 refine Wl_nil ?_
 refine W_seq ?_
 refine W_region ?_
 refine Wl_v (r_mv (v := .slice (some ⟨B2, 0, none⟩) 4 4) rfl) ?_
 refine Wl_v (r_mv (v := .slice a6 m6 c6) rfl) ?_
 refine Wl_call (r_call2 rfl Try.call29 rfl rfl) (oall_spec _ hs2.sl.any (by omega) hO6.sl.any (by omega)) ?_
 rintro v w35 ⟨Bl35, Bb35, a35, c35, e35, f35, rfl, hBl35, hBb35, hO35, hP35, hb1_35, hU35⟩
 have hzw35 := hU35.size
 replace HU := HU.trans0 hU35
 replace hb1 := hb1.upd0 hU35
 replace hs3 := hs3.upd0 hU35
 replace hb4 := hb4.upd0 hU35
 replace hO30 := hO30.upd0 hU35
 have hbl_hBl35 := hBl35.lt
 have hbl_hBb35 := hBb35.lt
 replace hO35 := hO35.tight
 have hl_hO35 := ilen hO35.sl
 have hc_hO35 := hO35.sl.cap.1
 replace hP35 := hP35.tight
 have hl_hP35 := ilen hP35.sl
 have hc_hP35 := hP35.sl.cap.1
 refine Wl_v (r_as (v := .func (.func 61) #[] #[.pointer (some ⟨Bl35, 0, none⟩), .pointer (some ⟨Bb35, 0, none⟩)]) rfl) ?_
 refine Wl_nil ?_
 refine W_seq ?_
 refine W_seq ?_
 refine W_region ?_
 refine Wl_v (r_mv (v := .int .i64 0) rfl) ?_
 refine Wl_v (r_mv (v := .int .i64 14) rfl) ?_
 refine Wl_call (r_call4 rfl Try.call18 rfl rfl rfl rfl) (tells17 _ ) ?_
 rintro v w36 ⟨rfl, hU36⟩
 have hzw36 := hU36.size
 replace HU := HU.trans0 hU36
 replace hb1 := hb1.upd0 hU36
 replace hs3 := hs3.upd0 hU36
 replace hb4 := hb4.upd0 hU36
 replace hO30 := hO30.upd0 hU36
 replace hBl35 := hBl35.upd0 hU36
 replace hBb35 := hBb35.upd0 hU36
 replace hO35 := hO35.upd0 hU36
 replace hP35 := hP35.upd0 hU36
 refine Wl_v (r_not rfl) ?_
 refine Wl_v (r_mv (v := .bool (!decide ((0 : Int) = 0 ∧ (14 : Int) = 14))) rfl) ?_
 have q11 : (0 : Int) = 0 ∧ (14 : Int) = 14 := ⟨rfl, rfl⟩
 rw [decide_eq_true q11]
 simp only [Bool.not_true, Bool.not_false]
 refine Wl_guard_t rfl ?_
 refine Wl_v (r_mv (v := .slice a30 m30 c30) rfl) ?_
 refine Wl_guard_t rfl ?_
 refine Wl_v (r_mv (v := .int .i64 14) rfl) ?_
 refine Wl_guard_t rfl ?_
 refine Wl_call (r_call4 rfl Try.call14 rfl rfl rfl rfl) (is17 (y := []) _ hO30.sl.any byt_nil byt_nil) ?_
 rintro v w37 ⟨rfl, hU37⟩
 have hzw37 := hU37.size
 replace HU := HU.trans0 hU37
 replace hb1 := hb1.upd0 hU37
 replace hs3 := hs3.upd0 hU37
 replace hb4 := hb4.upd0 hU37
 replace hBl35 := hBl35.upd0 hU37
 replace hBb35 := hBb35.upd0 hU37
 replace hO35 := hO35.upd0 hU37
 replace hP35 := hP35.upd0 hU37
 refine Wl_guard_t rfl ?_
 refine Wl_v (r_not rfl) ?_
 refine Wl_v (r_pick_f (v := .bool (!decide (([] : List Int) = [] ∧ (14 : Int) = 14))) rfl rfl) ?_
 refine Wl_v (r_mv (v := .bool (!decide (([] : List Int) = [] ∧ (14 : Int) = 14))) rfl) ?_
 have q12 : ([] : List Int) = [] ∧ (14 : Int) = 14 := ⟨rfl, rfl⟩
 rw [decide_eq_true q12]
 simp only [Bool.not_true, Bool.not_false]
 refine Wl_guard_t rfl ?_
 refine Wl_v (r_mv (v := .int .i64 1) rfl) ?_
 refine Wl_guard_t rfl ?_
 refine Wl_v (v := .bool false) (r_ne (a := 1) (b := 1) rfl rfl) ?_
 refine Wl_v (r_pick_f (v := .bool false) rfl rfl) ?_
 refine Wl_v (r_mv (v := .bool false) rfl) ?_
 refine Wl_guard_t rfl ?_
 refine Wl_v (r_mv (v := .bool (decide ((enF [2, 1, 0, 2] [1, 2]).2 = true))) rfl) ?_
 refine Wl_v (r_pick_f (v := .bool (decide ((enF [2, 1, 0, 2] [1, 2]).2 = true))) rfl rfl) ?_
 refine Wl_v (r_mv (v := .bool (decide ((enF [2, 1, 0, 2] [1, 2]).2 = true))) rfl) ?_
 have q13 : ¬ ((enF [2, 1, 0, 2] [1, 2]).2 = true) := (by decide +kernel)
 rw [decide_eq_false q13]
 refine Wl_guard_t rfl ?_
 refine Wl_v (r_mv (v := .int .i64 2) rfl) ?_
 refine Wl_guard_t rfl ?_
 refine Wl_v (v := .bool false) (r_ne (a := 2) (b := 2) rfl rfl) ?_
 refine Wl_v (r_pick_f (v := .bool false) rfl rfl) ?_
 refine Wl_v (r_mv (v := .bool false) rfl) ?_
 refine Wl_guard_t rfl ?_
 refine Wl_v (r_mv (v := .bool (decide ((enF [2, 1, 0, 2] [1, 3]).2 = true))) rfl) ?_
 refine Wl_guard_t rfl ?_
 refine Wl_v (r_not rfl) ?_
 refine Wl_v (r_pick_f (v := .bool (!decide ((enF [2, 1, 0, 2] [1, 3]).2 = true))) rfl rfl) ?_
 refine Wl_v (r_mv (v := .bool (!decide ((enF [2, 1, 0, 2] [1, 3]).2 = true))) rfl) ?_
 have q14 : (enF [2, 1, 0, 2] [1, 3]).2 = true := (by decide +kernel)
 rw [decide_eq_true q14]
 simp only [Bool.not_true, Bool.not_false]
 refine Wl_guard_t rfl ?_
 refine Wl_v (r_mv (v := .func (.func 61) #[] #[.pointer (some ⟨Bl35, 0, none⟩), .pointer (some ⟨Bb35, 0, none⟩)]) rfl) ?_
 refine Wl_guard_t rfl ?_
 refine Wl_v (r_eqfn_s Try.underlying46 rfl rfl) ?_
 refine Wl_v (r_pick_f (v := .bool false) rfl rfl) ?_
 refine Wl_nil ?_
 refine W_cond_f rfl ?_
 refine W_skip ?_
 refine W_seq ?_
 refine W_region ?_
 refine Wl_lit (pv := [(0, .int .i64 4), (1, .int .i64 2), (2, .int .i64 0)]) (cs := [.int .i64 4, .int .i64 2, .int .i64 0]) Try.underlying22 Try.sizeOf3 Try.zeroValue3 (by decide) (by decide) (by simp only [List.map_toArray, List.map_cons, List.map_nil] <;> rfl) (by kernel_rfl) rfl (by decide) ?_
 intro B38 w38 hB38 hU38 hzz38 hs38
 have hzw38 := hU38.size
 replace HU := HU.trans0 hU38
 replace hb1 := hb1.upd0 hU38
 replace hs3 := hs3.upd0 hU38
 replace hb4 := hb4.upd0 hU38
 replace hBl35 := hBl35.upd0 hU38
 replace hBb35 := hBb35.upd0 hU38
 replace hO35 := hO35.upd0 hU38
 replace hP35 := hP35.upd0 hU38
 replace hs38 : Own w38 (Is B38) 3 1 (.slice (some ⟨B38, 0, none⟩) 3 3) 3 (ints .i64 [4, 2, 0]) := hs38
 replace hs38 : Own w38 (Is B38) 3 1 (.slice (some ⟨B38, 0, none⟩) 3 3) 3 (ints .i64 [4, 2, 0]) := hs38
 refine Wl_alloc (cs := [.slice none 0 0]) Try.zeroValue22 rfl ?_
 intro B39 w39 hB39 hU39 hzz39 hb39
 have hzw39 := hU39.size
 replace HU := HU.trans0 hU39
 replace hb1 := hb1.upd0 hU39
 replace hs3 := hs3.upd0 hU39
 replace hb4 := hb4.upd0 hU39
 replace hBl35 := hBl35.upd0 hU39
 replace hBb35 := hBb35.upd0 hU39
 replace hO35 := hO35.upd0 hU39
 replace hP35 := hP35.upd0 hU39
 replace hs38 := hs38.upd0 hU39
 refine Wl_alloc (cs := [.int .i64 0]) Try.zeroValue3 rfl ?_
 intro B40 w40 hB40 hU40 hzz40 hb40
 have hzw40 := hU40.size
 replace HU := HU.trans0 hU40
 replace hb1 := hb1.upd0 hU40
 replace hs3 := hs3.upd0 hU40
 replace hb4 := hb4.upd0 hU40
 replace hBl35 := hBl35.upd0 hU40
 replace hBb35 := hBb35.upd0 hU40
 replace hO35 := hO35.upd0 hU40
 replace hP35 := hP35.upd0 hU40
 replace hs38 := hs38.upd0 hU40
 replace hb39 := hb39.upd0 hU40
 refine Wl_store (v := .slice (some ⟨B38, 0, none⟩) 3 3) (cs' := [.slice (some ⟨B38, 0, none⟩) 3 3]) Try.sizeOf22 rfl rfl rfl rfl hb39 rfl rfl ?_
 intro w41 hU41 hzz41 hb39n
 replace hb39 := hb39n; clear hb39n
 have hzw41 := hU41.size
 replace HU := HU.trans1 hU41 (by show (False) ∨ w.heap.size ≤ B39; omega)
 replace hb1 := hb1.upd1 hU41 (by omega)
 replace hs3 := hs3.upd1 hU41 (by intro h1; have h3 : B39 = B3 := h1; omega)
 replace hb4 := hb4.upd1 hU41 (by omega)
 replace hBl35 := hBl35.upd1 hU41 (by omega)
 replace hBb35 := hBb35.upd1 hU41 (by omega)
 replace hO35 := hO35.upd1 hU41 (by intro h1; have h3 : ((w34.heap.size ≤ B39) ∧ B39 < w35.heap.size) := h1; omega)
 replace hP35 := hP35.upd1 hU41 (by intro h1; have h3 : ((w34.heap.size ≤ B39) ∧ B39 < w35.heap.size) := h1; omega)
 replace hs38 := hs38.upd1 hU41 (by intro h1; have h3 : B39 = B38 := h1; omega)
 replace hb40 := hb40.upd1 hU41 (by omega)
 refine Wl_store (v := .int .i64 0) (cs' := [.int .i64 0]) Try.sizeOf3 rfl rfl rfl rfl hb40 rfl rfl ?_
 intro w42 hU42 hzz42 hb40n
 replace hb40 := hb40n; clear hb40n
 have hzw42 := hU42.size
 replace HU := HU.trans1 hU42 (by show (False) ∨ w.heap.size ≤ B40; omega)
 replace hb1 := hb1.upd1 hU42 (by omega)
 replace hs3 := hs3.upd1 hU42 (by intro h1; have h3 : B40 = B3 := h1; omega)
 replace hb4 := hb4.upd1 hU42 (by omega)
 replace hBl35 := hBl35.upd1 hU42 (by omega)
 replace hBb35 := hBb35.upd1 hU42 (by omega)
 replace hO35 := hO35.upd1 hU42 (by intro h1; have h3 : ((w34.heap.size ≤ B40) ∧ B40 < w35.heap.size) := h1; omega)
 replace hP35 := hP35.upd1 hU42 (by intro h1; have h3 : ((w34.heap.size ≤ B40) ∧ B40 < w35.heap.size) := h1; omega)
 replace hs38 := hs38.upd1 hU42 (by intro h1; have h3 : B40 = B38 := h1; omega)
 replace hb39 := hb39.upd1 hU42 (by omega)
 refine Wl_nil ?_
 refine W_seq ?_
 refine W_seq ?_
 refine W_region ?_
 refine Wl_v (r_mv (v := .func (.func 61) #[] #[.pointer (some ⟨Bl35, 0, none⟩), .pointer (some ⟨Bb35, 0, none⟩)]) rfl) ?_
 refine Wl_nil ?_
 refine W_block ?_
 refine W_range (gf := 61) (ar := fun y => #[y, .pointer (some ⟨Bl35, 0, none⟩), .pointer (some ⟨Bb35, 0, none⟩)]) rfl Try.call61 (fun y => by simp) ?_
 intro D43 fn43 w43 hD43 hU43 hzz43 hdf43 hrc430
 have hzw43 := hU43.size
 replace HU := HU.trans0 hU43
 replace hb1 := hb1.upd0 hU43
 replace hs3 := hs3.upd0 hU43
 replace hb4 := hb4.upd0 hU43
 replace hBl35 := hBl35.upd0 hU43
 replace hBb35 := hBb35.upd0 hU43
 replace hO35 := hO35.upd0 hU43
 replace hP35 := hP35.upd0 hU43
 replace hs38 := hs38.upd0 hU43
 replace hb39 := hb39.upd0 hU43
 replace hb40 := hb40.upd0 hU43
 obtain ⟨r43, hr43, hrc43⟩ : ∃ r, r = _ ∧ Rec w43 (D43 + 1) r := ⟨_, rfl, hrc430⟩
 clear hrc430
 obtain ⟨J43, hJ43⟩ : ∃ J : Nat → World → Prop, ∀ i w', J i w' ↔ (Rec w' (D43 + 1) r43 ∧ Dfr w' D43 ∧ Blk w' B40 [.int .i64 ((i : Nat) : Int)] ∧ Blk w' B1 [.bool false] ∧ Blk w' B4 [.slice (some ⟨B3, 0, none⟩) 3 3] ∧ Blk w' B39 [.slice (some ⟨B38, 0, none⟩) 3 3] ∧ Own w' (fun g => g = B3) 5 1 (.slice (some ⟨B3, 0, none⟩) 3 3) 3 (ints .u8 [1, 0, 3]) ∧ Own w' (fun g => g = B38) 3 1 (.slice (some ⟨B38, 0, none⟩) 3 3) 3 (ints .i64 [4, 2, 0]) ∧ Upd No w w') := ⟨_, fun _ _ => Iff.rfl⟩
 obtain ⟨Jx43, hJx43⟩ : ∃ Jx : World → Prop, ∀ w', Jx w' ↔ (False) := ⟨_, fun _ => Iff.rfl⟩
 refine (oall1_spec (ly := (D43 + 1)) (J := J43) (Jx := Jx43) (Sb := (fun g => g = B40 ∨ g = D43 + 1)) (l := [2, 1, 0, 2]) (b := [43]) w43 hBl35 hBb35 hO35.sl hP35.sl (by omega) (by omega) (by intro x hx; simp at hx; omega) w17_rt w17_cl (by intro g h1 h2; have h4 : g = B40 ∨ g = D43 + 1 := h2; omega) ?_ ?_ ?_).mono ?_
 ·exact (hJ43 _ _).2 ⟨hrc43, hdf43, hb40, hb1, hb4, hb39, hs3, hs38, HU⟩
 ·intro i wa wb hh hUs
  obtain ⟨hrc43, hdf43, hb40, hb1, hb4, hb39, hs3, hs38, HU⟩ := (hJ43 _ _).1 hh
  replace hrc43 := hrc43.upd hUs (by show ¬ (_ ≤ _); omega)
  replace hdf43 := hdf43.upd hUs (by show ¬ (_ ≤ _); omega)
  replace hb40 := hb40.upd hUs (by show ¬ (_ ≤ _); omega)
  replace hb1 := hb1.upd hUs (by show ¬ (_ ≤ _); omega)
  replace hb4 := hb4.upd hUs (by show ¬ (_ ≤ _); omega)
  replace hb39 := hb39.upd hUs (by show ¬ (_ ≤ _); omega)
  replace hs3 := hs3.upd hUs (by intro x h1 h2; have h3 : x = B3 := h1; have h4 : w43.heap.size ≤ x := h2; omega)
  replace hs38 := hs38.upd hUs (by intro x h1 h2; have h3 : x = B38 := h1; have h4 : w43.heap.size ≤ x := h2; omega)
  replace HU := HU.trans hUs (by intro x hx; have hx2 : w43.heap.size ≤ x := hx; show (False) ∨ w.heap.size ≤ x; omega)
  exact (hJ43 _ _).2 ⟨hrc43, hdf43, hb40, hb1, hb4, hb39, hs3, hs38, HU⟩
 ·intro i44 w44 hi44 hh
  obtain ⟨hrc43, hdf43, hb40, hb1, hb4, hb39, hs3, hs38, HU⟩ := (hJ43 _ _).1 hh
  have hrl43 := hrc43.lt
  rw [w17_nb] at hi44
  have HB43 : Upd (fun g => g = B40 ∨ g = D43 + 1) w44 w44 := Upd.refl _ _
  refine yieldC_of_W (R := fun b c w' => (b = true ∧ Upd (fun g => g = B40 ∨ g = D43 + 1) w44 w' ∧ J43 (i44 + 1) w') ∨ (b = false ∧ Jx43 w')) hrc43 (by rw [hr43]; rfl) (by rw [hr43]; exact zip2 _ _ _ _ _ _) ?_ ?_
  ·rw [hr43]
   refine W_seq ?_
   refine W_region ?_
   refine Wl_v (r_as (v := .int .i64 ((st [2, 1, 0, 2] (wn [43]) (tbt [43]) (i44 + 1) : Nat) : Int)) rfl) ?_
   refine Wl_nil ?_
   refine W_region ?_
   refine Wl_v (r_as (v := .int .u8 ((nd [2, 1, 0, 2] (wn [43]) (st [2, 1, 0, 2] (wn [43]) (tbt [43]) i44)).1)) rfl) ?_
   refine Wl_nil ?_
   refine ⟨rfl, _, hrc43, (by rw [hr43]), ?_⟩
   intro w45 hU45 hzz45 hrc43b
   have hzw45 := hU45.size
   replace hdf43 := hdf43.upd1 hU45 (by omega)
   replace hb40 := hb40.upd1 hU45 (by omega)
   replace hb1 := hb1.upd1 hU45 (by omega)
   replace hb4 := hb4.upd1 hU45 (by omega)
   replace hb39 := hb39.upd1 hU45 (by omega)
   replace hs3 := hs3.upd1 hU45 (by intro h1; have h3 : (D43 + 1) = B3 := h1; omega)
   replace hs38 := hs38.upd1 hU45 (by intro h1; have h3 : (D43 + 1) = B38 := h1; omega)
   replace HU := HU.trans1 hU45 (by show (False) ∨ w.heap.size ≤ (D43 + 1); omega)
   replace HB43 := HB43.trans1 hU45 (by show ((D43 + 1) = B40 ∨ (D43 + 1) = D43 + 1) ∨ w44.heap.size ≤ (D43 + 1); omega)
   clear hrc43
   have hrc43 := hrc43b
   clear hrc43b
   refine W_block ?_
   refine W_seq ?_
   refine W_seq ?_
   refine W_region ?_
   refine Wl_load (v := .int .i64 ((i44 : Nat) : Int)) Try.isAgg3 rfl hb40 rfl ?_
   refine Wl_v (r_ge rfl rfl) ?_
   refine Wl_v (r_mv (v := .bool (decide (3 ≤ ((i44 : Nat) : Int)))) rfl) ?_
   have q15 : ¬ (3 ≤ ((i44 : Nat) : Int)) := (by have := hi44; omega)
   rw [decide_eq_false q15]
   refine Wl_guard_t rfl ?_
   refine Wl_v (r_mv (v := .int .i64 ((st [2, 1, 0, 2] (wn [43]) (tbt [43]) (i44 + 1) : Nat) : Int)) rfl) ?_
   refine Wl_guard_t rfl ?_
   refine Wl_load (v := .slice (some ⟨B38, 0, none⟩) 3 3) Try.isAgg22 rfl hb39 rfl ?_
   refine Wl_guard_t rfl ?_
   refine Wl_load (v := .int .i64 ((i44 : Nat) : Int)) Try.isAgg3 rfl hb40 rfl ?_
   refine Wl_guard_t rfl ?_
   refine Wl_idxi Try.underlying22 Try.sizeOf3 rfl rfl hs38.sl (by omega) (by omega) ?_
   intro ib46 io46 hc46
   rw [Int.toNat_natCast] at hc46
   refine Wl_guard_t rfl ?_
   refine Wl_loadc Try.isAgg3 rfl hc46 ?_
   refine Wl_guard_t rfl ?_
   refine Wl_v (r_ne rfl rfl) ?_
   refine Wl_v (r_pick_f (v := .bool (decide (((st [2, 1, 0, 2] (wn [43]) (tbt [43]) (i44 + 1) : Nat) : Int) ≠ ([4, 2, 0].getD i44 0)))) rfl rfl) ?_
   refine Wl_v (r_mv (v := .bool (decide (((st [2, 1, 0, 2] (wn [43]) (tbt [43]) (i44 + 1) : Nat) : Int) ≠ ([4, 2, 0].getD i44 0)))) rfl) ?_
   have q16 : ¬ (((st [2, 1, 0, 2] (wn [43]) (tbt [43]) (i44 + 1) : Nat) : Int) ≠ ([4, 2, 0].getD i44 0)) := (fun h => h (w17_it i44 (by have := hi44; omega)).1)
   rw [decide_eq_false q16]
   refine Wl_guard_t rfl ?_
   refine Wl_v (r_mv (v := .int .u8 ((nd [2, 1, 0, 2] (wn [43]) (st [2, 1, 0, 2] (wn [43]) (tbt [43]) i44)).1)) rfl) ?_
   refine Wl_guard_t rfl ?_
   refine Wl_load (v := .slice (some ⟨B3, 0, none⟩) 3 3) Try.isAgg23 rfl hb4 rfl ?_
   refine Wl_guard_t rfl ?_
   refine Wl_load (v := .int .i64 ((i44 : Nat) : Int)) Try.isAgg3 rfl hb40 rfl ?_
   refine Wl_guard_t rfl ?_
   refine Wl_idxi Try.underlying23 Try.sizeOf5 rfl rfl hs3.sl (by omega) (by omega) ?_
   intro ib47 io47 hc47
   rw [Int.toNat_natCast] at hc47
   refine Wl_guard_t rfl ?_
   refine Wl_loadc Try.isAgg5 rfl hc47 ?_
   refine Wl_guard_t rfl ?_
   refine Wl_v (r_ne rfl rfl) ?_
   refine Wl_v (r_pick_f (v := .bool (decide (((nd [2, 1, 0, 2] (wn [43]) (st [2, 1, 0, 2] (wn [43]) (tbt [43]) i44)).1) ≠ ([1, 0, 3].getD i44 0)))) rfl rfl) ?_
   refine Wl_nil ?_
   have q17 : ¬ (((nd [2, 1, 0, 2] (wn [43]) (st [2, 1, 0, 2] (wn [43]) (tbt [43]) i44)).1) ≠ ([1, 0, 3].getD i44 0)) := (fun h => h (w17_it i44 (by have := hi44; omega)).2)
   rw [decide_eq_false q17]
   refine W_cond_f rfl ?_
   refine W_skip ?_
   refine W_region ?_
   refine Wl_load (v := .int .i64 ((i44 : Nat) : Int)) Try.isAgg3 rfl hb40 rfl ?_
   refine Wl_v (r_add rfl rfl (wi64 (by omega) (by omega))) ?_
   refine Wl_store (v := .int .i64 (((i44 : Nat) : Int) + 1)) (cs' := [.int .i64 (((i44 : Nat) : Int) + 1)]) Try.sizeOf3 rfl rfl rfl rfl hb40 rfl rfl ?_
   intro w48 hU48 hzz48 hb40n
   replace hb40 := hb40n; clear hb40n
   have hzw48 := hU48.size
   replace hrc43 := hrc43.upd1 hU48 (by omega)
   replace hdf43 := hdf43.upd1 hU48 (by omega)
   replace hb1 := hb1.upd1 hU48 (by omega)
   replace hb4 := hb4.upd1 hU48 (by omega)
   replace hb39 := hb39.upd1 hU48 (by omega)
   replace hs3 := hs3.upd1 hU48 (by intro h1; have h3 : B40 = B3 := h1; omega)
   replace hs38 := hs38.upd1 hU48 (by intro h1; have h3 : B40 = B38 := h1; omega)
   replace HU := HU.trans1 hU48 (by show (False) ∨ w.heap.size ≤ B40; omega)
   replace HB43 := HB43.trans1 hU48 (by show (B40 = B40 ∨ B40 = D43 + 1) ∨ w44.heap.size ≤ B40; omega)
   refine Wl_nil ?_
   refine ⟨rfl, _, hrc43, ?_⟩
   intro w49 hU49 hzz49 hrz
   have hzw49 := hU49.size
   replace hdf43 := hdf43.upd1 hU49 (by omega)
   replace hb40 := hb40.upd1 hU49 (by omega)
   replace hb1 := hb1.upd1 hU49 (by omega)
   replace hb4 := hb4.upd1 hU49 (by omega)
   replace hb39 := hb39.upd1 hU49 (by omega)
   replace hs3 := hs3.upd1 hU49 (by intro h1; have h3 : (D43 + 1) = B3 := h1; omega)
   replace hs38 := hs38.upd1 hU49 (by intro h1; have h3 : (D43 + 1) = B38 := h1; omega)
   replace HU := HU.trans1 hU49 (by show (False) ∨ w.heap.size ≤ (D43 + 1); omega)
   replace HB43 := HB43.trans1 hU49 (by show ((D43 + 1) = B40 ∨ (D43 + 1) = D43 + 1) ∨ w44.heap.size ≤ (D43 + 1); omega)
   exact Or.inl ⟨rfl, HB43, (hJ43 _ _).2 ⟨(by rw [hr43]; rw [hr43] at hrz; exact hrz), hdf43, hb40, hb1, hb4, hb39, hs3, hs38, HU⟩⟩
  ·rintro b c w9 (⟨rfl, h1, h2⟩ | ⟨rfl, h1⟩)
   ·exact Or.inl ⟨rfl, h1, h2⟩
   ·exact Or.inr ⟨rfl, h1⟩
 rintro e w50 ⟨v, rfl, hh | hh⟩
 ·obtain ⟨hrc43, hdf43, hb40, hb1, hb4, hb39, hs3, hs38, HU⟩ := (hJ43 _ _).1 hh
  have hrl43 := hrc43.lt
  refine ⟨r43, hrc43, (by rw [hr43]; simp), ?_⟩
  intro w51 hU51 hzz51
  have hzw51 := hU51.size
  replace hdf43 := hdf43.upd1 hU51 (by omega)
  replace hb40 := hb40.upd1 hU51 (by omega)
  replace hb1 := hb1.upd1 hU51 (by omega)
  replace HU := HU.trans1 hU51 (by show (False) ∨ w.heap.size ≤ (D43 + 1); omega)
  rw [hr43]
  skip
  refine W_seq ?_
  refine W_region ?_
  refine Wl_load (v := .int .i64 ((nb [2, 1, 0, 2] (wn [43]) (tbt [43]) : Nat) : Int)) Try.isAgg3 rfl hb40 rfl ?_
  refine Wl_v (r_eq rfl rfl) ?_
  refine Wl_store (v := .bool (decide (((nb [2, 1, 0, 2] (wn [43]) (tbt [43]) : Nat) : Int) = 3))) (cs' := [.bool (decide (((nb [2, 1, 0, 2] (wn [43]) (tbt [43]) : Nat) : Int) = 3))]) Try.sizeOf4 rfl rfl rfl rfl hb1 rfl rfl ?_
  intro w52 hU52 hzz52 hb1n
  replace hb1 := hb1n; clear hb1n
  have hzw52 := hU52.size
  replace hdf43 := hdf43.upd1 hU52 (by omega)
  replace HU := HU.trans1 hU52 (by show (False) ∨ w.heap.size ≤ B1; omega)
  refine Wl_nil ?_
  refine W_ret ?_
  refine ret_ds rfl ?_
  refine lv_mark (by simp) hdf43 ?_
  intro w53 hU53 hzz53
  have hzw53 := hU53.size
  replace hb1 := hb1.upd1 hU53 (by omega)
  replace HU := HU.trans1 hU53 (by show (False) ∨ w.heap.size ≤ D43; omega)
  refine lv_nil (v := .bool (decide (((nb [2, 1, 0, 2] (wn [43]) (tbt [43]) : Nat) : Int) = 3))) (rc1 Try.results11 rfl (cellIs Try.isAgg4 hb1)) ?_
  exact ⟨_, rfl, (by rw [decide_eq_true (show ((nb [2, 1, 0, 2] (wn [43]) (tbt [43]) : Nat) : Int) = 3 from (by have := w17_nb; omega))]), HU⟩
 ·exact ((hJx43 _).1 hh).elim

end Go.Proofs.Ytilegaokfamfnaa
