/-
 Walks, printed by a small program of this project (gen.py).
-/
import Derived.Test.YtdppageondgjkaaGreatVk
import Derived.Test.YtdppageondgjkaaGreatZR
set_option linter.unusedVariables false
set_option linter.unusedSimpArgs false
namespace Go.Proofs.YtdppageondgjkaaGreat
open Go.Fw
open Nu
set_option maxHeartbeats 4000000 in
set_option maxRecDepth 100000 in
theorem renc4 {a a2 : Option Addr} {n c m d : Nat} {l b : List Int} {R : Nat → Prop} (w : World) (hs : Sl w R 1 (.slice a n c) n (ints .i64 l)) (hn : n ≤ 1000) (hsb : Sl w (fun g => g < w.heap.size) 1 (.slice a2 m d) m (ints .u8 b)) (hb : Byt b) (hm : m ≤ 100000) :
  Calls Tryz.prog 18 #[.slice a n c, .slice a2 m d] w (Ret fun v w' => ∃ (a' : Option Addr) (m' : Nat) (c' : Nat), v = .tuple #[.slice a' m' c', .int .i64 ((f4F l b).2)] ∧ Own w' (fun g => w.heap.size ≤ g) 5 1 (.slice a' m' c') m' (ints .u8 ((f4F l b).1)) ∧ Upd No w w') := by
 have HU : Upd (fun b => False) w w := Upd.refl _ _
 have hl_hs := ilen hs
 have hc_hs := hs.cap.1
 replace hs := hs.tight
 have hl_hsb := ilen hsb
 have hc_hsb := hsb.cap.1
 refine calls_of_W Tryz.func18 rfl Tryz.ntmps18 (by simp) ?_
 refine W_seq (W_region ?_)
 refine Was (.slice none 0 0) ?_
 refine Was (.int .i64 0) ?_
 refine Wl_nil (W_seq (W_seq (W_region ?_)))
 refine Wmv (.slice a n c) ?_
 refine Wmv (.slice a2 m d) ?_
 refine Wl_call (r_call2 rfl Tryz.call42 rfl rfl) (rbln_spec _ hs (by omega) hsb.any hb (by omega)) ?_
 rintro v w1 ⟨rfl, hU1⟩
 have hzw1 := hU1.size
 replace hs := hs.upd0 hU1
 replace hsb := hsb.upd0 hU1
 replace HU := HU.trans0 hU1
 refine Wmv (.tuple #[.int .i64 ((blF l b).1), .int .i64 ((blF l b).2)]) ?_
 refine Wl_v (r_ext (v := .int .i64 ((blF l b).1)) rfl rfl) ?_
 refine Wl_v (r_ext (v := .int .i64 ((blF l b).2)) rfl rfl) ?_
 refine Was (.int .i64 ((blF l b).1)) ?_
 refine Was (.int .i64 ((blF l b).2)) ?_
 refine Wl_nil (W_seq (W_region ?_))
 refine Wmv (.int .i64 ((blF l b).2)) ?_
 refine Wl_v (r_ne rfl rfl) ?_
 refine Wl_nil ?_
 by_cases q1 : ((blF l b).2) ≠ 0
 ·rw [decide_eq_true q1]
  refine W_cond_t rfl ?_
  refine W_seq (W_region ?_)
  refine Wmv (.int .i64 ((blF l b).2)) ?_
  refine Was (.slice none 0 0) ?_
  refine Was (.int .i64 ((blF l b).2)) ?_
  refine Wl_nil ?_
  refine W_ret ?_
  refine ret_end (v := .tuple #[.slice none 0 0, .int .i64 ((blF l b).2)]) rfl (res2 Tryz.results18 rfl rfl) ?_
  have hF := f4F_e (l := l) (b := b) q1
  exact ⟨_, rfl, none, 0, 0, (vtup2 rfl (vint (by rw [hF]))), (by rw [hF]; exact (Own.nil _ _ 5 1)), HU⟩
 ·rw [decide_eq_false q1]
  refine W_cond_f rfl ?_
  refine W_skip (W_seq (W_region ?_))
  refine Wmv (.slice a2 m d) ?_
  refine Wl_v (r_len Tryz.underlying32 rfl) ?_
  by_cases q2 : paF ((m : Nat) : Int) = 0
  ·have hpi := paF_inv q2
   obtain ⟨hrq, hhq⟩ := blF_0 (Classical.not_not.1 q1)
   obtain ⟨k, hk⟩ : ∃ k, k = (m + 3) / 4 := ⟨_, rfl⟩
   obtain ⟨r, hkr⟩ : ∃ r, 3 * k + r = m := ⟨m - 3 * k, by omega⟩
   have b1 := out_lel (b := b) hrq 0 k
   have b2 := out_lel (b := b) hrq k (2 * k)
   have b3 := out_lel (b := b) hrq (2 * k) (3 * k)
   have b4 := out_lel (b := b) hrq (3 * k) (3 * k + r)
   refine Wl_call (r_call1 rfl Tryz.call12 rfl) (rparts_ok (n := ((m : Nat) : Int)) _ (by omega) q2) ?_
   rintro v w2 ⟨a2x, c2, rfl, hO2, hU2⟩
   have hzw2 := hU2.size
   replace hs := hs.upd0 hU2
   replace hsb := hsb.upd0 hU2
   replace HU := HU.trans0 hU2
   replace hO2 := hO2.tight
   have hl_hO2 := ilen hO2.sl
   have hc_hO2 := hO2.sl.cap.1
   replace hO2 := hO2.icong (show [(((m : Nat) : Int) + 3) / 4, (((m : Nat) : Int) + 3) / 4, (((m : Nat) : Int) + 3) / 4, ((m : Nat) : Int) - 3 * ((((m : Nat) : Int) + 3) / 4)] = [((k : Nat) : Int), ((k : Nat) : Int), ((k : Nat) : Int), ((r : Nat) : Int)] from (by simp only [List.cons.injEq, and_true]; omega))
   have hz_hO2 : 4 = ([((k : Nat) : Int), ((k : Nat) : Int), ((k : Nat) : Int), ((r : Nat) : Int)] : List Int).length := (ilen hO2.sl).symm
   refine Wmv (.tuple #[.slice a2x 4 c2, .int .i64 0]) ?_
   refine Wl_v (r_ext (v := .slice a2x 4 c2) rfl rfl) ?_
   refine Wl_v (r_ext (v := .int .i64 0) rfl rfl) ?_
   refine Was (.slice a2x 4 c2) ?_
   refine Was (.int .i64 0) ?_
   refine Wl_nil (W_seq (W_seq (W_region ?_)))
   refine Wmv (.int .i64 0) ?_
   refine Wl_v (v := .bool false) (r_ne (a := 0) (b := 0) rfl rfl) ?_
   refine Wl_nil ?_
   refine W_cond_f rfl ?_
   refine W_skip (W_seq (W_region ?_))
   refine Was (.slice none 0 0) ?_
   refine Wl_nil (W_seq (W_region ?_))
   refine Was (.int .i64 0) ?_
   refine Wl_nil (W_seq (W_seq (W_region ?_)))
   refine Was (.int .i64 0) ?_
   refine Wl_nil (W_block ?_)
   refine W_unroll 5 ?_
   refine unrK_succ ?_
   refine W_seq (W_seq (W_region ?_))
   refine Wmv (.int .i64 0) ?_
   refine Wl_v (v := .bool true) (r_lt (a := 0) (b := 4) rfl rfl) ?_
   refine Wl_nil ?_
   refine W_cond_t rfl ?_
   refine W_skip (W_seq (W_block (W_seq (W_region ?_))))
   refine Wmv (.slice a n c) ?_
   refine Wmv (.slice a2 m d) ?_
   refine Wmv (.int .i64 0) ?_
   refine Wmv (.int .i64 0) ?_
   refine Wmv (.slice a2x 4 c2) ?_
   refine Wmv (.int .i64 0) ?_
   refine Wl_idxi Tryz.underlying22 Tryz.sizeOf3 rfl rfl hO2.sl (by omega) (by omega) ?_
   intro ib3 io3 hc3
   rw [show (0 : Int).toNat = 0 from rfl] at hc3
   rw [show ([((k : Nat) : Int), ((k : Nat) : Int), ((k : Nat) : Int), ((r : Nat) : Int)] : List Int).getD 0 0 = ((k : Nat) : Int) from rfl] at hc3
   refine Wl_loadc Tryz.isAgg3 rfl hc3 ?_
   refine Wl_v (r_add rfl rfl (wi64 (by omega) (by omega))) ?_
   rw [show (0 + ((k : Nat) : Int) : Int) = ((k : Nat) : Int) from by omega]
   refine Wl_v (r_slicen (l' := 0) (h' := k) (n' := k - 0) Tryz.underlying32 Tryz.sizeOf5 rfl rfl rfl (by omega) (by omega) (by omega) (by omega) (by omega)) ?_
   have hT4 := Sl.cutn (l := 0) (n := k - 0) hsb (by omega)
   have hl_hT4 := ilen hT4
   have hc_hT4 := hT4.cap.1
   refine Wl_call (r_call2 rfl Tryz.call43 rfl rfl) (renc_spec _ hs (by omega) hT4.any ((hb.drop _).take _) (by omega)) ?_
   rintro v w5 ⟨a5, m5, c5, rfl, hO5, hU5⟩
   have hzw5 := hU5.size
   replace hs := hs.upd0 hU5
   replace hsb := hsb.upd0 hU5
   replace HU := HU.trans0 hU5
   replace hO2 := hO2.upd0 hU5
   replace hO5 := hO5.tight
   have hl_hO5 := ilen hO5.sl
   have hc_hO5 := hO5.sl.cap.1
   replace hO5 := hO5.icong (show (ecF l ((b.drop 0).take (k - 0))).1 = out l (pt b 0 k) from (by rw [ecF_pt hrq hhq]))
   have hz_hO5 : m5 = (out l (pt b 0 k) : List Int).length := (ilen hO5.sl).symm
   refine Wmv (.tuple #[.slice a5 m5 c5, .int .i64 ((ecF l ((b.drop 0).take (k - 0))).2)]) ?_
   refine Wl_v (r_ext (v := .slice a5 m5 c5) rfl rfl) ?_
   refine Wl_v (r_ext (v := .int .i64 ((ecF l ((b.drop 0).take (k - 0))).2)) rfl rfl) ?_
   refine Was (.slice a5 m5 c5) ?_
   refine Was (.int .i64 ((ecF l ((b.drop 0).take (k - 0))).2)) ?_
   refine Wl_nil (W_seq (W_region ?_))
   refine Wmv (.slice none 0 0) ?_
   refine Wmv (.slice a5 m5 c5) ?_
   refine Wl_lit (pv := [(0, .slice a5 m5 c5)]) (cs := [.slice a5 m5 c5]) Tryz.underlying41 Tryz.sizeOf32 Tryz.zeroValue32 (by decide) (by decide) (by simp only [List.map_toArray, List.map_cons, List.map_nil] <;> rfl) (by kernel_rfl) rfl (by decide) ?_
   intro B6 w6 hB6 hU6 hzz6 hs6
   have hzw6 := hU6.size
   replace hs := hs.upd0 hU6
   replace hsb := hsb.upd0 hU6
   replace HU := HU.trans0 hU6
   replace hO2 := hO2.upd0 hU6
   replace hO5 := hO5.upd0 hU6
   refine Wl_appendc (cs3 := [.slice a5 m5 c5]) (tot := 1) (by first | rfl | exact (rows_app _ _).symm | simp) Tryz.underlying41 (ti := Tryz.t32) (z := .slice none 0 0) (sz := 1) (by' := 24) rfl rfl rfl rfl rfl (by decide) rfl (Own.nil _ No _ _) rfl hs6.sl (by intro u hu; simp at hu; subst hu; rfl) (by omega) (by simp only [maxLen]; omega) (by omega) ?_
   intro a7 c7 w7 hU7 hzz7 hO7
   have hzw7 := hU7.size
   replace hs := hs.upd0 hU7
   replace hsb := hsb.upd0 hU7
   replace HU := HU.trans0 hU7
   replace hO2 := hO2.upd0 hU7
   replace hO5 := hO5.upd0 hU7
   replace hO7 := hO7.weak (R' := fun g => g = w6.heap.size) (fun g h => h.elim (fun x => x.elim) id)
   replace hO7 := hO7.tight
   have hl_hO7 := hO7.sl.len
   have hc_hO7 := hO7.sl.cap.1
   refine Was (.slice a7 1 c7) ?_
   refine Wl_nil (W_region ?_)
   refine Wmv (.int .i64 0) ?_
   refine Wmv (.slice a2x 4 c2) ?_
   refine Wmv (.int .i64 0) ?_
   refine Wl_idxi Tryz.underlying22 Tryz.sizeOf3 rfl rfl hO2.sl (by omega) (by omega) ?_
   intro ib8 io8 hc8
   rw [show (0 : Int).toNat = 0 from rfl] at hc8
   rw [show ([((k : Nat) : Int), ((k : Nat) : Int), ((k : Nat) : Int), ((r : Nat) : Int)] : List Int).getD 0 0 = ((k : Nat) : Int) from rfl] at hc8
   refine Wl_loadc Tryz.isAgg3 rfl hc8 ?_
   refine Wl_v (r_add rfl rfl (wi64 (by omega) (by omega))) ?_
   rw [show (0 + ((k : Nat) : Int) : Int) = ((k : Nat) : Int) from by omega]
   refine Was (.int .i64 ((k : Nat) : Int)) ?_
   refine Wl_nil (W_region ?_)
   refine Wmv (.int .i64 0) ?_
   refine Wl_v (r_add rfl rfl (show _ = (1 : Int) from by decide)) ?_
   refine Was (.int .i64 1) ?_
   refine Wl_nil ?_
   refine unrK_succ ?_
   refine W_seq (W_seq (W_region ?_))
   refine Wmv (.int .i64 1) ?_
   refine Wl_v (v := .bool true) (r_lt (a := 1) (b := 4) rfl rfl) ?_
   refine Wl_nil ?_
   refine W_cond_t rfl ?_
   refine W_skip (W_seq (W_block (W_seq (W_region ?_))))
   refine Wmv (.slice a n c) ?_
   refine Wmv (.slice a2 m d) ?_
   refine Wmv (.int .i64 ((k : Nat) : Int)) ?_
   refine Wmv (.int .i64 ((k : Nat) : Int)) ?_
   refine Wmv (.slice a2x 4 c2) ?_
   refine Wmv (.int .i64 1) ?_
   refine Wl_idxi Tryz.underlying22 Tryz.sizeOf3 rfl rfl hO2.sl (by omega) (by omega) ?_
   intro ib9 io9 hc9
   rw [show (1 : Int).toNat = 1 from rfl] at hc9
   rw [show ([((k : Nat) : Int), ((k : Nat) : Int), ((k : Nat) : Int), ((r : Nat) : Int)] : List Int).getD 1 0 = ((k : Nat) : Int) from rfl] at hc9
   refine Wl_loadc Tryz.isAgg3 rfl hc9 ?_
   refine Wl_v (r_add rfl rfl (wi64 (by omega) (by omega))) ?_
   rw [show (((k : Nat) : Int) + ((k : Nat) : Int) : Int) = ((2 * k : Nat) : Int) from by omega]
   refine Wl_v (r_slicen (l' := k) (h' := (2 * k)) (n' := (2 * k) - k) Tryz.underlying32 Tryz.sizeOf5 rfl rfl rfl (by omega) (by omega) (by omega) (by omega) (by omega)) ?_
   have hT10 := Sl.cutn (l := k) (n := (2 * k) - k) hsb (by omega)
   have hl_hT10 := ilen hT10
   have hc_hT10 := hT10.cap.1
   refine Wl_call (r_call2 rfl Tryz.call43 rfl rfl) (renc_spec _ hs (by omega) hT10.any ((hb.drop _).take _) (by omega)) ?_
   rintro v w11 ⟨a11, m11, c11, rfl, hO11, hU11⟩
   have hzw11 := hU11.size
   replace hs := hs.upd0 hU11
   replace hsb := hsb.upd0 hU11
   replace HU := HU.trans0 hU11
   replace hO2 := hO2.upd0 hU11
   replace hO5 := hO5.upd0 hU11
   replace hO7 := hO7.upd0 hU11
   replace hO11 := hO11.tight
   have hl_hO11 := ilen hO11.sl
   have hc_hO11 := hO11.sl.cap.1
   replace hO11 := hO11.icong (show (ecF l ((b.drop k).take ((2 * k) - k))).1 = out l (pt b k (2 * k)) from (by rw [ecF_pt hrq hhq]))
   have hz_hO11 : m11 = (out l (pt b k (2 * k)) : List Int).length := (ilen hO11.sl).symm
   refine Wmv (.tuple #[.slice a11 m11 c11, .int .i64 ((ecF l ((b.drop k).take ((2 * k) - k))).2)]) ?_
   refine Wl_v (r_ext (v := .slice a11 m11 c11) rfl rfl) ?_
   refine Wl_v (r_ext (v := .int .i64 ((ecF l ((b.drop k).take ((2 * k) - k))).2)) rfl rfl) ?_
   refine Was (.slice a11 m11 c11) ?_
   refine Was (.int .i64 ((ecF l ((b.drop k).take ((2 * k) - k))).2)) ?_
   refine Wl_nil (W_seq (W_region ?_))
   refine Wmv (.slice a7 1 c7) ?_
   refine Wmv (.slice a11 m11 c11) ?_
   refine Wl_lit (pv := [(0, .slice a11 m11 c11)]) (cs := [.slice a11 m11 c11]) Tryz.underlying41 Tryz.sizeOf32 Tryz.zeroValue32 (by decide) (by decide) (by simp only [List.map_toArray, List.map_cons, List.map_nil] <;> rfl) (by kernel_rfl) rfl (by decide) ?_
   intro B12 w12 hB12 hU12 hzz12 hs12
   have hzw12 := hU12.size
   replace hs := hs.upd0 hU12
   replace hsb := hsb.upd0 hU12
   replace HU := HU.trans0 hU12
   replace hO2 := hO2.upd0 hU12
   replace hO5 := hO5.upd0 hU12
   replace hO7 := hO7.upd0 hU12
   replace hO11 := hO11.upd0 hU12
   refine Wl_appendc (cs3 := [.slice a5 m5 c5, .slice a11 m11 c11]) (tot := 2) (by first | rfl | exact (rows_app _ _).symm | simp) Tryz.underlying41 (ti := Tryz.t32) (z := .slice none 0 0) (sz := 1) (by' := 24) rfl rfl rfl rfl rfl (by decide) rfl hO7 rfl hs12.sl (by intro u hu; simp at hu; subst hu; rfl) (by omega) (by simp only [maxLen]; omega) (by omega) ?_
   intro a13 c13 w13 hU13 hzz13 hO13
   clear hO7
   have hzw13 := hU13.size
   replace hs := hs.upd hU13 (by intro x h1 h2; have h3 : ((R x) ∧ x < w.heap.size) := h1; have h4 : ((x = w6.heap.size) ∧ x < w7.heap.size) := h2; omega)
   replace hsb := hsb.upd hU13 (by intro x h1 h2; have h3 : x < w.heap.size := h1; have h4 : ((x = w6.heap.size) ∧ x < w7.heap.size) := h2; omega)
   replace HU := HU.trans hU13 (by intro x hx; have hx2 : ((x = w6.heap.size) ∧ x < w7.heap.size) := hx; show (False) ∨ w.heap.size ≤ x; omega)
   replace hO2 := hO2.upd hU13 (by intro x h1 h2; have h3 : ((w1.heap.size ≤ x) ∧ x < w2.heap.size) := h1; have h4 : ((x = w6.heap.size) ∧ x < w7.heap.size) := h2; omega)
   replace hO5 := hO5.upd hU13 (by intro x h1 h2; have h3 : ((w2.heap.size ≤ x) ∧ x < w5.heap.size) := h1; have h4 : ((x = w6.heap.size) ∧ x < w7.heap.size) := h2; omega)
   replace hO11 := hO11.upd hU13 (by intro x h1 h2; have h3 : ((w7.heap.size ≤ x) ∧ x < w11.heap.size) := h1; have h4 : ((x = w6.heap.size) ∧ x < w7.heap.size) := h2; omega)
   replace hO13 := hO13.tight
   have hl_hO13 := hO13.sl.len
   have hc_hO13 := hO13.sl.cap.1
   refine Was (.slice a13 2 c13) ?_
   refine Wl_nil (W_region ?_)
   refine Wmv (.int .i64 ((k : Nat) : Int)) ?_
   refine Wmv (.slice a2x 4 c2) ?_
   refine Wmv (.int .i64 1) ?_
   refine Wl_idxi Tryz.underlying22 Tryz.sizeOf3 rfl rfl hO2.sl (by omega) (by omega) ?_
   intro ib14 io14 hc14
   rw [show (1 : Int).toNat = 1 from rfl] at hc14
   rw [show ([((k : Nat) : Int), ((k : Nat) : Int), ((k : Nat) : Int), ((r : Nat) : Int)] : List Int).getD 1 0 = ((k : Nat) : Int) from rfl] at hc14
   refine Wl_loadc Tryz.isAgg3 rfl hc14 ?_
   refine Wl_v (r_add rfl rfl (wi64 (by omega) (by omega))) ?_
   rw [show (((k : Nat) : Int) + ((k : Nat) : Int) : Int) = ((2 * k : Nat) : Int) from by omega]
   refine Was (.int .i64 ((2 * k : Nat) : Int)) ?_
   refine Wl_nil (W_region ?_)
   refine Wmv (.int .i64 1) ?_
   refine Wl_v (r_add rfl rfl (show _ = (2 : Int) from by decide)) ?_
   refine Was (.int .i64 2) ?_
   refine Wl_nil ?_
   refine unrK_succ ?_
   refine W_seq (W_seq (W_region ?_))
   refine Wmv (.int .i64 2) ?_
   refine Wl_v (v := .bool true) (r_lt (a := 2) (b := 4) rfl rfl) ?_
   refine Wl_nil ?_
   refine W_cond_t rfl ?_
   refine W_skip (W_seq (W_block (W_seq (W_region ?_))))
   refine Wmv (.slice a n c) ?_
   refine Wmv (.slice a2 m d) ?_
   refine Wmv (.int .i64 ((2 * k : Nat) : Int)) ?_
   refine Wmv (.int .i64 ((2 * k : Nat) : Int)) ?_
   refine Wmv (.slice a2x 4 c2) ?_
   refine Wmv (.int .i64 2) ?_
   refine Wl_idxi Tryz.underlying22 Tryz.sizeOf3 rfl rfl hO2.sl (by omega) (by omega) ?_
   intro ib15 io15 hc15
   rw [show (2 : Int).toNat = 2 from rfl] at hc15
   rw [show ([((k : Nat) : Int), ((k : Nat) : Int), ((k : Nat) : Int), ((r : Nat) : Int)] : List Int).getD 2 0 = ((k : Nat) : Int) from rfl] at hc15
   refine Wl_loadc Tryz.isAgg3 rfl hc15 ?_
   refine Wl_v (r_add rfl rfl (wi64 (by omega) (by omega))) ?_
   rw [show (((2 * k : Nat) : Int) + ((k : Nat) : Int) : Int) = ((3 * k : Nat) : Int) from by omega]
   refine Wl_v (r_slicen (l' := (2 * k)) (h' := (3 * k)) (n' := (3 * k) - (2 * k)) Tryz.underlying32 Tryz.sizeOf5 rfl rfl rfl (by omega) (by omega) (by omega) (by omega) (by omega)) ?_
   have hT16 := Sl.cutn (l := (2 * k)) (n := (3 * k) - (2 * k)) hsb (by omega)
   have hl_hT16 := ilen hT16
   have hc_hT16 := hT16.cap.1
   refine Wl_call (r_call2 rfl Tryz.call43 rfl rfl) (renc_spec _ hs (by omega) hT16.any ((hb.drop _).take _) (by omega)) ?_
   rintro v w17 ⟨a17, m17, c17, rfl, hO17, hU17⟩
   have hzw17 := hU17.size
   replace hs := hs.upd0 hU17
   replace hsb := hsb.upd0 hU17
   replace HU := HU.trans0 hU17
   replace hO2 := hO2.upd0 hU17
   replace hO5 := hO5.upd0 hU17
   replace hO11 := hO11.upd0 hU17
   replace hO13 := hO13.upd0 hU17
   replace hO17 := hO17.tight
   have hl_hO17 := ilen hO17.sl
   have hc_hO17 := hO17.sl.cap.1
   replace hO17 := hO17.icong (show (ecF l ((b.drop (2 * k)).take ((3 * k) - (2 * k)))).1 = out l (pt b (2 * k) (3 * k)) from (by rw [ecF_pt hrq hhq]))
   have hz_hO17 : m17 = (out l (pt b (2 * k) (3 * k)) : List Int).length := (ilen hO17.sl).symm
   refine Wmv (.tuple #[.slice a17 m17 c17, .int .i64 ((ecF l ((b.drop (2 * k)).take ((3 * k) - (2 * k)))).2)]) ?_
   refine Wl_v (r_ext (v := .slice a17 m17 c17) rfl rfl) ?_
   refine Wl_v (r_ext (v := .int .i64 ((ecF l ((b.drop (2 * k)).take ((3 * k) - (2 * k)))).2)) rfl rfl) ?_
   refine Was (.slice a17 m17 c17) ?_
   refine Was (.int .i64 ((ecF l ((b.drop (2 * k)).take ((3 * k) - (2 * k)))).2)) ?_
   refine Wl_nil (W_seq (W_region ?_))
   refine Wmv (.slice a13 2 c13) ?_
   refine Wmv (.slice a17 m17 c17) ?_
   refine Wl_lit (pv := [(0, .slice a17 m17 c17)]) (cs := [.slice a17 m17 c17]) Tryz.underlying41 Tryz.sizeOf32 Tryz.zeroValue32 (by decide) (by decide) (by simp only [List.map_toArray, List.map_cons, List.map_nil] <;> rfl) (by kernel_rfl) rfl (by decide) ?_
   intro B18 w18 hB18 hU18 hzz18 hs18
   have hzw18 := hU18.size
   replace hs := hs.upd0 hU18
   replace hsb := hsb.upd0 hU18
   replace HU := HU.trans0 hU18
   replace hO2 := hO2.upd0 hU18
   replace hO5 := hO5.upd0 hU18
   replace hO11 := hO11.upd0 hU18
   replace hO13 := hO13.upd0 hU18
   replace hO17 := hO17.upd0 hU18
   refine Wl_appendc (cs3 := [.slice a5 m5 c5, .slice a11 m11 c11, .slice a17 m17 c17]) (tot := 3) (by first | rfl | exact (rows_app _ _).symm | simp) Tryz.underlying41 (ti := Tryz.t32) (z := .slice none 0 0) (sz := 1) (by' := 24) rfl rfl rfl rfl rfl (by decide) rfl hO13 rfl hs18.sl (by intro u hu; simp at hu; subst hu; rfl) (by omega) (by simp only [maxLen]; omega) (by omega) ?_
   intro a19 c19 w19 hU19 hzz19 hO19
   clear hO13
   have hzw19 := hU19.size
   replace hs := hs.upd hU19 (by intro x h1 h2; have h3 : ((R x) ∧ x < w.heap.size) := h1; have h4 : ((((((x = w6.heap.size) ∧ x < w7.heap.size)) ∨ x = w12.heap.size)) ∧ x < w13.heap.size) := h2; omega)
   replace hsb := hsb.upd hU19 (by intro x h1 h2; have h3 : x < w.heap.size := h1; have h4 : ((((((x = w6.heap.size) ∧ x < w7.heap.size)) ∨ x = w12.heap.size)) ∧ x < w13.heap.size) := h2; omega)
   replace HU := HU.trans hU19 (by intro x hx; have hx2 : ((((((x = w6.heap.size) ∧ x < w7.heap.size)) ∨ x = w12.heap.size)) ∧ x < w13.heap.size) := hx; show (False) ∨ w.heap.size ≤ x; omega)
   replace hO2 := hO2.upd hU19 (by intro x h1 h2; have h3 : ((w1.heap.size ≤ x) ∧ x < w2.heap.size) := h1; have h4 : ((((((x = w6.heap.size) ∧ x < w7.heap.size)) ∨ x = w12.heap.size)) ∧ x < w13.heap.size) := h2; omega)
   replace hO5 := hO5.upd hU19 (by intro x h1 h2; have h3 : ((w2.heap.size ≤ x) ∧ x < w5.heap.size) := h1; have h4 : ((((((x = w6.heap.size) ∧ x < w7.heap.size)) ∨ x = w12.heap.size)) ∧ x < w13.heap.size) := h2; omega)
   replace hO11 := hO11.upd hU19 (by intro x h1 h2; have h3 : ((w7.heap.size ≤ x) ∧ x < w11.heap.size) := h1; have h4 : ((((((x = w6.heap.size) ∧ x < w7.heap.size)) ∨ x = w12.heap.size)) ∧ x < w13.heap.size) := h2; omega)
   replace hO17 := hO17.upd hU19 (by intro x h1 h2; have h3 : ((w13.heap.size ≤ x) ∧ x < w17.heap.size) := h1; have h4 : ((((((x = w6.heap.size) ∧ x < w7.heap.size)) ∨ x = w12.heap.size)) ∧ x < w13.heap.size) := h2; omega)
   replace hO19 := hO19.tight
   have hl_hO19 := hO19.sl.len
   have hc_hO19 := hO19.sl.cap.1
   refine Was (.slice a19 3 c19) ?_
   refine Wl_nil (W_region ?_)
   refine Wmv (.int .i64 ((2 * k : Nat) : Int)) ?_
   refine Wmv (.slice a2x 4 c2) ?_
   refine Wmv (.int .i64 2) ?_
   refine Wl_idxi Tryz.underlying22 Tryz.sizeOf3 rfl rfl hO2.sl (by omega) (by omega) ?_
   intro ib20 io20 hc20
   rw [show (2 : Int).toNat = 2 from rfl] at hc20
   rw [show ([((k : Nat) : Int), ((k : Nat) : Int), ((k : Nat) : Int), ((r : Nat) : Int)] : List Int).getD 2 0 = ((k : Nat) : Int) from rfl] at hc20
   refine Wl_loadc Tryz.isAgg3 rfl hc20 ?_
   refine Wl_v (r_add rfl rfl (wi64 (by omega) (by omega))) ?_
   rw [show (((2 * k : Nat) : Int) + ((k : Nat) : Int) : Int) = ((3 * k : Nat) : Int) from by omega]
   refine Was (.int .i64 ((3 * k : Nat) : Int)) ?_
   refine Wl_nil (W_region ?_)
   refine Wmv (.int .i64 2) ?_
   refine Wl_v (r_add rfl rfl (show _ = (3 : Int) from by decide)) ?_
   refine Was (.int .i64 3) ?_
   refine Wl_nil ?_
   refine unrK_succ ?_
   refine W_seq (W_seq (W_region ?_))
   refine Wmv (.int .i64 3) ?_
   refine Wl_v (v := .bool true) (r_lt (a := 3) (b := 4) rfl rfl) ?_
   refine Wl_nil ?_
   refine W_cond_t rfl ?_
   refine W_skip (W_seq (W_block (W_seq (W_region ?_))))
   refine Wmv (.slice a n c) ?_
   refine Wmv (.slice a2 m d) ?_
   refine Wmv (.int .i64 ((3 * k : Nat) : Int)) ?_
   refine Wmv (.int .i64 ((3 * k : Nat) : Int)) ?_
   refine Wmv (.slice a2x 4 c2) ?_
   refine Wmv (.int .i64 3) ?_
   refine Wl_idxi Tryz.underlying22 Tryz.sizeOf3 rfl rfl hO2.sl (by omega) (by omega) ?_
   intro ib21 io21 hc21
   rw [show (3 : Int).toNat = 3 from rfl] at hc21
   rw [show ([((k : Nat) : Int), ((k : Nat) : Int), ((k : Nat) : Int), ((r : Nat) : Int)] : List Int).getD 3 0 = ((r : Nat) : Int) from rfl] at hc21
   refine Wl_loadc Tryz.isAgg3 rfl hc21 ?_
   refine Wl_v (r_add rfl rfl (wi64 (by omega) (by omega))) ?_
   rw [show (((3 * k : Nat) : Int) + ((r : Nat) : Int) : Int) = ((3 * k + r : Nat) : Int) from by omega]
   refine Wl_v (r_slicen (l' := (3 * k)) (h' := (3 * k + r)) (n' := (3 * k + r) - (3 * k)) Tryz.underlying32 Tryz.sizeOf5 rfl rfl rfl (by omega) (by omega) (by omega) (by omega) (by omega)) ?_
   have hT22 := Sl.cutn (l := (3 * k)) (n := (3 * k + r) - (3 * k)) hsb (by omega)
   have hl_hT22 := ilen hT22
   have hc_hT22 := hT22.cap.1
   refine Wl_call (r_call2 rfl Tryz.call43 rfl rfl) (renc_spec _ hs (by omega) hT22.any ((hb.drop _).take _) (by omega)) ?_
   rintro v w23 ⟨a23, m23, c23, rfl, hO23, hU23⟩
   have hzw23 := hU23.size
   replace HU := HU.trans0 hU23
   replace hO2 := hO2.upd0 hU23
   replace hO5 := hO5.upd0 hU23
   replace hO11 := hO11.upd0 hU23
   replace hO17 := hO17.upd0 hU23
   replace hO19 := hO19.upd0 hU23
   replace hO23 := hO23.tight
   have hl_hO23 := ilen hO23.sl
   have hc_hO23 := hO23.sl.cap.1
   replace hO23 := hO23.icong (show (ecF l ((b.drop (3 * k)).take ((3 * k + r) - (3 * k)))).1 = out l (pt b (3 * k) (3 * k + r)) from (by rw [ecF_pt hrq hhq]))
   have hz_hO23 : m23 = (out l (pt b (3 * k) (3 * k + r)) : List Int).length := (ilen hO23.sl).symm
   refine Wmv (.tuple #[.slice a23 m23 c23, .int .i64 ((ecF l ((b.drop (3 * k)).take ((3 * k + r) - (3 * k)))).2)]) ?_
   refine Wl_v (r_ext (v := .slice a23 m23 c23) rfl rfl) ?_
   refine Wl_v (r_ext (v := .int .i64 ((ecF l ((b.drop (3 * k)).take ((3 * k + r) - (3 * k)))).2)) rfl rfl) ?_
   refine Was (.slice a23 m23 c23) ?_
   refine Was (.int .i64 ((ecF l ((b.drop (3 * k)).take ((3 * k + r) - (3 * k)))).2)) ?_
   refine Wl_nil (W_seq (W_region ?_))
   refine Wmv (.slice a19 3 c19) ?_
   refine Wmv (.slice a23 m23 c23) ?_
   refine Wl_lit (pv := [(0, .slice a23 m23 c23)]) (cs := [.slice a23 m23 c23]) Tryz.underlying41 Tryz.sizeOf32 Tryz.zeroValue32 (by decide) (by decide) (by simp only [List.map_toArray, List.map_cons, List.map_nil] <;> rfl) (by kernel_rfl) rfl (by decide) ?_
   intro B24 w24 hB24 hU24 hzz24 hs24
   have hzw24 := hU24.size
   replace HU := HU.trans0 hU24
   replace hO2 := hO2.upd0 hU24
   replace hO5 := hO5.upd0 hU24
   replace hO11 := hO11.upd0 hU24
   replace hO17 := hO17.upd0 hU24
   replace hO19 := hO19.upd0 hU24
   replace hO23 := hO23.upd0 hU24
   refine Wl_appendc (cs3 := [.slice a5 m5 c5, .slice a11 m11 c11, .slice a17 m17 c17, .slice a23 m23 c23]) (tot := 4) (by first | rfl | exact (rows_app _ _).symm | simp) Tryz.underlying41 (ti := Tryz.t32) (z := .slice none 0 0) (sz := 1) (by' := 24) rfl rfl rfl rfl rfl (by decide) rfl hO19 rfl hs24.sl (by intro u hu; simp at hu; subst hu; rfl) (by omega) (by simp only [maxLen]; omega) (by omega) ?_
   intro a25 c25 w25 hU25 hzz25 hO25
   clear hO19
   have hzw25 := hU25.size
   replace HU := HU.trans hU25 (by intro x hx; have hx2 : ((((((((((x = w6.heap.size) ∧ x < w7.heap.size)) ∨ x = w12.heap.size)) ∧ x < w13.heap.size)) ∨ x = w18.heap.size)) ∧ x < w19.heap.size) := hx; show (False) ∨ w.heap.size ≤ x; omega)
   replace hO2 := hO2.upd hU25 (by intro x h1 h2; have h3 : ((w1.heap.size ≤ x) ∧ x < w2.heap.size) := h1; have h4 : ((((((((((x = w6.heap.size) ∧ x < w7.heap.size)) ∨ x = w12.heap.size)) ∧ x < w13.heap.size)) ∨ x = w18.heap.size)) ∧ x < w19.heap.size) := h2; omega)
   replace hO5 := hO5.upd hU25 (by intro x h1 h2; have h3 : ((w2.heap.size ≤ x) ∧ x < w5.heap.size) := h1; have h4 : ((((((((((x = w6.heap.size) ∧ x < w7.heap.size)) ∨ x = w12.heap.size)) ∧ x < w13.heap.size)) ∨ x = w18.heap.size)) ∧ x < w19.heap.size) := h2; omega)
   replace hO11 := hO11.upd hU25 (by intro x h1 h2; have h3 : ((w7.heap.size ≤ x) ∧ x < w11.heap.size) := h1; have h4 : ((((((((((x = w6.heap.size) ∧ x < w7.heap.size)) ∨ x = w12.heap.size)) ∧ x < w13.heap.size)) ∨ x = w18.heap.size)) ∧ x < w19.heap.size) := h2; omega)
   replace hO17 := hO17.upd hU25 (by intro x h1 h2; have h3 : ((w13.heap.size ≤ x) ∧ x < w17.heap.size) := h1; have h4 : ((((((((((x = w6.heap.size) ∧ x < w7.heap.size)) ∨ x = w12.heap.size)) ∧ x < w13.heap.size)) ∨ x = w18.heap.size)) ∧ x < w19.heap.size) := h2; omega)
   replace hO23 := hO23.upd hU25 (by intro x h1 h2; have h3 : ((w19.heap.size ≤ x) ∧ x < w23.heap.size) := h1; have h4 : ((((((((((x = w6.heap.size) ∧ x < w7.heap.size)) ∨ x = w12.heap.size)) ∧ x < w13.heap.size)) ∨ x = w18.heap.size)) ∧ x < w19.heap.size) := h2; omega)
   replace hO25 := hO25.tight
   have hl_hO25 := hO25.sl.len
   have hc_hO25 := hO25.sl.cap.1
   refine Was (.slice a25 4 c25) ?_
   refine Wl_nil (W_region ?_)
   refine Wmv (.int .i64 ((3 * k : Nat) : Int)) ?_
   refine Wmv (.slice a2x 4 c2) ?_
   refine Wmv (.int .i64 3) ?_
   refine Wl_idxi Tryz.underlying22 Tryz.sizeOf3 rfl rfl hO2.sl (by omega) (by omega) ?_
   intro ib26 io26 hc26
   rw [show (3 : Int).toNat = 3 from rfl] at hc26
   rw [show ([((k : Nat) : Int), ((k : Nat) : Int), ((k : Nat) : Int), ((r : Nat) : Int)] : List Int).getD 3 0 = ((r : Nat) : Int) from rfl] at hc26
   refine Wl_loadc Tryz.isAgg3 rfl hc26 ?_
   refine Wl_v (r_add rfl rfl (wi64 (by omega) (by omega))) ?_
   rw [show (((3 * k : Nat) : Int) + ((r : Nat) : Int) : Int) = ((3 * k + r : Nat) : Int) from by omega]
   refine Was (.int .i64 ((3 * k + r : Nat) : Int)) ?_
   refine Wl_nil (W_region ?_)
   refine Wmv (.int .i64 3) ?_
   refine Wl_v (r_add rfl rfl (show _ = (4 : Int) from by decide)) ?_
   refine Was (.int .i64 4) ?_
   refine Wl_nil ?_
   refine unrK_succ ?_
   refine W_seq (W_seq (W_region ?_))
   refine Wmv (.int .i64 4) ?_
   refine Wl_v (v := .bool false) (r_lt (a := 4) (b := 4) rfl rfl) ?_
   refine Wl_nil ?_
   refine W_cond_f rfl ?_
   refine W_exit ?_
   refine W_seq (W_region ?_)
   refine Wmv (.slice a25 4 c25) ?_
   refine Wl_call (r_call1 rfl Tryz.call22 rfl) (rjoin4 _ hO25.sl hO5.sl.any hO11.sl.any hO17.sl.any hO23.sl.any (by omega)) ?_
   rintro v w27 ⟨a27, m27, c27, rfl, hO27, hU27⟩
   have hzw27 := hU27.size
   replace HU := HU.trans0 hU27
   replace hO27 := hO27.tight
   have hl_hO27 := ilen hO27.sl
   have hc_hO27 := hO27.sl.cap.1
   refine Was (.slice a27 m27 c27) ?_
   refine Was (.int .i64 0) ?_
   refine Wl_nil ?_
   refine W_ret ?_
   refine ret_end (v := .tuple #[.slice a27 m27 c27, .int .i64 0]) rfl (res2 Tryz.results18 rfl rfl) ?_
   have hF := f4F_ok (l := l) (b := b) (m := m) (k := k) (r := r) (by omega) (Classical.not_not.1 q1) q2 hk.symm hkr
   exact ⟨_, rfl, a27, m27, c27, (vtup2 rfl (vint (by rw [hF]))), (by rw [hF]; exact (hO27.weak (by intro g hg; have h3 : ((w25.heap.size ≤ g) ∧ g < w27.heap.size) := hg; show w.heap.size ≤ g; omega))), HU⟩
  ·refine Wl_call (r_call1 rfl Tryz.call12 rfl) (rparts_no (n := ((m : Nat) : Int)) _ q2) ?_
   rintro v w28 ⟨rfl, hU28⟩
   have hzw28 := hU28.size
   replace HU := HU.trans0 hU28
   refine Wmv (.tuple #[.slice none 0 0, .int .i64 (paF ((m : Nat) : Int))]) ?_
   refine Wl_v (r_ext (v := .slice none 0 0) rfl rfl) ?_
   refine Wl_v (r_ext (v := .int .i64 (paF ((m : Nat) : Int))) rfl rfl) ?_
   refine Was (.slice none 0 0) ?_
   refine Was (.int .i64 (paF ((m : Nat) : Int))) ?_
   refine Wl_nil (W_seq (W_seq (W_region ?_)))
   refine Wmv (.int .i64 (paF ((m : Nat) : Int))) ?_
   refine Wl_v (r_ne rfl rfl) ?_
   refine Wl_nil ?_
   have q3 : (paF ((m : Nat) : Int)) ≠ 0 := q2
   rw [decide_eq_true q3]
   refine W_cond_t rfl ?_
   refine W_seq (W_region ?_)
   refine Wmv (.int .i64 (paF ((m : Nat) : Int))) ?_
   refine Was (.slice none 0 0) ?_
   refine Was (.int .i64 (paF ((m : Nat) : Int))) ?_
   refine Wl_nil ?_
   refine W_ret ?_
   refine ret_end (v := .tuple #[.slice none 0 0, .int .i64 (paF ((m : Nat) : Int))]) rfl (res2 Tryz.results18 rfl rfl) ?_
   have hF := f4F_p (l := l) (b := b) (m := m) (by omega) (Classical.not_not.1 q1) q2
   exact ⟨_, rfl, none, 0, 0, (vtup2 rfl (vint (by rw [hF]))), (by rw [hF]; exact (Own.nil _ _ 5 1)), HU⟩
set_option maxHeartbeats 2000000 in
set_option maxRecDepth 100000 in
theorem fourencodes {a a2 : Option Addr} {n c m d : Nat} {l b : List Int} (w : World) (hs : Sl w (fun g => g < w.heap.size) 1 (.slice a n c) n (ints .i64 l)) (hn : n ≤ 17592186044415) (hsb : Sl w (fun g => g < w.heap.size) 1 (.slice a2 m d) m (ints .u8 b)) (hb : Byt b) (hm : m ≤ 140737488351232) :
  Calls Tryz.prog 4 #[.slice a n c, .slice a2 m d] w (Ret fun v w' => v = .bool true ∧ Upd No w w') := by
 have HU : Upd (fun b => False) w w := Upd.refl _ _
 have hl_hs := ilen hs
 have hc_hs := hs.cap.1
 have hl_hsb := ilen hsb
 have hc_hsb := hsb.cap.1
 refine calls_of_W Tryz.func4 rfl Tryz.ntmps4 (by simp) ?_
 refine W_seq (W_region ?_)
 refine Was (.bool false) ?_
 refine Wl_nil (W_seq (W_seq (W_region ?_)))
 refine Wmv (.slice a n c) ?_
 refine Wl_v (r_len Tryz.underlying22 rfl) ?_
 refine Wl_v (r_gt rfl rfl) ?_
 refine Wmv (.bool (decide (300 < ((n : Nat) : Int)))) ?_
 by_cases q1 : 300 < ((n : Nat) : Int)
 ·rw [decide_eq_true q1]
  refine Wl_guard_f rfl (Wl_guard_f rfl (Wl_guard_f rfl ?_))
  refine Wl_v (r_pick_t (v := .bool true) rfl rfl) ?_
  refine Wl_nil ?_
  refine W_cond_t rfl ?_
  refine W_seq (W_region ?_)
  refine Wl_call (r_call0 rfl Tryz.call16 ) (works18 _ ) ?_
  rintro v w1 ⟨rfl, hU1⟩
  have hzw1 := hU1.size
  replace HU := HU.trans0 hU1
  refine Was (.bool true) ?_
  refine Wl_nil ?_
  refine W_ret ?_
  refine ret_end (v := .bool true) rfl (res1 Tryz.results4 rfl) ?_
  exact ⟨_, rfl, rfl, HU⟩
 ·rw [decide_eq_false q1]
  refine Wl_guard_t rfl ?_
  refine Wmv (.slice a2 m d) ?_
  refine Wl_guard_t rfl ?_
  refine Wl_v (r_len Tryz.underlying32 rfl) ?_
  refine Wl_guard_t rfl ?_
  refine Wl_v (r_gt rfl rfl) ?_
  refine Wl_v (r_pick_f (v := .bool (decide (300 < ((m : Nat) : Int)))) rfl rfl) ?_
  refine Wl_nil ?_
  by_cases q2 : 300 < ((m : Nat) : Int)
  ·rw [decide_eq_true q2]
   refine W_cond_t rfl ?_
   refine W_seq (W_region ?_)
   refine Wl_call (r_call0 rfl Tryz.call16 ) (works18 _ ) ?_
   rintro v w2 ⟨rfl, hU2⟩
   have hzw2 := hU2.size
   replace HU := HU.trans0 hU2
   refine Was (.bool true) ?_
   refine Wl_nil ?_
   refine W_ret ?_
   refine ret_end (v := .bool true) rfl (res1 Tryz.results4 rfl) ?_
   exact ⟨_, rfl, rfl, HU⟩
  ·rw [decide_eq_false q2]
   refine W_cond_f rfl ?_
   refine W_skip (W_seq (W_region ?_))
   refine Wl_lit0 Tryz.underlying32 Tryz.sizeOf5 ?_
   intro B3 w3 hB3 hU3 hzz3 hs3
   have hzw3 := hU3.size
   replace hs := hs.upd0 hU3
   replace hsb := hsb.upd0 hU3
   replace HU := HU.trans0 hU3
   refine Wmv (.slice a2 m d) ?_
   refine Wl_appendi (xs := []) (ys := b) (zs := b) (k' := .u8) (tot := m) (by first | rfl | exact (rows_app _ _).symm | simp) Tryz.underlying32 (ti := Tryz.t5) (z := .int .u8 0) (sz := 1) (by' := 1) rfl rfl rfl rfl rfl (by decide) rfl hs3 rfl hsb  (by omega) (by simp only [maxLen]; omega) (by omega) ?_
   intro a4 c4 w4 hU4 hzz4 hO4
   clear hs3
   have hzw4 := hU4.size
   replace hs := hs.upd hU4 (by intro x h1 h2; have h3 : x < w.heap.size := h1; have h4 : x = B3 := h2; omega)
   replace hsb := hsb.upd hU4 (by intro x h1 h2; have h3 : x < w.heap.size := h1; have h4 : x = B3 := h2; omega)
   replace HU := HU.trans hU4 (by intro x hx; have hx2 : x = B3 := hx; show (False) ∨ w.heap.size ≤ x; omega)
   replace hO4 := hO4.tight
   have hl_hO4 := ilen hO4.sl
   have hc_hO4 := hO4.sl.cap.1
   refine Was (.slice a4 m c4) ?_
   refine Wl_nil (W_seq (W_region ?_))
   refine Wmv (.slice a n c) ?_
   refine Wmv (.slice a4 m c4) ?_
   refine Wl_call (r_call2 rfl Tryz.call17 rfl rfl) (fenc_spec _ hs (by omega) hO4.sl.any hb (by omega)) ?_
   rintro v w5 ⟨a5, m5, c5, rfl, hO5, hU5⟩
   have hzw5 := hU5.size
   replace hs := hs.upd0 hU5
   replace hsb := hsb.upd0 hU5
   replace HU := HU.trans0 hU5
   replace hO4 := hO4.upd0 hU5
   replace hO5 := hO5.tight
   have hl_hO5 := ilen hO5.sl
   have hc_hO5 := hO5.sl.cap.1
   refine Wmv (.tuple #[.slice a5 m5 c5, .int .i64 ((f4F l b).2)]) ?_
   refine Wl_v (r_ext (v := .slice a5 m5 c5) rfl rfl) ?_
   refine Wl_v (r_ext (v := .int .i64 ((f4F l b).2)) rfl rfl) ?_
   refine Was (.slice a5 m5 c5) ?_
   refine Was (.int .i64 ((f4F l b).2)) ?_
   refine Wl_nil (W_seq (W_region ?_))
   refine Wmv (.slice a n c) ?_
   refine Wmv (.slice a2 m d) ?_
   refine Wl_call (r_call2 rfl Tryz.call18 rfl rfl) (renc4 _ hs (by omega) hsb.any hb (by omega)) ?_
   rintro v w6 ⟨a6, m6, c6, rfl, hO6, hU6⟩
   have hzw6 := hU6.size
   replace hsb := hsb.upd0 hU6
   replace HU := HU.trans0 hU6
   replace hO4 := hO4.upd0 hU6
   replace hO5 := hO5.upd0 hU6
   replace hO6 := hO6.tight
   have hl_hO6 := ilen hO6.sl
   have hc_hO6 := hO6.sl.cap.1
   refine Wmv (.tuple #[.slice a6 m6 c6, .int .i64 ((f4F l b).2)]) ?_
   refine Wl_v (r_ext (v := .slice a6 m6 c6) rfl rfl) ?_
   refine Wl_v (r_ext (v := .int .i64 ((f4F l b).2)) rfl rfl) ?_
   refine Was (.slice a6 m6 c6) ?_
   refine Was (.int .i64 ((f4F l b).2)) ?_
   refine Wl_nil (W_seq (W_region ?_))
   refine Wmv (.slice a5 m5 c5) ?_
   refine Wmv (.int .i64 ((f4F l b).2)) ?_
   refine Wmv (.slice a6 m6 c6) ?_
   refine Wl_bstr Tryz.underlying32 Tryz.underlying5 Tryz.underlying9 rfl hO6.sl ?_
   refine Wmv (.int .i64 ((f4F l b).2)) ?_
   refine Wl_call (r_call4 rfl Tryz.call19 rfl rfl rfl rfl) (is18 (y := (f4F l b).1) _ hO5.sl.any (f4F_byt _ _) (f4F_byt _ _)) ?_
   rintro v w7 ⟨rfl, hU7⟩
   have hzw7 := hU7.size
   replace hsb := hsb.upd0 hU7
   replace HU := HU.trans0 hU7
   replace hO4 := hO4.upd0 hU7
   refine Wmv (.bool (decide ((((f4F l b).1) : List Int) = ((f4F l b).1) ∧ (((f4F l b).2) : Int) = ((f4F l b).2)))) ?_
   have q3 : (((f4F l b).1) : List Int) = ((f4F l b).1) ∧ (((f4F l b).2) : Int) = ((f4F l b).2) := ⟨rfl, rfl⟩
   rw [decide_eq_true q3]
   refine Wl_guard_t rfl ?_
   refine Wmv (.slice a4 m c4) ?_
   refine Wl_guard_t rfl ?_
   refine Wl_bstr Tryz.underlying32 Tryz.underlying5 Tryz.underlying9 rfl hO4.sl ?_
   refine Wl_guard_t rfl ?_
   refine Wmv (.slice a2 m d) ?_
   refine Wl_guard_t rfl ?_
   refine Wl_bstr Tryz.underlying32 Tryz.underlying5 Tryz.underlying9 rfl hsb ?_
   refine Wl_guard_t rfl ?_
   refine Wl_v (r_eqstr (show Byt b from hb) (show Byt b from hb) rfl rfl) ?_
   refine Wl_v (r_pick_t (v := .bool (decide (b = b))) rfl rfl) ?_
   refine Wmv (.bool (decide (b = b))) ?_
   have q4 : b = b := rfl
   rw [decide_eq_true q4]
   refine Wl_guard_t rfl ?_
   refine Wl_call (r_call0 rfl Tryz.call16 ) (works18 _ ) ?_
   rintro v w8 ⟨rfl, hU8⟩
   have hzw8 := hU8.size
   replace HU := HU.trans0 hU8
   refine Wl_v (r_pick_t (v := .bool true) rfl rfl) ?_
   refine Was (.bool true) ?_
   refine Wl_nil ?_
   refine W_ret ?_
   refine ret_end (v := .bool true) rfl (res1 Tryz.results4 rfl) ?_
   exact ⟨_, rfl, rfl, HU⟩
set_option maxHeartbeats 2000000 in
set_option maxRecDepth 100000 in
theorem foursizes {a a2 : Option Addr} {n c m d : Nat} {l b : List Int} (w : World) (hs : Sl w (fun g => g < w.heap.size) 1 (.slice a n c) n (ints .i64 l)) (hn : n ≤ 17592186044415) (hsb : Sl w (fun g => g < w.heap.size) 1 (.slice a2 m d) m (ints .u8 b)) (hb : Byt b) (hm : m ≤ 140737488351232) :
  Calls Tryz.prog 5 #[.slice a n c, .slice a2 m d] w (Ret fun v w' => v = .bool true ∧ Upd No w w') := by
 have HU : Upd (fun b => False) w w := Upd.refl _ _
 have hl_hs := ilen hs
 have hc_hs := hs.cap.1
 have hl_hsb := ilen hsb
 have hc_hsb := hsb.cap.1
 refine calls_of_W Tryz.func5 rfl Tryz.ntmps5 (by simp) ?_
 refine W_seq (W_region ?_)
 refine Was (.bool false) ?_
 refine Wl_nil (W_seq (W_seq (W_region ?_)))
 refine Wmv (.slice a n c) ?_
 refine Wl_v (r_len Tryz.underlying22 rfl) ?_
 refine Wl_v (r_gt rfl rfl) ?_
 refine Wmv (.bool (decide (300 < ((n : Nat) : Int)))) ?_
 by_cases q1 : 300 < ((n : Nat) : Int)
 ·rw [decide_eq_true q1]
  refine Wl_guard_f rfl (Wl_guard_f rfl (Wl_guard_f rfl ?_))
  refine Wl_v (r_pick_t (v := .bool true) rfl rfl) ?_
  refine Wl_nil ?_
  refine W_cond_t rfl ?_
  refine W_seq (W_region ?_)
  refine Wl_call (r_call0 rfl Tryz.call16 ) (works18 _ ) ?_
  rintro v w1 ⟨rfl, hU1⟩
  have hzw1 := hU1.size
  replace HU := HU.trans0 hU1
  refine Was (.bool true) ?_
  refine Wl_nil ?_
  refine W_ret ?_
  refine ret_end (v := .bool true) rfl (res1 Tryz.results5 rfl) ?_
  exact ⟨_, rfl, rfl, HU⟩
 ·rw [decide_eq_false q1]
  refine Wl_guard_t rfl ?_
  refine Wmv (.slice a2 m d) ?_
  refine Wl_guard_t rfl ?_
  refine Wl_v (r_len Tryz.underlying32 rfl) ?_
  refine Wl_guard_t rfl ?_
  refine Wl_v (r_gt rfl rfl) ?_
  refine Wl_v (r_pick_f (v := .bool (decide (300 < ((m : Nat) : Int)))) rfl rfl) ?_
  refine Wl_nil ?_
  by_cases q2 : 300 < ((m : Nat) : Int)
  ·rw [decide_eq_true q2]
   refine W_cond_t rfl ?_
   refine W_seq (W_region ?_)
   refine Wl_call (r_call0 rfl Tryz.call16 ) (works18 _ ) ?_
   rintro v w2 ⟨rfl, hU2⟩
   have hzw2 := hU2.size
   replace HU := HU.trans0 hU2
   refine Was (.bool true) ?_
   refine Wl_nil ?_
   refine W_ret ?_
   refine ret_end (v := .bool true) rfl (res1 Tryz.results5 rfl) ?_
   exact ⟨_, rfl, rfl, HU⟩
  ·rw [decide_eq_false q2]
   refine W_cond_f rfl ?_
   refine W_skip (W_seq (W_region ?_))
   refine Wmv (.slice a n c) ?_
   refine Wmv (.slice a2 m d) ?_
   refine Wl_call (r_call2 rfl Tryz.call20 rfl rfl) (fsz_spec _ hs (by omega) hsb.any hb (by omega)) ?_
   rintro v w3 ⟨rfl, hU3⟩
   have hzw3 := hU3.size
   replace hs := hs.upd0 hU3
   replace hsb := hsb.upd0 hU3
   replace HU := HU.trans0 hU3
   refine Wmv (.tuple #[.int .i64 (((f4F l b).1.length : Nat) : Int), .int .i64 ((f4F l b).2)]) ?_
   refine Wl_v (r_ext (v := .int .i64 (((f4F l b).1.length : Nat) : Int)) rfl rfl) ?_
   refine Wl_v (r_ext (v := .int .i64 ((f4F l b).2)) rfl rfl) ?_
   refine Was (.int .i64 (((f4F l b).1.length : Nat) : Int)) ?_
   refine Was (.int .i64 ((f4F l b).2)) ?_
   refine Wl_nil (W_seq (W_region ?_))
   refine Wmv (.slice a n c) ?_
   refine Wmv (.slice a2 m d) ?_
   refine Wl_call (r_call2 rfl Tryz.call18 rfl rfl) (renc4 _ hs (by omega) hsb.any hb (by omega)) ?_
   rintro v w4 ⟨a4, m4, c4, rfl, hO4, hU4⟩
   have hzw4 := hU4.size
   replace HU := HU.trans0 hU4
   replace hO4 := hO4.tight
   have hl_hO4 := ilen hO4.sl
   have hc_hO4 := hO4.sl.cap.1
   refine Wmv (.tuple #[.slice a4 m4 c4, .int .i64 ((f4F l b).2)]) ?_
   refine Wl_v (r_ext (v := .slice a4 m4 c4) rfl rfl) ?_
   refine Wl_v (r_ext (v := .int .i64 ((f4F l b).2)) rfl rfl) ?_
   refine Was (.slice a4 m4 c4) ?_
   refine Was (.int .i64 ((f4F l b).2)) ?_
   refine Wl_nil (W_seq (W_region ?_))
   refine Wmv (.int .i64 (((f4F l b).1.length : Nat) : Int)) ?_
   refine Wmv (.slice a4 m4 c4) ?_
   refine Wl_v (r_len Tryz.underlying32 rfl) ?_
   refine Wl_v (r_eq rfl rfl) ?_
   refine Wmv (.bool (decide ((((f4F l b).1.length : Nat) : Int) = ((m4 : Nat) : Int)))) ?_
   have q3 : (((f4F l b).1.length : Nat) : Int) = ((m4 : Nat) : Int) := (by omega)
   rw [decide_eq_true q3]
   refine Wl_guard_t rfl ?_
   refine Wmv (.int .i64 ((f4F l b).2)) ?_
   refine Wl_guard_t rfl ?_
   refine Wl_call (r_call1 rfl Tryz.call15 rfl) (num18 _ ) ?_
   rintro v w5 ⟨rfl, hU5⟩
   have hzw5 := hU5.size
   replace HU := HU.trans0 hU5
   refine Wl_guard_t rfl ?_
   refine Wmv (.int .i64 ((f4F l b).2)) ?_
   refine Wl_guard_t rfl ?_
   refine Wl_v (r_eq rfl rfl) ?_
   refine Wl_v (r_pick_t (v := .bool (decide (((f4F l b).2) = ((f4F l b).2)))) rfl rfl) ?_
   refine Wmv (.bool (decide (((f4F l b).2) = ((f4F l b).2)))) ?_
   have q4 : ((f4F l b).2) = ((f4F l b).2) := rfl
   rw [decide_eq_true q4]
   refine Wl_guard_t rfl ?_
   refine Wl_call (r_call0 rfl Tryz.call16 ) (works18 _ ) ?_
   rintro v w6 ⟨rfl, hU6⟩
   have hzw6 := hU6.size
   replace HU := HU.trans0 hU6
   refine Wl_v (r_pick_t (v := .bool true) rfl rfl) ?_
   refine Was (.bool true) ?_
   refine Wl_nil ?_
   refine W_ret ?_
   refine ret_end (v := .bool true) rfl (res1 Tryz.results5 rfl) ?_
   exact ⟨_, rfl, rfl, HU⟩
end Go.Proofs.YtdppageondgjkaaGreat
