/-
 Walks, printed by a small program of this project (gen.py).
-/
import Derived.Test.YtdppageondgjkaaGreatVd
set_option linter.unusedVariables false
set_option linter.unusedSimpArgs false
set_option maxRecDepth 100000
namespace Go.Proofs.YtdppageondgjkaaGreat
open Go.Fw _root_.Go.Proofs.Tryz
open Nu
theorem num18 {e : Int} (w : World)  :
  Calls Tryz.prog 15 #[.int .i64 e] w (Ret fun v w' => v = .int .i64 e ∧ Upd No w w') := by
 have HU := Upd.rno w
 refine calls_of_W func15 rfl ntmps15 (by simp) ?_
 refine W_seq (W_region ?_)
 refine Was (.int .i64 0) ?_
 refine Wl_nil (W_seq (W_region ?_))
 refine Wmv (.int .i64 e) ?_
 refine Was (.int .i64 e) ?_
 refine Wl_nil ?_
 refine W_ret ?_
 refine ret_end (v := .int .i64 e) rfl (res1 results15 rfl) ?_
 exact ⟨_, rfl, rfl, HU⟩
theorem is18 {a : Option Addr} {n c : Nat} {x y : List Int} {e no : Int} (w : World) (hs : Sl w (fun g => g < w.heap.size) 1 (.slice a n c) n (ints .u8 x)) (hbx : Byt x) (hby : Byt y) :
  Calls Tryz.prog 19 #[.slice a n c, .int .i64 e, .string (strOfNums y), .int .i64 no] w (Ret fun v w' => v = .bool (decide ((x : List Int) = y ∧ (e : Int) = no)) ∧ Upd No w w') := by
 have HU := Upd.rno w
 have hl_hs := ilen hs
 have hc_hs := hs.cap.1
 refine calls_of_W func19 rfl ntmps19 (by simp) ?_
 refine W_seq (W_region ?_)
 refine Was (.bool false) ?_
 refine Wl_nil (W_seq (W_region ?_))
 refine Wmv (.slice a n c) ?_
 refine Wl_bstr underlying32 underlying5 underlying9 rfl hs ?_
 refine Wmv (.string (strOfNums y)) ?_
 refine Wl_v (r_eqstr (show Byt x from hbx) hby rfl rfl) ?_
 refine Wmv (.bool (decide (x = y))) ?_
 by_cases q1 : x = y
 ·rw [decide_eq_true q1]
  refine Wl_guard_t rfl ?_
  refine Wmv (.int .i64 e) ?_
  refine Wl_guard_t rfl ?_
  refine Wl_call (r_call1 rfl call15 rfl) (num18 _ ) ?_
  rintro v w1 ⟨rfl, hU1⟩
  have hzw1 := hU1.size
  replace HU := HU.trans0 hU1
  refine Wl_guard_t rfl ?_
  refine Wmv (.int .i64 no) ?_
  refine Wl_guard_t rfl ?_
  refine Wl_v (r_eq rfl rfl) ?_
  refine Wl_v (r_pick_t (v := .bool (decide (e = no))) rfl rfl) ?_
  refine Was (.bool (decide (e = no))) ?_
  refine Wl_nil ?_
  refine W_ret ?_
  refine ret_end (v := .bool (decide (e = no))) rfl (res1 results19 rfl) ?_
  exact ⟨_, rfl, (vbool (by constructor <;> intro h <;> first | exact ⟨q1, h⟩ | exact h.2)), HU⟩
 rw [decide_eq_false q1]
 refine Wl_guard_f rfl (Wl_guard_f rfl (Wl_guard_f rfl (Wl_guard_f rfl ?_)))
 refine Wl_v (r_pick_f (v := .bool false) rfl rfl) ?_
 refine Was (.bool false) ?_
 refine Wl_nil ?_
 refine W_ret ?_
 refine ret_end (v := .bool false) rfl (res1 results19 rfl) ?_
 exact ⟨_, rfl, (vboolf (fun h => q1 h.1)), HU⟩
theorem same_eq {a a2 : Option Addr} {n c c2 : Nat} {l : List Int} (w : World) (hs : Sl w (fun g => g < w.heap.size) 1 (.slice a n c) n (ints .i64 l)) (hs2 : Sl w (fun g => g < w.heap.size) 1 (.slice a2 n c2) n (ints .i64 l)) (hn : n ≤ 1000) :
  Calls Tryz.prog 14 #[.slice a n c, .slice a2 n c2] w (Ret fun v w' => v = .bool true ∧ Upd No w w') := by
 have HU := Upd.rno w
 have hl_hs := ilen hs
 have hc_hs := hs.cap.1
 have hl_hs2 := ilen hs2
 have hc_hs2 := hs2.cap.1
 refine calls_of_W func14 rfl ntmps14 (by simp) ?_
 refine W_seq (W_region ?_)
 refine Was (.bool false) ?_
 refine Wl_nil (W_seq (W_seq (W_region ?_)))
 refine Wmv (.slice a n c) ?_
 refine Wl_v (r_len underlying22 rfl) ?_
 refine Wmv (.slice a2 n c2) ?_
 refine Wl_v (r_len underlying22 rfl) ?_
 refine Wl_v (r_ne rfl rfl) ?_
 refine Wl_nil ?_
 have q1 : ¬ (((n : Nat) : Int) ≠ ((n : Nat) : Int)) := (fun h => h rfl)
 rw [decide_eq_false q1]
 refine W_cond_f rfl ?_
 refine W_skip (W_seq (W_seq (W_region ?_)))
 refine Was (.int .i64 0) ?_
 refine Wl_nil (W_block ?_)
 refine W_loop (fun mu ρ ds w' => ∃ (k : Nat), n - k = mu ∧ ds = [] ∧ Liv ρ [(0, .slice a n c), (1, .slice a2 n c2), (5, .int .i64 ((k : Nat) : Int))] ∧ k ≤ n ∧ Upd No w w') _ ⟨0, rfl, rfl, ⟨rfl, rfl, (by first | rfl | exact vint (by omega) | exact vint (by simp)), trivial⟩, (by omega), Upd.refl _ _⟩ ?_
 rintro m1 ρ1 ds1 w1 ⟨k, rfl, rfl, hl1, hk, hU1⟩
 obtain ⟨ρ1x, rfl⟩ : ∃ ρx, ρ1 = upds ρx [(0, .slice a n c), (1, .slice a2 n c2), (5, .int .i64 ((k : Nat) : Int))] := ⟨_, upds_self hl1⟩
 clear hl1
 have hzw1 := hU1.size
 replace hs := hs.upd0 hU1
 replace hs2 := hs2.upd0 hU1
 replace HU := HU.trans0 hU1
 have HL1 := hU1
 refine W_seq (W_seq (W_region ?_))
 refine Wmv (.int .i64 ((k : Nat) : Int)) ?_
 refine Wmv (.slice a n c) ?_
 refine Wl_v (r_len underlying22 rfl) ?_
 refine Wl_v (r_lt rfl rfl) ?_
 refine Wl_nil ?_
 by_cases q2 : ((k : Nat) : Int) < ((n : Nat) : Int)
 ·rw [decide_eq_true q2]
  refine W_cond_t rfl ?_
  refine W_skip (W_seq (W_block (W_seq ?_)))
  refine W_drawt rfl (l0 := tf 0 9) (by kernel_rfl) ?_
  refine Tk 0 (tf 1 9) rfl (YI_v (v := .slice a n c) rfl (fun w' hw' => r_mv (v := .slice a n c) rfl)) ?_
  refine Tk 1 (tf 2 9) rfl (YI_v (v := .int .i64 ((k : Nat) : Int)) rfl (fun w' hw' => r_mv (v := .int .i64 ((k : Nat) : Int)) rfl)) ?_
  obtain ⟨ib2, io2, ha2, hib2, hc2⟩ := (hs).iat (i := k) (by omega)
  replace hib2 : ib2 < w.heap.size := hib2
  refine Tk 2 (tf 3 9) rfl (YI_v (v := .pointer (some ⟨ib2, io2 + k, none⟩)) rfl (fun w' hw' => r_idx (b := ib2) (off := io2) (m := n) (c := c) (o' := io2 + k) underlying22 sizeOf3 (by rw [← ha2]; rfl) rfl (by omega) (by omega) (by omega))) ?_
  refine Tk 3 (tf 4 9) rfl (YI_v (v := .int .i64 (l.getD k 0)) rfl (fun w' hw' => r_load isAgg3 rfl (hw'.cellk hc2))) ?_
  refine Tk 4 (tf 5 9) rfl (YI_v (v := .slice a2 n c2) rfl (fun w' hw' => r_mv (v := .slice a2 n c2) rfl)) ?_
  refine Tk 5 (tf 6 9) rfl (YI_v (v := .int .i64 ((k : Nat) : Int)) rfl (fun w' hw' => r_mv (v := .int .i64 ((k : Nat) : Int)) rfl)) ?_
  obtain ⟨ib3, io3, ha3, hib3, hc3⟩ := (hs2).iat (i := k) (by omega)
  replace hib3 : ib3 < w.heap.size := hib3
  refine Tk 6 (tf 7 9) rfl (YI_v (v := .pointer (some ⟨ib3, io3 + k, none⟩)) rfl (fun w' hw' => r_idx (b := ib3) (off := io3) (m := n) (c := c2) (o' := io3 + k) underlying22 sizeOf3 (by rw [← ha3]; rfl) rfl (by omega) (by omega) (by omega))) ?_
  refine Tk 7 (tf 8 9) rfl (YI_v (v := .int .i64 (l.getD k 0)) rfl (fun w' hw' => r_load isAgg3 rfl (hw'.cellk hc3))) ?_
  refine Tk 8 (tf 9 9) rfl (YI_v (v := .bool (decide ((l.getD k 0) ≠ (l.getD k 0)))) rfl (fun w' hw' => r_ne rfl rfl)) ?_
  intro w4 hU4
  have hzw4 := hU4.size
  replace HL1 := HL1.trans0 hU4
  replace hc2 := cell_upd0 hU4 hc2
  replace hc3 := cell_upd0 hU4 hc3
  refine Wa_done (by kernel_rfl) ?_
  have q3 : ¬ ((l.getD k 0) ≠ (l.getD k 0)) := (fun h => h rfl)
  rw [decide_eq_false q3]
  refine W_cond_f rfl ?_
  refine W_skip (W_region ?_)
  refine Wmv (.int .i64 ((k : Nat) : Int)) ?_
  refine Wl_v (r_add rfl rfl (wi64 (by omega) (by omega))) ?_
  refine Was (.int .i64 (((k : Nat) : Int) + 1)) ?_
  refine Wl_nil ?_
  refine ⟨_, ?_, (k + 1), rfl, rfl, ⟨rfl, rfl, (Eq.trans (b := .int .i64 (((k : Nat) : Int) + 1)) rfl (vint (by omega))), trivial⟩, (by omega), HL1⟩
  omega
 rw [decide_eq_false q2]
 refine W_cond_f rfl ?_
 refine W_exit ?_
 refine W_seq (W_region ?_)
 refine Was (.bool true) ?_
 refine Wl_nil ?_
 refine W_ret ?_
 refine ret_end (v := .bool true) rfl (res1 results14 rfl) ?_
 exact ⟨_, rfl, rfl, HU⟩
set_option maxHeartbeats 4000000 in
theorem works18  (w : World)  :
  Calls Tryz.prog 16 #[] w (Ret fun v w' => v = .bool true ∧ Upd No w w') := by
 have HU := Upd.rno w
 refine calls_of_W func16 rfl ntmps16 (by simp) ?_
 refine W_seq (W_region ?_)
 refine Was (.bool false) ?_
 refine Wl_nil (W_seq (W_region ?_))
 refine Wl_lit (pv := [(0, .int .i64 2), (1, .int .i64 1), (2, .int .i64 0), (3, .int .i64 2)]) (cs := [.int .i64 2, .int .i64 1, .int .i64 0, .int .i64 2]) underlying22 sizeOf3 zeroValue3 (by decide) (by decide) (by simp only [List.map_toArray, List.map_cons, List.map_nil] <;> rfl) (by kernel_rfl) rfl (by decide) ?_
 intro B1 w1 hB1 hU1 hzz1 hs1
 have hzw1 := hU1.size
 replace HU := HU.trans0 hU1
 replace hs1 : Own w1 (Is B1) 3 1 (.slice (some ⟨B1, 0, none⟩) 4 4) 4 (ints .i64 [2, 1, 0, 2]) := hs1
 replace hs1 : Own w1 (Is B1) 3 1 (.slice (some ⟨B1, 0, none⟩) 4 4) 4 (ints .i64 [2, 1, 0, 2]) := hs1
 refine Wl_lit (pv := [(0, .int .u8 1), (1, .int .u8 0), (2, .int .u8 3), (3, .int .u8 1)]) (cs := [.int .u8 1, .int .u8 0, .int .u8 3, .int .u8 1]) underlying32 sizeOf5 zeroValue5 (by decide) (by decide) (by simp only [List.map_toArray, List.map_cons, List.map_nil] <;> rfl) (by kernel_rfl) rfl (by decide) ?_
 intro B2 w2 hB2 hU2 hzz2 hs2
 have hzw2 := hU2.size
 replace HU := HU.trans0 hU2
 replace hs1 := hs1.upd0 hU2
 replace hs2 : Own w2 (Is B2) 5 1 (.slice (some ⟨B2, 0, none⟩) 4 4) 4 (ints .u8 [1, 0, 3, 1]) := hs2
 replace hs2 : Own w2 (Is B2) 5 1 (.slice (some ⟨B2, 0, none⟩) 4 4) 4 (ints .u8 [1, 0, 3, 1]) := hs2
 refine Was (.slice (some ⟨B1, 0, none⟩) 4 4) ?_
 refine Was (.slice (some ⟨B2, 0, none⟩) 4 4) ?_
 refine Wl_nil (W_seq (W_region ?_))
 refine Wl_call (r_call1 rfl call11 rfl) (psz_ok (n := 7) _ (by decide)) ?_
 rintro v w3 ⟨a3, c3, rfl, hO3, hU3⟩
 have hzw3 := hU3.size
 replace HU := HU.trans0 hU3
 replace hs1 := hs1.upd0 hU3
 replace hs2 := hs2.upd0 hU3
 have hl_hO3 := ilen hO3
 have hc_hO3 := hO3.cap.1
 replace hO3 := hO3.icong (show [(7 + 3) / 4, (7 + 3) / 4, (7 + 3) / 4, 7 - 3 * ((7 + 3) / 4)] = [2, 2, 2, 1] from by decide +kernel)
 have hz_hO3 : 4 = ([2, 2, 2, 1] : List Int).length := (ilen hO3).symm
 replace hz_hO3 : 4 = 4 := hz_hO3
 refine Wmv (.tuple #[.slice a3 4 c3, .int .i64 0]) ?_
 refine Wl_v (r_ext (v := .slice a3 4 c3) rfl rfl) ?_
 refine Wl_v (r_ext (v := .int .i64 0) rfl rfl) ?_
 refine Was (.slice a3 4 c3) ?_
 refine Was (.int .i64 0) ?_
 refine Wl_nil (W_seq (W_region ?_))
 refine Wl_call (r_call1 rfl call11 rfl) (psz_no (n := 5) _ (by decide)) ?_
 rintro v w4 ⟨rfl, hU4⟩
 have hzw4 := hU4.size
 replace HU := HU.trans0 hU4
 replace hs1 := hs1.upd0 hU4
 replace hs2 := hs2.upd0 hU4
 replace hO3 := hO3.upd0 hU4
 rw [show (paF 5 : Int) = 11 from by decide +kernel]
 refine Wmv (.tuple #[.slice none 0 0, .int .i64 11]) ?_
 refine Wl_v (r_ext (v := .slice none 0 0) rfl rfl) ?_
 refine Wl_v (r_ext (v := .int .i64 11) rfl rfl) ?_
 refine Was (.slice none 0 0) ?_
 refine Was (.int .i64 11) ?_
 refine Wl_nil (W_seq (W_region ?_))
 refine Wl_call (r_call1 rfl call11 rfl) (psz_no (n := -1) _ (by decide)) ?_
 rintro v w5 ⟨rfl, hU5⟩
 have hzw5 := hU5.size
 replace HU := HU.trans0 hU5
 replace hs1 := hs1.upd0 hU5
 replace hs2 := hs2.upd0 hU5
 replace hO3 := hO3.upd0 hU5
 rw [show (paF (-1) : Int) = 2 from by decide +kernel]
 refine Wmv (.tuple #[.slice none 0 0, .int .i64 2]) ?_
 refine Wl_v (r_ext (v := .slice none 0 0) rfl rfl) ?_
 refine Wl_v (r_ext (v := .int .i64 2) rfl rfl) ?_
 refine Was (.slice none 0 0) ?_
 refine Was (.int .i64 2) ?_
 refine Wl_nil (W_seq (W_region ?_))
 refine Wmv (.slice (some ⟨B1, 0, none⟩) 4 4) ?_
 refine Wmv (.slice (some ⟨B2, 0, none⟩) 4 4) ?_
 refine Wl_call (r_call2 rfl call17 rfl rfl) (fenc_spec _ hs1.sl (by omega) hs2.sl.any (by intro x hx; simp at hx; omega) (by omega)) ?_
 rintro v w6 ⟨a6, m6, c6, rfl, hO6, hU6⟩
 have hzw6 := hU6.size
 replace HU := HU.trans0 hU6
 replace hs1 := hs1.upd0 hU6
 replace hs2 := hs2.upd0 hU6
 replace hO3 := hO3.upd0 hU6
 replace hO6 := hO6.tight
 have hl_hO6 := ilen hO6.sl
 have hc_hO6 := hO6.sl.cap.1
 replace hO6 := hO6.icong (show (f4F [2, 1, 0, 2] [1, 0, 3, 1]).1 = [1, 1, 1, 2, 6, 7, 2] from by decide +kernel)
 have hz_hO6 : m6 = ([1, 1, 1, 2, 6, 7, 2] : List Int).length := (ilen hO6.sl).symm
 replace hz_hO6 : m6 = 7 := hz_hO6
 rw [show ((f4F [2, 1, 0, 2] [1, 0, 3, 1]).2 : Int) = 0 from by decide +kernel]
 refine Wmv (.tuple #[.slice a6 m6 c6, .int .i64 0]) ?_
 refine Wl_v (r_ext (v := .slice a6 m6 c6) rfl rfl) ?_
 refine Wl_v (r_ext (v := .int .i64 0) rfl rfl) ?_
 refine Was (.slice a6 m6 c6) ?_
 refine Was (.int .i64 0) ?_
 refine Wl_nil (W_seq (W_region ?_))
 refine Wmv (.slice (some ⟨B1, 0, none⟩) 4 4) ?_
 refine Wmv (.slice (some ⟨B2, 0, none⟩) 4 4) ?_
 refine Wl_call (r_call2 rfl call20 rfl rfl) (fsz_spec _ hs1.sl (by omega) hs2.sl.any (by intro x hx; simp at hx; omega) (by omega)) ?_
 rintro v w7 ⟨rfl, hU7⟩
 have hzw7 := hU7.size
 replace HU := HU.trans0 hU7
 replace hs1 := hs1.upd0 hU7
 replace hs2 := hs2.upd0 hU7
 replace hO3 := hO3.upd0 hU7
 replace hO6 := hO6.upd0 hU7
 rw [show ((((f4F [2, 1, 0, 2] [1, 0, 3, 1]).1.length : Nat) : Int) : Int) = 7 from by decide +kernel]
 rw [show ((f4F [2, 1, 0, 2] [1, 0, 3, 1]).2 : Int) = 0 from by decide +kernel]
 refine Wmv (.tuple #[.int .i64 7, .int .i64 0]) ?_
 refine Wl_v (r_ext (v := .int .i64 7) rfl rfl) ?_
 refine Wl_v (r_ext (v := .int .i64 0) rfl rfl) ?_
 refine Was (.int .i64 7) ?_
 refine Was (.int .i64 0) ?_
 refine Wl_nil (W_seq (W_region ?_))
 refine Wmv (.slice (some ⟨B1, 0, none⟩) 4 4) ?_
 refine Wmv (.slice (some ⟨B2, 0, none⟩) 4 4) ?_
 refine Wl_v (r_slicehn (h' := 3) underlying32 sizeOf5 rfl rfl (by omega) (by omega)) ?_
 have hT8 := Sl.cuth (n := 3) hs2.sl (by omega)
 have hl_hT8 := ilen hT8
 have hc_hT8 := hT8.cap.1
 refine Wl_call (r_call2 rfl call17 rfl rfl) (fenc_spec _ hs1.sl (by omega) hT8.any (byt_take (by intro x hx; simp at hx; omega) _) (by omega)) ?_
 rintro v w9 ⟨a9, m9, c9, rfl, hO9, hU9⟩
 have hzw9 := hU9.size
 replace HU := HU.trans0 hU9
 replace hs1 := hs1.upd0 hU9
 replace hs2 := hs2.upd0 hU9
 replace hO3 := hO3.upd0 hU9
 replace hO6 := hO6.upd0 hU9
 replace hO9 := hO9.tight
 have hl_hO9 := ilen hO9.sl
 have hc_hO9 := hO9.sl.cap.1
 replace hO9 := hO9.icong (show (f4F [2, 1, 0, 2] ([1, 0, 3, 1].take 3)).1 = [] from by decide +kernel)
 have hz_hO9 : m9 = ([] : List Int).length := (ilen hO9.sl).symm
 replace hz_hO9 : m9 = 0 := hz_hO9
 rw [show ((f4F [2, 1, 0, 2] ([1, 0, 3, 1].take 3)).2 : Int) = 11 from by decide +kernel]
 refine Wmv (.tuple #[.slice a9 m9 c9, .int .i64 11]) ?_
 refine Wl_v (r_ext (v := .slice a9 m9 c9) rfl rfl) ?_
 refine Wl_v (r_ext (v := .int .i64 11) rfl rfl) ?_
 refine Was (.slice a9 m9 c9) ?_
 refine Was (.int .i64 11) ?_
 refine Wl_nil (W_seq (W_seq (W_region ?_)))
 refine Wl_call (r_call1 rfl call13 rfl) (splt _ ) ?_
 rintro v w10 ⟨rfl, hU10⟩
 have hzw10 := hU10.size
 replace HU := HU.trans0 hU10
 replace hs1 := hs1.upd0 hU10
 replace hs2 := hs2.upd0 hU10
 replace hO3 := hO3.upd0 hU10
 replace hO6 := hO6.upd0 hU10
 refine Wl_v (r_not rfl) ?_
 refine Wmv (.bool (!decide ((paF 4 : Int) = 0))) ?_
 have q1 : (paF 4 : Int) = 0 := (by decide)
 rw [decide_eq_true q1]
 simp only [Bool.not_true, Bool.not_false]
 refine Wl_guard_t rfl ?_
 refine Wl_call (r_call1 rfl call13 rfl) (splt _ ) ?_
 rintro v w11 ⟨rfl, hU11⟩
 have hzw11 := hU11.size
 replace HU := HU.trans0 hU11
 replace hs1 := hs1.upd0 hU11
 replace hs2 := hs2.upd0 hU11
 replace hO3 := hO3.upd0 hU11
 replace hO6 := hO6.upd0 hU11
 refine Wl_v (r_pick_f (v := .bool (decide ((paF 5 : Int) = 0))) rfl rfl) ?_
 refine Wmv (.bool (decide ((paF 5 : Int) = 0))) ?_
 have q2 : ¬ ((paF 5 : Int) = 0) := (by decide)
 rw [decide_eq_false q2]
 refine Wl_guard_t rfl ?_
 refine Wl_call (r_call1 rfl call13 rfl) (splt _ ) ?_
 rintro v w12 ⟨rfl, hU12⟩
 have hzw12 := hU12.size
 replace HU := HU.trans0 hU12
 replace hs1 := hs1.upd0 hU12
 replace hs2 := hs2.upd0 hU12
 replace hO3 := hO3.upd0 hU12
 replace hO6 := hO6.upd0 hU12
 refine Wl_v (r_pick_f (v := .bool (decide ((paF 6 : Int) = 0))) rfl rfl) ?_
 refine Wmv (.bool (decide ((paF 6 : Int) = 0))) ?_
 have q3 : ¬ ((paF 6 : Int) = 0) := (by decide)
 rw [decide_eq_false q3]
 refine Wl_guard_t rfl ?_
 refine Wl_call (r_call1 rfl call13 rfl) (splt _ ) ?_
 rintro v w13 ⟨rfl, hU13⟩
 have hzw13 := hU13.size
 replace HU := HU.trans0 hU13
 replace hs1 := hs1.upd0 hU13
 replace hs2 := hs2.upd0 hU13
 replace hO3 := hO3.upd0 hU13
 replace hO6 := hO6.upd0 hU13
 refine Wl_guard_t rfl ?_
 refine Wl_v (r_not rfl) ?_
 refine Wl_v (r_pick_f (v := .bool (!decide ((paF 7 : Int) = 0))) rfl rfl) ?_
 refine Wmv (.bool (!decide ((paF 7 : Int) = 0))) ?_
 have q4 : (paF 7 : Int) = 0 := (by decide)
 rw [decide_eq_true q4]
 simp only [Bool.not_true, Bool.not_false]
 refine Wl_guard_t rfl ?_
 refine Wmv (.slice a3 4 c3) ?_
 refine Wl_guard_t rfl ?_
 refine Wl_lit (pv := [(0, .int .i64 2), (1, .int .i64 2), (2, .int .i64 2), (3, .int .i64 1)]) (cs := [.int .i64 2, .int .i64 2, .int .i64 2, .int .i64 1]) underlying22 sizeOf3 zeroValue3 (by decide) (by decide) (by simp only [List.map_toArray, List.map_cons, List.map_nil] <;> rfl) (by kernel_rfl) rfl (by decide) ?_
 intro B14 w14 hB14 hU14 hzz14 hs14
 have hzw14 := hU14.size
 replace HU := HU.trans0 hU14
 replace hs1 := hs1.upd0 hU14
 replace hs2 := hs2.upd0 hU14
 replace hO3 := hO3.upd0 hU14
 replace hO6 := hO6.upd0 hU14
 replace hs14 : Own w14 (Is B14) 3 1 (.slice (some ⟨B14, 0, none⟩) 4 4) 4 (ints .i64 [2, 2, 2, 1]) := hs14
 replace hs14 : Own w14 (Is B14) 3 1 (.slice (some ⟨B14, 0, none⟩) 4 4) 4 (ints .i64 [2, 2, 2, 1]) := hs14
 refine Wl_guard_t rfl ?_
 refine Wl_call (r_call2 rfl call14 rfl rfl) (same_eq _ hO3.any hs14.sl.any (by omega)) ?_
 rintro v w15 ⟨rfl, hU15⟩
 have hzw15 := hU15.size
 replace HU := HU.trans0 hU15
 replace hs1 := hs1.upd0 hU15
 replace hs2 := hs2.upd0 hU15
 replace hO6 := hO6.upd0 hU15
 refine Wl_guard_t rfl ?_
 refine Wl_v (r_not (b := true) rfl) ?_
 refine Wl_v (r_pick_f (v := .bool false) rfl rfl) ?_
 refine Wmv (.bool false) ?_
 refine Wl_guard_t rfl ?_
 refine Wmv (.int .i64 0) ?_
 refine Wl_guard_t rfl ?_
 refine Wl_call (r_call1 rfl call15 rfl) (num18 _ ) ?_
 rintro v w16 ⟨rfl, hU16⟩
 have hzw16 := hU16.size
 replace HU := HU.trans0 hU16
 replace hs1 := hs1.upd0 hU16
 replace hs2 := hs2.upd0 hU16
 replace hO6 := hO6.upd0 hU16
 refine Wl_guard_t rfl ?_
 refine Wl_v (v := .bool false) (r_ne (a := 0) (b := 0) rfl rfl) ?_
 refine Wl_v (r_pick_f (v := .bool false) rfl rfl) ?_
 refine Wmv (.bool false) ?_
 refine Wl_guard_t rfl ?_
 refine Wmv (.int .i64 11) ?_
 refine Wl_guard_t rfl ?_
 refine Wl_call (r_call1 rfl call15 rfl) (num18 _ ) ?_
 rintro v w17 ⟨rfl, hU17⟩
 have hzw17 := hU17.size
 replace HU := HU.trans0 hU17
 replace hs1 := hs1.upd0 hU17
 replace hs2 := hs2.upd0 hU17
 replace hO6 := hO6.upd0 hU17
 refine Wl_guard_t rfl ?_
 refine Wl_v (v := .bool false) (r_ne (a := 11) (b := 11) rfl rfl) ?_
 refine Wl_v (r_pick_f (v := .bool false) rfl rfl) ?_
 refine Wmv (.bool false) ?_
 refine Wl_guard_t rfl ?_
 refine Wmv (.int .i64 2) ?_
 refine Wl_guard_t rfl ?_
 refine Wl_call (r_call1 rfl call15 rfl) (num18 _ ) ?_
 rintro v w18 ⟨rfl, hU18⟩
 have hzw18 := hU18.size
 replace HU := HU.trans0 hU18
 replace hs1 := hs1.upd0 hU18
 replace hs2 := hs2.upd0 hU18
 replace hO6 := hO6.upd0 hU18
 refine Wl_guard_t rfl ?_
 refine Wl_v (v := .bool false) (r_ne (a := 2) (b := 2) rfl rfl) ?_
 refine Wl_v (r_pick_f (v := .bool false) rfl rfl) ?_
 refine Wmv (.bool false) ?_
 refine Wl_guard_t rfl ?_
 refine Wmv (.slice a6 m6 c6) ?_
 refine Wl_guard_t rfl ?_
 refine Wmv (.int .i64 0) ?_
 refine Wl_guard_t rfl ?_
 refine Wl_call (r_call4 rfl call19 rfl rfl rfl rfl) (is18 (y := [1, 1, 1, 2, 6, 7, 2]) _ hO6.sl.any (by intro x hx; simp at hx; omega) (by intro x hx; simp at hx; omega)) ?_
 rintro v w19 ⟨rfl, hU19⟩
 have hzw19 := hU19.size
 replace HU := HU.trans0 hU19
 replace hs1 := hs1.upd0 hU19
 replace hs2 := hs2.upd0 hU19
 replace hO6 := hO6.upd0 hU19
 refine Wl_guard_t rfl ?_
 refine Wl_v (r_not rfl) ?_
 refine Wl_v (r_pick_f (v := .bool (!decide (([1, 1, 1, 2, 6, 7, 2] : List Int) = [1, 1, 1, 2, 6, 7, 2] ∧ (0 : Int) = 0))) rfl rfl) ?_
 refine Wmv (.bool (!decide (([1, 1, 1, 2, 6, 7, 2] : List Int) = [1, 1, 1, 2, 6, 7, 2] ∧ (0 : Int) = 0))) ?_
 have q5 : ([1, 1, 1, 2, 6, 7, 2] : List Int) = [1, 1, 1, 2, 6, 7, 2] ∧ (0 : Int) = 0 := ⟨rfl, rfl⟩
 rw [decide_eq_true q5]
 simp only [Bool.not_true, Bool.not_false]
 refine Wl_guard_t rfl ?_
 refine Wmv (.int .i64 7) ?_
 refine Wl_guard_t rfl ?_
 refine Wl_v (v := .bool false) (r_ne (a := 7) (b := 7) rfl rfl) ?_
 refine Wl_v (r_pick_f (v := .bool false) rfl rfl) ?_
 refine Wmv (.bool false) ?_
 refine Wl_guard_t rfl ?_
 refine Wmv (.int .i64 0) ?_
 refine Wl_guard_t rfl ?_
 refine Wl_call (r_call1 rfl call15 rfl) (num18 _ ) ?_
 rintro v w20 ⟨rfl, hU20⟩
 have hzw20 := hU20.size
 replace HU := HU.trans0 hU20
 replace hs1 := hs1.upd0 hU20
 replace hs2 := hs2.upd0 hU20
 replace hO6 := hO6.upd0 hU20
 refine Wl_guard_t rfl ?_
 refine Wl_v (v := .bool false) (r_ne (a := 0) (b := 0) rfl rfl) ?_
 refine Wl_v (r_pick_f (v := .bool false) rfl rfl) ?_
 refine Wmv (.bool false) ?_
 refine Wl_guard_t rfl ?_
 refine Wmv (.int .i64 11) ?_
 refine Wl_guard_t rfl ?_
 refine Wl_call (r_call1 rfl call15 rfl) (num18 _ ) ?_
 rintro v w21 ⟨rfl, hU21⟩
 have hzw21 := hU21.size
 replace HU := HU.trans0 hU21
 replace hs1 := hs1.upd0 hU21
 replace hs2 := hs2.upd0 hU21
 replace hO6 := hO6.upd0 hU21
 refine Wl_guard_t rfl ?_
 refine Wl_v (v := .bool false) (r_ne (a := 11) (b := 11) rfl rfl) ?_
 refine Wl_v (r_pick_f (v := .bool false) rfl rfl) ?_
 refine Wl_nil ?_
 refine W_cond_f rfl ?_
 refine W_skip (W_seq (W_region ?_))
 refine Wmv (.slice (some ⟨B1, 0, none⟩) 4 4) ?_
 refine Wmv (.slice a6 m6 c6) ?_
 refine Wl_call (r_call3 rfl call23 rfl rfl rfl) (fdec_spec _ hs1.sl (by omega) hO6.sl.any (by intro x hx; simp at hx; omega) (by omega) (by omega)) ?_
 rintro v w22 ⟨a22, m22, c22, rfl, hO22, hU22⟩
 have hzw22 := hU22.size
 replace HU := HU.trans0 hU22
 replace hs1 := hs1.upd0 hU22
 replace hs2 := hs2.upd0 hU22
 replace hO6 := hO6.upd0 hU22
 replace hO22 := hO22.tight
 have hl_hO22 := ilen hO22.sl
 have hc_hO22 := hO22.sl.cap.1
 replace hO22 := hO22.icong (show (d4F [2, 1, 0, 2] [1, 1, 1, 2, 6, 7, 2] 4).1 = [1, 0, 3, 1] from by decide +kernel)
 have hz_hO22 : m22 = ([1, 0, 3, 1] : List Int).length := (ilen hO22.sl).symm
 replace hz_hO22 : m22 = 4 := hz_hO22
 rw [show ((d4F [2, 1, 0, 2] [1, 1, 1, 2, 6, 7, 2] 4).2 : Int) = 0 from by decide +kernel]
 refine Wmv (.tuple #[.slice a22 m22 c22, .int .i64 0]) ?_
 refine Wl_v (r_ext (v := .slice a22 m22 c22) rfl rfl) ?_
 refine Wl_v (r_ext (v := .int .i64 0) rfl rfl) ?_
 refine Was (.slice a22 m22 c22) ?_
 refine Was (.int .i64 0) ?_
 refine Wl_nil (W_seq (W_region ?_))
 refine Wmv (.slice (some ⟨B1, 0, none⟩) 4 4) ?_
 refine Wmv (.slice a6 m6 c6) ?_
 refine Wl_v (r_slicehn (h' := 6) underlying32 sizeOf5 rfl rfl (by omega) (by omega)) ?_
 have hT23 := Sl.cuth (n := 6) hO6.sl (by omega)
 have hl_hT23 := ilen hT23
 have hc_hT23 := hT23.cap.1
 refine Wl_call (r_call3 rfl call23 rfl rfl rfl) (fdec_spec _ hs1.sl (by omega) hT23.any (byt_take (by intro x hx; simp at hx; omega) _) (by omega) (by omega)) ?_
 rintro v w24 ⟨a24, m24, c24, rfl, hO24, hU24⟩
 have hzw24 := hU24.size
 replace HU := HU.trans0 hU24
 replace hs1 := hs1.upd0 hU24
 replace hs2 := hs2.upd0 hU24
 replace hO22 := hO22.upd0 hU24
 replace hO24 := hO24.tight
 have hl_hO24 := ilen hO24.sl
 have hc_hO24 := hO24.sl.cap.1
 replace hO24 := hO24.icong (show (d4F [2, 1, 0, 2] ([1, 1, 1, 2, 6, 7, 2].take 6) 4).1 = [] from by decide +kernel)
 have hz_hO24 : m24 = ([] : List Int).length := (ilen hO24.sl).symm
 replace hz_hO24 : m24 = 0 := hz_hO24
 rw [show ((d4F [2, 1, 0, 2] ([1, 1, 1, 2, 6, 7, 2].take 6) 4).2 : Int) = 14 from by decide +kernel]
 refine Wmv (.tuple #[.slice a24 m24 c24, .int .i64 14]) ?_
 refine Wl_v (r_ext (v := .slice a24 m24 c24) rfl rfl) ?_
 refine Wl_v (r_ext (v := .int .i64 14) rfl rfl) ?_
 refine Was (.slice a24 m24 c24) ?_
 refine Was (.int .i64 14) ?_
 refine Wl_nil (W_seq (W_region ?_))
 refine Wmv (.slice (some ⟨B1, 0, none⟩) 4 4) ?_
 refine Wl_lit (pv := [(0, .int .u8 1), (1, .int .u8 1), (2, .int .u8 9), (3, .int .u8 2)]) (cs := [.int .u8 1, .int .u8 1, .int .u8 9, .int .u8 2]) underlying32 sizeOf5 zeroValue5 (by decide) (by decide) (by simp only [List.map_toArray, List.map_cons, List.map_nil] <;> rfl) (by kernel_rfl) rfl (by decide) ?_
 intro B25 w25 hB25 hU25 hzz25 hs25
 have hzw25 := hU25.size
 replace HU := HU.trans0 hU25
 replace hs1 := hs1.upd0 hU25
 replace hs2 := hs2.upd0 hU25
 replace hO22 := hO22.upd0 hU25
 replace hO24 := hO24.upd0 hU25
 replace hs25 : Own w25 (Is B25) 5 1 (.slice (some ⟨B25, 0, none⟩) 4 4) 4 (ints .u8 [1, 1, 9, 2]) := hs25
 replace hs25 : Own w25 (Is B25) 5 1 (.slice (some ⟨B25, 0, none⟩) 4 4) 4 (ints .u8 [1, 1, 9, 2]) := hs25
 refine Wl_call (r_call3 rfl call23 rfl rfl rfl) (fdec_spec _ hs1.sl (by omega) hs25.sl.any (by intro x hx; simp at hx; omega) (by omega) (by omega)) ?_
 rintro v w26 ⟨a26, m26, c26, rfl, hO26, hU26⟩
 have hzw26 := hU26.size
 replace HU := HU.trans0 hU26
 replace hs1 := hs1.upd0 hU26
 replace hs2 := hs2.upd0 hU26
 replace hO22 := hO22.upd0 hU26
 replace hO24 := hO24.upd0 hU26
 replace hO26 := hO26.tight
 have hl_hO26 := ilen hO26.sl
 have hc_hO26 := hO26.sl.cap.1
 replace hO26 := hO26.icong (show (d4F [2, 1, 0, 2] [1, 1, 9, 2] 4).1 = [] from by decide +kernel)
 have hz_hO26 : m26 = ([] : List Int).length := (ilen hO26.sl).symm
 replace hz_hO26 : m26 = 0 := hz_hO26
 rw [show ((d4F [2, 1, 0, 2] [1, 1, 9, 2] 4).2 : Int) = 3 from by decide +kernel]
 refine Wmv (.tuple #[.slice a26 m26 c26, .int .i64 3]) ?_
 refine Wl_v (r_ext (v := .slice a26 m26 c26) rfl rfl) ?_
 refine Wl_v (r_ext (v := .int .i64 3) rfl rfl) ?_
 refine Was (.slice a26 m26 c26) ?_
 refine Was (.int .i64 3) ?_
 refine Wl_nil (W_seq (W_region ?_))
 refine Wmv (.slice (some ⟨B1, 0, none⟩) 4 4) ?_
 refine Wl_lit (pv := [(0, .int .u8 1), (1, .int .u8 1)]) (cs := [.int .u8 1, .int .u8 1]) underlying32 sizeOf5 zeroValue5 (by decide) (by decide) (by simp only [List.map_toArray, List.map_cons, List.map_nil] <;> rfl) (by kernel_rfl) rfl (by decide) ?_
 intro B27 w27 hB27 hU27 hzz27 hs27
 have hzw27 := hU27.size
 replace HU := HU.trans0 hU27
 replace hs1 := hs1.upd0 hU27
 replace hs2 := hs2.upd0 hU27
 replace hO22 := hO22.upd0 hU27
 replace hO24 := hO24.upd0 hU27
 replace hO26 := hO26.upd0 hU27
 replace hs27 : Own w27 (Is B27) 5 1 (.slice (some ⟨B27, 0, none⟩) 2 2) 2 (ints .u8 [1, 1]) := hs27
 replace hs27 : Own w27 (Is B27) 5 1 (.slice (some ⟨B27, 0, none⟩) 2 2) 2 (ints .u8 [1, 1]) := hs27
 refine Wl_call (r_call3 rfl call23 rfl rfl rfl) (fdec_spec _ hs1.sl (by omega) hs27.sl.any (by intro x hx; simp at hx; omega) (by omega) (by omega)) ?_
 rintro v w28 ⟨a28, m28, c28, rfl, hO28, hU28⟩
 have hzw28 := hU28.size
 replace HU := HU.trans0 hU28
 replace hs2 := hs2.upd0 hU28
 replace hO22 := hO22.upd0 hU28
 replace hO24 := hO24.upd0 hU28
 replace hO26 := hO26.upd0 hU28
 replace hO28 := hO28.tight
 have hl_hO28 := ilen hO28.sl
 have hc_hO28 := hO28.sl.cap.1
 replace hO28 := hO28.icong (show (d4F [2, 1, 0, 2] [1, 1] 4).1 = [] from by decide +kernel)
 have hz_hO28 : m28 = ([] : List Int).length := (ilen hO28.sl).symm
 replace hz_hO28 : m28 = 0 := hz_hO28
 rw [show ((d4F [2, 1, 0, 2] [1, 1] 4).2 : Int) = 3 from by decide +kernel]
 refine Wmv (.tuple #[.slice a28 m28 c28, .int .i64 3]) ?_
 refine Wl_v (r_ext (v := .slice a28 m28 c28) rfl rfl) ?_
 refine Wl_v (r_ext (v := .int .i64 3) rfl rfl) ?_
 refine Was (.slice a28 m28 c28) ?_
 refine Was (.int .i64 3) ?_
 refine Wl_nil (W_seq (W_region ?_))
 refine Wl_lit (pv := [(0, .int .u8 2)]) (cs := [.int .u8 2]) underlying32 sizeOf5 zeroValue5 (by decide) (by decide) (by simp only [List.map_toArray, List.map_cons, List.map_nil] <;> rfl) (by kernel_rfl) rfl (by decide) ?_
 intro B29 w29 hB29 hU29 hzz29 hs29
 have hzw29 := hU29.size
 replace HU := HU.trans0 hU29
 replace hs2 := hs2.upd0 hU29
 replace hO22 := hO22.upd0 hU29
 replace hO24 := hO24.upd0 hU29
 replace hO26 := hO26.upd0 hU29
 replace hO28 := hO28.upd0 hU29
 replace hs29 : Own w29 (Is B29) 5 1 (.slice (some ⟨B29, 0, none⟩) 1 1) 1 (ints .u8 [2]) := hs29
 replace hs29 : Own w29 (Is B29) 5 1 (.slice (some ⟨B29, 0, none⟩) 1 1) 1 (ints .u8 [2]) := hs29
 refine Wl_lit (pv := [(0, .int .u8 6)]) (cs := [.int .u8 6]) underlying32 sizeOf5 zeroValue5 (by decide) (by decide) (by simp only [List.map_toArray, List.map_cons, List.map_nil] <;> rfl) (by kernel_rfl) rfl (by decide) ?_
 intro B30 w30 hB30 hU30 hzz30 hs30
 have hzw30 := hU30.size
 replace HU := HU.trans0 hU30
 replace hs2 := hs2.upd0 hU30
 replace hO22 := hO22.upd0 hU30
 replace hO24 := hO24.upd0 hU30
 replace hO26 := hO26.upd0 hU30
 replace hO28 := hO28.upd0 hU30
 replace hs29 := hs29.upd0 hU30
 replace hs30 : Own w30 (Is B30) 5 1 (.slice (some ⟨B30, 0, none⟩) 1 1) 1 (ints .u8 [6]) := hs30
 replace hs30 : Own w30 (Is B30) 5 1 (.slice (some ⟨B30, 0, none⟩) 1 1) 1 (ints .u8 [6]) := hs30
 refine Wl_lit (pv := [(0, .int .u8 7)]) (cs := [.int .u8 7]) underlying32 sizeOf5 zeroValue5 (by decide) (by decide) (by simp only [List.map_toArray, List.map_cons, List.map_nil] <;> rfl) (by kernel_rfl) rfl (by decide) ?_
 intro B31 w31 hB31 hU31 hzz31 hs31
 have hzw31 := hU31.size
 replace HU := HU.trans0 hU31
 replace hs2 := hs2.upd0 hU31
 replace hO22 := hO22.upd0 hU31
 replace hO24 := hO24.upd0 hU31
 replace hO26 := hO26.upd0 hU31
 replace hO28 := hO28.upd0 hU31
 replace hs29 := hs29.upd0 hU31
 replace hs30 := hs30.upd0 hU31
 replace hs31 : Own w31 (Is B31) 5 1 (.slice (some ⟨B31, 0, none⟩) 1 1) 1 (ints .u8 [7]) := hs31
 replace hs31 : Own w31 (Is B31) 5 1 (.slice (some ⟨B31, 0, none⟩) 1 1) 1 (ints .u8 [7]) := hs31
 refine Wl_lit (pv := [(0, .int .u8 2)]) (cs := [.int .u8 2]) underlying32 sizeOf5 zeroValue5 (by decide) (by decide) (by simp only [List.map_toArray, List.map_cons, List.map_nil] <;> rfl) (by kernel_rfl) rfl (by decide) ?_
 intro B32 w32 hB32 hU32 hzz32 hs32
 have hzw32 := hU32.size
 replace HU := HU.trans0 hU32
 replace hs2 := hs2.upd0 hU32
 replace hO22 := hO22.upd0 hU32
 replace hO24 := hO24.upd0 hU32
 replace hO26 := hO26.upd0 hU32
 replace hO28 := hO28.upd0 hU32
 replace hs29 := hs29.upd0 hU32
 replace hs30 := hs30.upd0 hU32
 replace hs31 := hs31.upd0 hU32
 replace hs32 : Own w32 (Is B32) 5 1 (.slice (some ⟨B32, 0, none⟩) 1 1) 1 (ints .u8 [2]) := hs32
 replace hs32 : Own w32 (Is B32) 5 1 (.slice (some ⟨B32, 0, none⟩) 1 1) 1 (ints .u8 [2]) := hs32
 refine Wl_lit (pv := [(0, .slice (some ⟨B29, 0, none⟩) 1 1), (1, .slice (some ⟨B30, 0, none⟩) 1 1), (2, .slice (some ⟨B31, 0, none⟩) 1 1), (3, .slice (some ⟨B32, 0, none⟩) 1 1)]) (cs := [.slice (some ⟨B29, 0, none⟩) 1 1, .slice (some ⟨B30, 0, none⟩) 1 1, .slice (some ⟨B31, 0, none⟩) 1 1, .slice (some ⟨B32, 0, none⟩) 1 1]) underlying41 sizeOf32 zeroValue32 (by decide) (by decide) (by simp only [List.map_toArray, List.map_cons, List.map_nil] <;> rfl) (by kernel_rfl) rfl (by decide) ?_
 intro B33 w33 hB33 hU33 hzz33 hs33
 have hzw33 := hU33.size
 replace HU := HU.trans0 hU33
 replace hs2 := hs2.upd0 hU33
 replace hO22 := hO22.upd0 hU33
 replace hO24 := hO24.upd0 hU33
 replace hO26 := hO26.upd0 hU33
 replace hO28 := hO28.upd0 hU33
 replace hs29 := hs29.upd0 hU33
 replace hs30 := hs30.upd0 hU33
 replace hs31 := hs31.upd0 hU33
 replace hs32 := hs32.upd0 hU33
 refine Wl_call (r_call1 rfl call21 rfl) (fjoin_ok _ hs33.sl hs29.sl.any hs30.sl.any hs31.sl.any hs32.sl.any (by omega) (by omega)) ?_
 rintro v w34 ⟨a34, m34, c34, rfl, hO34, hU34⟩
 have hzw34 := hU34.size
 replace HU := HU.trans0 hU34
 replace hs2 := hs2.upd0 hU34
 replace hO22 := hO22.upd0 hU34
 replace hO24 := hO24.upd0 hU34
 replace hO26 := hO26.upd0 hU34
 replace hO28 := hO28.upd0 hU34
 replace hO34 := hO34.tight
 have hl_hO34 := ilen hO34.sl
 have hc_hO34 := hO34.sl.cap.1
 replace hO34 := hO34.icong (show jn [2] [6] [7] [2] = [1, 1, 1, 2, 6, 7, 2] from by decide +kernel)
 have hz_hO34 : m34 = ([1, 1, 1, 2, 6, 7, 2] : List Int).length := (ilen hO34.sl).symm
 replace hz_hO34 : m34 = 7 := hz_hO34
 refine Wmv (.tuple #[.slice a34 m34 c34, .int .i64 0]) ?_
 refine Wl_v (r_ext (v := .slice a34 m34 c34) rfl rfl) ?_
 refine Wl_v (r_ext (v := .int .i64 0) rfl rfl) ?_
 refine Was (.slice a34 m34 c34) ?_
 refine Was (.int .i64 0) ?_
 refine Wl_nil (W_seq (W_region ?_))
 refine Wmv (.slice a22 m22 c22) ?_
 refine Wmv (.int .i64 0) ?_
 refine Wmv (.slice (some ⟨B2, 0, none⟩) 4 4) ?_
 refine Wl_bstr underlying32 underlying5 underlying9 rfl hs2.sl ?_
 refine Wl_call (r_call4 rfl call19 rfl rfl rfl rfl) (is18 (y := [1, 0, 3, 1]) _ hO22.sl.any (by intro x hx; simp at hx; omega) (by intro x hx; simp at hx; omega)) ?_
 rintro v w35 ⟨rfl, hU35⟩
 have hzw35 := hU35.size
 replace HU := HU.trans0 hU35
 replace hO24 := hO24.upd0 hU35
 replace hO26 := hO26.upd0 hU35
 replace hO28 := hO28.upd0 hU35
 replace hO34 := hO34.upd0 hU35
 refine Wmv (.bool (decide (([1, 0, 3, 1] : List Int) = [1, 0, 3, 1] ∧ (0 : Int) = 0))) ?_
 have q6 : ([1, 0, 3, 1] : List Int) = [1, 0, 3, 1] ∧ (0 : Int) = 0 := ⟨rfl, rfl⟩
 rw [decide_eq_true q6]
 refine Wl_guard_t rfl ?_
 refine Wmv (.slice a24 m24 c24) ?_
 refine Wl_guard_t rfl ?_
 refine Wmv (.int .i64 14) ?_
 refine Wl_guard_t rfl ?_
 refine Wl_call (r_call4 rfl call19 rfl rfl rfl rfl) (is18 (y := []) _ hO24.sl.any byt_nil byt_nil) ?_
 rintro v w36 ⟨rfl, hU36⟩
 have hzw36 := hU36.size
 replace HU := HU.trans0 hU36
 replace hO26 := hO26.upd0 hU36
 replace hO28 := hO28.upd0 hU36
 replace hO34 := hO34.upd0 hU36
 refine Wl_v (r_pick_t (v := .bool (decide (([] : List Int) = [] ∧ (14 : Int) = 14))) rfl rfl) ?_
 refine Wmv (.bool (decide (([] : List Int) = [] ∧ (14 : Int) = 14))) ?_
 have q7 : ([] : List Int) = [] ∧ (14 : Int) = 14 := ⟨rfl, rfl⟩
 rw [decide_eq_true q7]
 refine Wl_guard_t rfl ?_
 refine Wmv (.slice a26 m26 c26) ?_
 refine Wl_guard_t rfl ?_
 refine Wmv (.int .i64 3) ?_
 refine Wl_guard_t rfl ?_
 refine Wl_call (r_call4 rfl call19 rfl rfl rfl rfl) (is18 (y := []) _ hO26.sl.any byt_nil byt_nil) ?_
 rintro v w37 ⟨rfl, hU37⟩
 have hzw37 := hU37.size
 replace HU := HU.trans0 hU37
 replace hO28 := hO28.upd0 hU37
 replace hO34 := hO34.upd0 hU37
 refine Wl_v (r_pick_t (v := .bool (decide (([] : List Int) = [] ∧ (3 : Int) = 3))) rfl rfl) ?_
 refine Wmv (.bool (decide (([] : List Int) = [] ∧ (3 : Int) = 3))) ?_
 have q8 : ([] : List Int) = [] ∧ (3 : Int) = 3 := ⟨rfl, rfl⟩
 rw [decide_eq_true q8]
 refine Wl_guard_t rfl ?_
 refine Wmv (.slice a28 m28 c28) ?_
 refine Wl_guard_t rfl ?_
 refine Wmv (.int .i64 3) ?_
 refine Wl_guard_t rfl ?_
 refine Wl_call (r_call4 rfl call19 rfl rfl rfl rfl) (is18 (y := []) _ hO28.sl.any byt_nil byt_nil) ?_
 rintro v w38 ⟨rfl, hU38⟩
 have hzw38 := hU38.size
 replace HU := HU.trans0 hU38
 replace hO34 := hO34.upd0 hU38
 refine Wl_v (r_pick_t (v := .bool (decide (([] : List Int) = [] ∧ (3 : Int) = 3))) rfl rfl) ?_
 refine Wmv (.bool (decide (([] : List Int) = [] ∧ (3 : Int) = 3))) ?_
 have q9 : ([] : List Int) = [] ∧ (3 : Int) = 3 := ⟨rfl, rfl⟩
 rw [decide_eq_true q9]
 refine Wl_guard_t rfl ?_
 refine Wmv (.slice a34 m34 c34) ?_
 refine Wl_guard_t rfl ?_
 refine Wmv (.int .i64 0) ?_
 refine Wl_guard_t rfl ?_
 refine Wl_call (r_call4 rfl call19 rfl rfl rfl rfl) (is18 (y := [1, 1, 1, 2, 6, 7, 2]) _ hO34.sl.any (by intro x hx; simp at hx; omega) (by intro x hx; simp at hx; omega)) ?_
 rintro v w39 ⟨rfl, hU39⟩
 have hzw39 := hU39.size
 replace HU := HU.trans0 hU39
 refine Wl_v (r_pick_t (v := .bool (decide (([1, 1, 1, 2, 6, 7, 2] : List Int) = [1, 1, 1, 2, 6, 7, 2] ∧ (0 : Int) = 0))) rfl rfl) ?_
 refine Was (.bool (decide (([1, 1, 1, 2, 6, 7, 2] : List Int) = [1, 1, 1, 2, 6, 7, 2] ∧ (0 : Int) = 0))) ?_
 refine Wl_nil ?_
 refine W_ret ?_
 refine ret_end (v := .bool (decide (([1, 1, 1, 2, 6, 7, 2] : List Int) = [1, 1, 1, 2, 6, 7, 2] ∧ (0 : Int) = 0))) rfl (res1 results16 rfl) ?_
 exact ⟨_, rfl, (by rw [decide_eq_true (show ([1, 1, 1, 2, 6, 7, 2] : List Int) = [1, 1, 1, 2, 6, 7, 2] ∧ (0 : Int) = 0 from ⟨rfl, rfl⟩)]), HU⟩
end Go.Proofs.YtdppageondgjkaaGreat
