/-
  Several texts of this project, put together.
-/
import Derived.Test.YtdppageondgjkaaGreatZA
set_option linter.unusedVariables false
set_option linter.unusedSimpArgs false
set_option maxRecDepth 100000
namespace Go.Proofs.YtdppageondgjkaaGreat
open Go.Fw _root_.Go.Proofs.Tryz
theorem told_d_ok {a a2 : Option Addr} {n c m d : Nat} {l b : List Int} {R : Nat → Prop} {bn n0 : Nat} (w : World) (hN : Blk w bn [.int .i64 ((n0 : Nat) : Int)]) (hs : Sl w R 1 (.slice a n c) n (ints .i64 l)) (hn : n ≤ 1000) (hsb : Sl w (fun g => g < w.heap.size) 1 (.slice a2 m d) m (ints .u8 b)) (hb : Byt b) (hm : m ≤ 100000) (hr : Rt l) (hc : Cl b) (hnn : n0 ≤ 131072) (hg : Gd l b (tbt b) n0 ∧ st l (wn b) (tbt b) n0 = 0) :
  Calls Tryz.prog 101 #[.slice a n c, .slice a2 m d, .func (.func 102) #[] #[.pointer (some ⟨bn, 0, none⟩)]] w (Ret fun v w' => ∃ (a' : Option Addr) (c' : Nat), v = .tuple #[.slice a' n0 c', .int .i64 0] ∧ Own w' (fun g => w.heap.size ≤ g) 5 1 (.slice a' n0 c') n0 (ints .u8 (yms l (wn b) (tbt b) n0)) ∧ Upd No w w') := by
 have HU := Upd.rno w
 have hbl_hN := hN.lt
 have hl_hs := ilen hs
 have hc_hs := hs.cap.1
 replace hs := hs.tight
 have hl_hsb := ilen hsb
 have hc_hsb := hsb.cap.1
 have htbl : tbt b ≤ 8 * b.length := by have := (cl_bd hb hc).2.2.2; omega
 refine calls_of_W func101 rfl ntmps101 (by simp) ?_
 refine W_seq (W_region ?_)
 refine Wl_alloc (cs := [.slice none 0 0]) zeroValue32 rfl ?_
 intro B1 w1 hB1 hU1 hzz1 hb1
 have hzw1 := hU1.size
 replace hN := hN.upd0 hU1
 replace hs := hs.upd0 hU1
 replace hsb := hsb.upd0 hU1
 replace HU := HU.trans0 hU1
 refine Wl_alloc (cs := [.int .i64 0]) zeroValue23 rfl ?_
 intro B2 w2 hB2 hU2 hzz2 hb2
 have hzw2 := hU2.size
 replace hN := hN.upd0 hU2
 replace hs := hs.upd0 hU2
 replace hsb := hsb.upd0 hU2
 replace HU := HU.trans0 hU2
 replace hb1 := hb1.upd0 hU2
 refine Wl_nil (W_seq (W_region ?_))
 refine Wl_v (r_mkf1 (v0 := .pointer (some ⟨B1, 0, none⟩)) rfl) ?_
 refine Wl_defer2 rfl rfl ?_
 refine Wl_nil (W_seq (W_region ?_))
 refine Wmv (.func (.func 102) #[] #[.pointer (some ⟨bn, 0, none⟩)]) ?_
 refine Wmv (.slice a n c) ?_
 refine Wmv (.slice a2 m d) ?_
 refine Wl_call (r_call2 rfl call117 rfl rfl) (open_ok _ hs (by omega) hsb.any hb (by omega) hr hc) ?_
 rintro v w3 ⟨rb3, tb3, G3, rfl, hR3, hU3⟩
 have hzw3 := hU3.size
 replace hN := hN.upd0 hU3
 replace HU := HU.trans0 hU3
 replace hb1 := hb1.upd0 hU3
 replace hb2 := hb2.upd0 hU3
 have hrl := hR3.lt
 refine Wl_call (r_clos1 call102 rfl rfl (by first | (simp; done) | (simp; rfl))) (dcl_ok _ hN hR3 (by omega) hb (by omega) (by omega) hg (by omega)) ?_
 rintro v w4 ⟨a4, c4, rfl, hO4, hU4⟩
 have hzw4 := hU4.size
 replace HU := HU.t1 hU4 (by omega)
 replace hb1 := hb1.upd1 hU4 (by omega)
 replace hb2 := hb2.upd1 hU4 (by omega)
 replace hO4 := hO4.tight
 have hl_hO4 := ilen hO4.sl
 have hc_hO4 := hO4.sl.cap.1
 refine Wl_store (v := .slice a4 n0 c4) (cs' := [.slice a4 n0 c4]) sizeOf32 rfl rfl rfl rfl hb1 rfl rfl ?_
 intro w5 hU5 hzz5 hb1n
 replace hb1 := hb1n; clear hb1n
 have hzw5 := hU5.size
 replace HU := HU.t1 hU5 (by omega)
 replace hb2 := hb2.upd1 hU5 (by omega)
 replace hO4 := hO4.upd1 hU5 (show ¬ (((w3.heap.size ≤ B1) ∧ B1 < w4.heap.size)) by omega)
 refine Wl_store (v := .int .i64 0) (cs' := [.int .i64 0]) sizeOf23 rfl rfl rfl rfl hb2 rfl rfl ?_
 intro w6 hU6 hzz6 hb2n
 replace hb2 := hb2n; clear hb2n
 have hzw6 := hU6.size
 replace HU := HU.t1 hU6 (by omega)
 replace hb1 := hb1.upd1 hU6 (by omega)
 replace hO4 := hO4.upd1 hU6 (show ¬ (((w3.heap.size ≤ B2) ∧ B2 < w4.heap.size)) by omega)
 refine Wl_nil ?_
 refine W_ret ?_
 refine ret_ds rfl ?_
 refine lv_call (by simp) call59 rfl (ocaught_ret _) ?_
 rintro e1 u1 w7 ⟨rfl, v1, rfl, rfl, hU7⟩
 have hzw7 := hU7.size
 replace HU := HU.trans0 hU7
 replace hb1 := hb1.upd0 hU7
 replace hb2 := hb2.upd0 hU7
 replace hO4 := hO4.upd0 hU7
 refine lv_nil (v := .tuple #[.slice a4 n0 c4, .int .i64 0]) (rc2 results101 rfl rfl (cellIs isAgg32 hb1) (cellIs isAgg23 hb2)) ?_
 exact ⟨_, rfl, a4, c4, rfl, (hO4.weak (by intro g hg; have h3 : ((w3.heap.size ≤ g) ∧ g < w4.heap.size) := hg; show w.heap.size ≤ g; omega)), HU⟩
theorem told_d_pan {a a2 : Option Addr} {n c m d : Nat} {l b : List Int} {R : Nat → Prop} {bn n0 : Nat} (w : World) (hN : Blk w bn [.int .i64 ((n0 : Nat) : Int)]) (hs : Sl w R 1 (.slice a n c) n (ints .i64 l)) (hn : n ≤ 1000) (hsb : Sl w (fun g => g < w.heap.size) 1 (.slice a2 m d) m (ints .u8 b)) (hb : Byt b) (hm : m ≤ 100000) (hr : Rt l) (hc : Cl b) (hnn : n0 ≤ 131072) (hg : ¬ (Gd l b (tbt b) n0 ∧ st l (wn b) (tbt b) n0 = 0)) :
  Calls Tryz.prog 101 #[.slice a n c, .slice a2 m d, .func (.func 102) #[] #[.pointer (some ⟨bn, 0, none⟩)]] w (Ret fun v w' => v = .tuple #[.slice none 0 0, .int .i64 14] ∧ Upd No w w') := by
 have HU := Upd.rno w
 have hbl_hN := hN.lt
 have hl_hs := ilen hs
 have hc_hs := hs.cap.1
 replace hs := hs.tight
 have hl_hsb := ilen hsb
 have hc_hsb := hsb.cap.1
 have htbl : tbt b ≤ 8 * b.length := by have := (cl_bd hb hc).2.2.2; omega
 refine calls_of_W func101 rfl ntmps101 (by simp) ?_
 refine W_seq (W_region ?_)
 refine Wl_alloc (cs := [.slice none 0 0]) zeroValue32 rfl ?_
 intro B1 w1 hB1 hU1 hzz1 hb1
 have hzw1 := hU1.size
 replace hN := hN.upd0 hU1
 replace hs := hs.upd0 hU1
 replace hsb := hsb.upd0 hU1
 replace HU := HU.trans0 hU1
 refine Wl_alloc (cs := [.int .i64 0]) zeroValue23 rfl ?_
 intro B2 w2 hB2 hU2 hzz2 hb2
 have hzw2 := hU2.size
 replace hN := hN.upd0 hU2
 replace hs := hs.upd0 hU2
 replace hsb := hsb.upd0 hU2
 replace HU := HU.trans0 hU2
 replace hb1 := hb1.upd0 hU2
 refine Wl_nil (W_seq (W_region ?_))
 refine Wl_v (r_mkf1 (v0 := .pointer (some ⟨B1, 0, none⟩)) rfl) ?_
 refine Wl_defer2 rfl rfl ?_
 refine Wl_nil (W_seq (W_region ?_))
 refine Wmv (.func (.func 102) #[] #[.pointer (some ⟨bn, 0, none⟩)]) ?_
 refine Wmv (.slice a n c) ?_
 refine Wmv (.slice a2 m d) ?_
 refine Wl_call (r_call2 rfl call117 rfl rfl) (open_ok _ hs (by omega) hsb.any hb (by omega) hr hc) ?_
 rintro v w3 ⟨rb3, tb3, G3, rfl, hR3, hU3⟩
 have hzw3 := hU3.size
 replace hN := hN.upd0 hU3
 replace HU := HU.trans0 hU3
 replace hb1 := hb1.upd0 hU3
 replace hb2 := hb2.upd0 hU3
 have hrl := hR3.lt
 refine Wl_callp (r_clos1 call102 rfl rfl (by first | (simp; done) | (simp; rfl))) (dcl_no _ hN hR3 (by omega) hb (by omega) (by omega) hg (by omega)) ?_
 intro w4 hU4
 have hzw4 := hU4.size
 replace HU := HU.t1 hU4 (by omega)
 replace hb1 := hb1.upd1 hU4 (by omega)
 replace hb2 := hb2.upd1 hU4 (by omega)
 refine pan_ds rfl ?_
 refine lv_call (by simp) call59 rfl (ocaught_pan (S := fun g => g = B1) (Φ := fun w' => Blk w' B1 [.slice none 0 0]) _ hb2 call116 (by show ¬ (B2 = B1); first | omega | exact fun h => h) (otold_b _ hb1)) ?_
 rintro e1 u1 w5 ⟨rfl, v1, rfl, rfl, wq5, hz5_0, hUa5, hUb5, hbe5⟩
 have hzwq5 := hUa5.size
 replace HU := HU.trans hUa5 (by intro x hx; have hx2 : x = B1 := hx; show (False) ∨ w.heap.size ≤ x; omega)
 have hzw5 := hUb5.size
 replace HU := HU.t1 hUb5 (by omega)
 replace hz5_0 := hz5_0.upd1 hUb5 (by omega)
 refine lv_nil (v := .tuple #[.slice none 0 0, .int .i64 14]) (rc2 results101 rfl rfl (cellIs isAgg32 hz5_0) (cellIs isAgg23 hbe5)) ?_
 exact ⟨_, rfl, rfl, HU⟩
theorem told_d_bits {a a2 : Option Addr} {n c m d : Nat} {l b : List Int} {R : Nat → Prop} {bn : Nat} (w : World) (hs : Sl w R 1 (.slice a n c) n (ints .i64 l)) (hn : n ≤ 1000) (hsb : Sl w (fun g => g < w.heap.size) 1 (.slice a2 m d) m (ints .u8 b)) (hb : Byt b) (hm : m ≤ 100000) (hr : Rt l) (hc : ¬ Cl b) :
  Calls Tryz.prog 101 #[.slice a n c, .slice a2 m d, .func (.func 102) #[] #[.pointer (some ⟨bn, 0, none⟩)]] w (Ret fun v w' => v = .tuple #[.slice none 0 0, .int .i64 14] ∧ Upd No w w') := by
 have HU := Upd.rno w
 have hl_hs := ilen hs
 have hc_hs := hs.cap.1
 replace hs := hs.tight
 have hl_hsb := ilen hsb
 have hc_hsb := hsb.cap.1
 refine calls_of_W func101 rfl ntmps101 (by simp) ?_
 refine W_seq (W_region ?_)
 refine Wl_alloc (cs := [.slice none 0 0]) zeroValue32 rfl ?_
 intro B1 w1 hB1 hU1 hzz1 hb1
 have hzw1 := hU1.size
 replace hs := hs.upd0 hU1
 replace hsb := hsb.upd0 hU1
 replace HU := HU.trans0 hU1
 refine Wl_alloc (cs := [.int .i64 0]) zeroValue23 rfl ?_
 intro B2 w2 hB2 hU2 hzz2 hb2
 have hzw2 := hU2.size
 replace hs := hs.upd0 hU2
 replace hsb := hsb.upd0 hU2
 replace HU := HU.trans0 hU2
 replace hb1 := hb1.upd0 hU2
 refine Wl_nil (W_seq (W_region ?_))
 refine Wl_v (r_mkf1 (v0 := .pointer (some ⟨B1, 0, none⟩)) rfl) ?_
 refine Wl_defer2 rfl rfl ?_
 refine Wl_nil (W_seq (W_region ?_))
 refine Wmv (.func (.func 102) #[] #[.pointer (some ⟨bn, 0, none⟩)]) ?_
 refine Wmv (.slice a n c) ?_
 refine Wmv (.slice a2 m d) ?_
 refine Wl_callp (r_call2 rfl call117 rfl rfl) (open_bits _ hs (by omega) hsb.any hb (by omega) hr hc) ?_
 intro w3 hU3
 have hzw3 := hU3.size
 replace HU := HU.trans0 hU3
 replace hb1 := hb1.upd0 hU3
 replace hb2 := hb2.upd0 hU3
 refine pan_ds rfl ?_
 refine lv_call (by simp) call59 rfl (ocaught_pan (S := fun g => g = B1) (Φ := fun w' => Blk w' B1 [.slice none 0 0]) _ hb2 call116 (by show ¬ (B2 = B1); first | omega | exact fun h => h) (otold_b _ hb1)) ?_
 rintro e1 u1 w4 ⟨rfl, v1, rfl, rfl, wq4, hz4_0, hUa4, hUb4, hbe4⟩
 have hzwq4 := hUa4.size
 replace HU := HU.trans hUa4 (by intro x hx; have hx2 : x = B1 := hx; show (False) ∨ w.heap.size ≤ x; omega)
 have hzw4 := hUb4.size
 replace HU := HU.t1 hUb4 (by omega)
 replace hz4_0 := hz4_0.upd1 hUb4 (by omega)
 refine lv_nil (v := .tuple #[.slice none 0 0, .int .i64 14]) (rc2 results101 rfl rfl (cellIs isAgg32 hz4_0) (cellIs isAgg23 hbe4)) ?_
 exact ⟨_, rfl, rfl, HU⟩
instance (l b : List Int) (t n : Nat) : Decidable (Gd l b t n) := inferInstanceAs (Decidable (∀ j, j < n → gd l (wn b) t j))
def dcF (l b : List Int) (n : Int) : List Int × Int := if ¬ Rt l then ([], 12) else if ¬ (0 ≤ n ∧ n ≤ 131072) then ([], 2) else if ¬ Cl b then ([], 14) else
 if Gd l b (tbt b) n.toNat ∧ st l (wn b) (tbt b) n.toNat = 0 then (yms l (wn b) (tbt b) n.toNat, 0) else ([], 14)
theorem gd_le {l : List Int} (hr : Rt l) {b : List Int} {t n : Nat} : Gd l b t n ↔ n ≤ nb l (wn b) t := by
 obtain ⟨h1, h2, _⟩ := nb_spec hr (wn b) t
 constructor
 ·intro h
  rcases Nat.lt_or_ge (nb l (wn b) t) n with h3 | h3
  ·exact absurd (h _ h3) h2
  exact h3
 exact fun h j hj => h1 j (by omega)
theorem gd_end {l : List Int} (hr : Rt l) {b : List Int} {t n : Nat} : (Gd l b t n ∧ st l (wn b) t n = 0) ↔ (n = nb l (wn b) t ∧ st l (wn b) t (nb l (wn b) t) = 0) := by
 constructor
 ·rintro ⟨h1, h2⟩
  have := nb_stop hr h1 h2
  rw [this]; exact ⟨rfl, h2⟩
 rintro ⟨rfl, h2⟩
 exact ⟨(nb_spec hr _ _).1, h2⟩
theorem right_ok {a : Option Addr} {n c : Nat} {l : List Int} {R : Nat → Prop} {nn : Int} (w : World) (hs : Sl w R 1 (.slice a n c) n (ints .i64 l)) (hn : n ≤ 17592186044415) (hr : Rt l) (hnn : 0 ≤ nn ∧ nn ≤ 131072) :
  Calls Tryz.prog 100 #[.slice a n c, .int .i64 nn] w (Ret fun v w' => v = .int .i64 0 ∧ Upd No w w') := by
 have HU := Upd.rno w
 have hl_hs := ilen hs
 have hc_hs := hs.cap.1
 replace hs := hs.tight
 refine calls_of_W func100 rfl ntmps100 (by simp) ?_
 refine W_seq (W_region ?_)
 refine Was (.int .i64 0) ?_
 refine Wl_nil (W_seq (W_seq (W_region ?_)))
 refine Wmv (.slice a n c) ?_
 refine Wl_call (r_call1 rfl call56 rfl) (check_ok _ hs (by omega) hr) ?_
 rintro v w1 ⟨rfl, hU1⟩
 have hzw1 := hU1.size
 replace HU := HU.trans0 hU1
 refine Was (.int .i64 0) ?_
 refine Wl_nil (W_seq (W_region ?_))
 refine Wmv (.int .i64 0) ?_
 refine Wl_v (v := .bool true) (r_eq (a := 0) (b := 0) rfl rfl) ?_
 refine Wmv (.bool true) ?_
 refine Wl_guard_t rfl ?_
 refine Wmv (.int .i64 nn) ?_
 refine Wl_guard_t rfl ?_
 refine Wl_v (r_lt rfl rfl) ?_
 refine Wl_guard_t rfl ?_
 refine Wmv (.bool (decide (nn < 0))) ?_
 have q1 : ¬ (nn < 0) := (by omega)
 rw [decide_eq_false q1]
 refine Wl_guard_t rfl ?_
 refine Wmv (.int .i64 nn) ?_
 refine Wl_guard_t rfl ?_
 refine Wl_v (r_gt rfl rfl) ?_
 refine Wl_guard_t rfl ?_
 refine Wl_v (r_pick_f (v := .bool (decide (131072 < nn))) rfl rfl) ?_
 refine Wl_v (r_pick_t (v := .bool (decide (131072 < nn))) rfl rfl) ?_
 refine Wl_nil ?_
 have q2 : ¬ (131072 < nn) := (by omega)
 rw [decide_eq_false q2]
 refine W_cond_f rfl ?_
 refine W_skip (W_seq (W_region ?_))
 refine Wmv (.int .i64 0) ?_
 refine Was (.int .i64 0) ?_
 refine Wl_nil ?_
 refine W_ret ?_
 refine ret_end (v := .int .i64 0) rfl (res1 results100 rfl) ?_
 exact ⟨_, rfl, rfl, HU⟩
theorem right_arg {a : Option Addr} {n c : Nat} {l : List Int} {R : Nat → Prop} {nn : Int} (w : World) (hs : Sl w R 1 (.slice a n c) n (ints .i64 l)) (hn : n ≤ 17592186044415) (hr : Rt l) (hnn : ¬ (0 ≤ nn ∧ nn ≤ 131072)) :
  Calls Tryz.prog 100 #[.slice a n c, .int .i64 nn] w (Ret fun v w' => v = .int .i64 2 ∧ Upd No w w') := by
 have HU := Upd.rno w
 have hl_hs := ilen hs
 have hc_hs := hs.cap.1
 replace hs := hs.tight
 refine calls_of_W func100 rfl ntmps100 (by simp) ?_
 refine W_seq (W_region ?_)
 refine Was (.int .i64 0) ?_
 refine Wl_nil (W_seq (W_seq (W_region ?_)))
 refine Wmv (.slice a n c) ?_
 refine Wl_call (r_call1 rfl call56 rfl) (check_ok _ hs (by omega) hr) ?_
 rintro v w1 ⟨rfl, hU1⟩
 have hzw1 := hU1.size
 replace HU := HU.trans0 hU1
 refine Was (.int .i64 0) ?_
 refine Wl_nil (W_seq (W_region ?_))
 refine Wmv (.int .i64 0) ?_
 refine Wl_v (v := .bool true) (r_eq (a := 0) (b := 0) rfl rfl) ?_
 refine Wmv (.bool true) ?_
 refine Wl_guard_t rfl ?_
 refine Wmv (.int .i64 nn) ?_
 refine Wl_guard_t rfl ?_
 refine Wl_v (r_lt rfl rfl) ?_
 refine Wl_guard_t rfl ?_
 refine Wmv (.bool (decide (nn < 0))) ?_
 by_cases q1 : nn < 0
 ·rw [decide_eq_true q1]
  refine Wl_guard_f rfl (Wl_guard_f rfl (Wl_guard_t rfl ?_))
  refine Wl_v (r_pick_t (v := .bool true) rfl rfl) ?_
  refine Wl_v (r_pick_t (v := .bool true) rfl rfl) ?_
  refine Wl_nil ?_
  refine W_cond_t rfl ?_
  refine W_region ?_
  refine Was (.int .i64 2) ?_
  refine Wl_nil (W_seq (W_region ?_))
  refine Wmv (.int .i64 2) ?_
  refine Was (.int .i64 2) ?_
  refine Wl_nil ?_
  refine W_ret ?_
  refine ret_end (v := .int .i64 2) rfl (res1 results100 rfl) ?_
  exact ⟨_, rfl, rfl, HU⟩
 rw [decide_eq_false q1]
 refine Wl_guard_t rfl ?_
 refine Wmv (.int .i64 nn) ?_
 refine Wl_guard_t rfl ?_
 refine Wl_v (r_gt rfl rfl) ?_
 refine Wl_guard_t rfl ?_
 refine Wl_v (r_pick_f (v := .bool (decide (131072 < nn))) rfl rfl) ?_
 refine Wl_v (r_pick_t (v := .bool (decide (131072 < nn))) rfl rfl) ?_
 refine Wl_nil ?_
 by_cases q2 : 131072 < nn
 ·rw [decide_eq_true q2]
  refine W_cond_t rfl ?_
  refine W_region ?_
  refine Was (.int .i64 2) ?_
  refine Wl_nil (W_seq (W_region ?_))
  refine Wmv (.int .i64 2) ?_
  refine Was (.int .i64 2) ?_
  refine Wl_nil ?_
  refine W_ret ?_
  refine ret_end (v := .int .i64 2) rfl (res1 results100 rfl) ?_
  exact ⟨_, rfl, rfl, HU⟩
 rw [decide_eq_false q2]
 refine W_cond_f rfl ?_
 refine W_skip (W_seq (W_region ?_))
 refine Wmv (.int .i64 0) ?_
 refine Was (.int .i64 0) ?_
 refine Wl_nil ?_
 refine W_ret ?_
 refine ret_end (v := .int .i64 0) rfl (res1 results100 rfl) ?_
 exact ⟨_, rfl, (absurd (show 0 ≤ nn ∧ nn ≤ 131072 from by omega) hnn), HU⟩
theorem right_tree {a : Option Addr} {n c : Nat} {l : List Int} {R : Nat → Prop} {nn : Int} (w : World) (hs : Sl w R 1 (.slice a n c) n (ints .i64 l)) (hn : n ≤ 17592186044415) (hr : ¬ Rt l) :
  Calls Tryz.prog 100 #[.slice a n c, .int .i64 nn] w (Ret fun v w' => v = .int .i64 12 ∧ Upd No w w') := by
 have HU := Upd.rno w
 have hl_hs := ilen hs
 have hc_hs := hs.cap.1
 replace hs := hs.tight
 refine calls_of_W func100 rfl ntmps100 (by simp) ?_
 refine W_seq (W_region ?_)
 refine Was (.int .i64 0) ?_
 refine Wl_nil (W_seq (W_seq (W_region ?_)))
 refine Wmv (.slice a n c) ?_
 refine Wl_call (r_call1 rfl call56 rfl) (check_no _ hs (by omega) hr) ?_
 rintro v w1 ⟨rfl, hU1⟩
 have hzw1 := hU1.size
 replace HU := HU.trans0 hU1
 refine Was (.int .i64 12) ?_
 refine Wl_nil (W_seq (W_region ?_))
 refine Wmv (.int .i64 12) ?_
 refine Wl_v (v := .bool false) (r_eq (a := 12) (b := 0) rfl rfl) ?_
 refine Wmv (.bool false) ?_
 refine Wl_guard_f rfl (Wl_guard_f rfl (Wl_guard_f rfl ?_))
 refine Wl_skip rfl ?_
 refine Wl_skip rfl ?_
 refine Wl_guard_f rfl ?_
 refine Wl_v (r_pick_f (v := .bool false) rfl rfl) ?_
 refine Wl_nil ?_
 refine W_cond_f rfl ?_
 refine W_skip (W_seq (W_region ?_))
 refine Wmv (.int .i64 12) ?_
 refine Was (.int .i64 12) ?_
 refine Wl_nil ?_
 refine W_ret ?_
 refine ret_end (v := .int .i64 12) rfl (res1 results100 rfl) ?_
 exact ⟨_, rfl, rfl, HU⟩
theorem odec {a a2 : Option Addr} {n c m d : Nat} {l b : List Int} {nn : Int} {R : Nat → Prop} (w : World) (hs : Sl w R 1 (.slice a n c) n (ints .i64 l)) (hn : n ≤ 1000) (hsb : Sl w (fun g => g < w.heap.size) 1 (.slice a2 m d) m (ints .u8 b)) (hb : Byt b) (hm : m ≤ 100000) (hni : -9223372036854775808 ≤ nn ∧ nn ≤ 9223372036854775807) :
  Calls Tryz.prog 80 #[.slice a n c, .slice a2 m d, .int .i64 nn] w (Ret fun v w' => ∃ (a' : Option Addr) (m' : Nat) (c' : Nat), v = .tuple #[.slice a' m' c', .int .i64 ((dcF l b nn).2)] ∧ Own w' (fun g => w.heap.size ≤ g) 5 1 (.slice a' m' c') m' (ints .u8 ((dcF l b nn).1)) ∧ Upd No w w') := by
 have HU := Upd.rno w
 have hl_hs := ilen hs
 have hc_hs := hs.cap.1
 replace hs := hs.tight
 have hl_hsb := ilen hsb
 have hc_hsb := hsb.cap.1
 refine calls_of_W func80 rfl ntmps80 (by simp) ?_
 refine W_seq (W_region ?_)
 refine Wl_box (v := .int .i64 nn) (cs := [.int .i64 nn]) rfl rfl ?_
 intro B1 w1 hB1 hU1 hzz1 hb1
 have hzw1 := hU1.size
 replace hs := hs.upd0 hU1
 replace hsb := hsb.upd0 hU1
 replace HU := HU.trans0 hU1
 refine Was (.slice none 0 0) ?_
 refine Was (.int .i64 0) ?_
 refine Wl_nil (W_seq (W_seq (W_region ?_)))
 refine Wmv (.slice a n c) ?_
 refine Wl_load (v := .int .i64 nn) isAgg3 rfl hb1 rfl ?_
 by_cases q1 : Rt l
 ·by_cases q2 : 0 ≤ nn ∧ nn ≤ 131072
  ·refine Wl_call (r_call2 rfl call100 rfl rfl) (right_ok _ hs (by omega) q1 q2) ?_
   rintro v w2 ⟨rfl, hU2⟩
   have hzw2 := hU2.size
   replace hs := hs.upd0 hU2
   replace hsb := hsb.upd0 hU2
   replace HU := HU.trans0 hU2
   replace hb1 := hb1.upd0 hU2
   replace hb1 := blkI hb1 (show nn = ((nn.toNat : Nat) : Int) from by omega)
   refine Was (.int .i64 0) ?_
   refine Wl_nil (W_seq (W_region ?_))
   refine Wmv (.int .i64 0) ?_
   refine Wl_v (v := .bool false) (r_ne (a := 0) (b := 0) rfl rfl) ?_
   refine Wl_nil ?_
   refine W_cond_f rfl ?_
   refine W_skip (W_seq (W_region ?_))
   refine Wmv (.slice a n c) ?_
   refine Wmv (.slice a2 m d) ?_
   refine Wmv (.slice a2 m d) ?_
   refine Wl_v (r_len underlying32 rfl) ?_
   refine Wmv (.slice a2 m d) ?_
   refine Wl_v (r_len underlying32 rfl) ?_
   refine Wl_v (r_slice3 (h' := m) (q' := m) underlying32 sizeOf5 rfl rfl rfl (by omega) (by omega) (by omega) (by omega)) ?_
   have hT3 := Sl.recap (q := m) hsb (by omega) (by simp only [maxLen]; omega)
   have hl_hT3 := ilen hT3
   have hc_hT3 := hT3.cap.1
   refine Wl_v (r_mkf1 (v0 := .pointer (some ⟨B1, 0, none⟩)) rfl) ?_
   by_cases q3 : Cl b
   ·by_cases q4 : Gd l b (tbt b) nn.toNat ∧ st l (wn b) (tbt b) nn.toNat = 0
    ·refine Wl_call (r_call3 rfl call101 rfl rfl rfl) (told_d_ok _ hb1 hs (by omega) hT3.any hb (by omega) q1 q3 (by omega) q4) ?_
     rintro v w4 ⟨a4, c4, rfl, hO4, hU4⟩
     have hzw4 := hU4.size
     replace HU := HU.trans0 hU4
     replace hO4 := hO4.tight
     have hl_hO4 := ilen hO4.sl
     have hc_hO4 := hO4.sl.cap.1
     refine Wl_v (r_ext (v := .slice a4 nn.toNat c4) rfl rfl) ?_
     refine Wl_v (r_ext (v := .int .i64 0) rfl rfl) ?_
     refine Was (.slice a4 nn.toNat c4) ?_
     refine Was (.int .i64 0) ?_
     refine Wl_nil ?_
     refine W_ret ?_
     refine ret_end (v := .tuple #[.slice a4 nn.toNat c4, .int .i64 0]) rfl (res2 results80 rfl rfl) ?_
     have hF : dcF l b nn = (yms l (wn b) (tbt b) nn.toNat, 0) := by rw [dcF, if_neg (fun h => h q1), if_neg (fun h => h q2), if_neg (fun h => h q3), if_pos q4]
     exact ⟨_, rfl, a4, nn.toNat, c4, (vtup2 rfl (vint (by rw [hF]))), (by rw [hF]; exact (hO4.weak (by intro g hg; have h3 : ((w2.heap.size ≤ g) ∧ g < w4.heap.size) := hg; show w.heap.size ≤ g; omega))), HU⟩
    refine Wl_call (r_call3 rfl call101 rfl rfl rfl) (told_d_pan _ hb1 hs (by omega) hT3.any hb (by omega) q1 q3 (by omega) q4) ?_
    rintro v w5 ⟨rfl, hU5⟩
    have hzw5 := hU5.size
    replace HU := HU.trans0 hU5
    refine Wl_v (r_ext (v := .slice none 0 0) rfl rfl) ?_
    refine Wl_v (r_ext (v := .int .i64 14) rfl rfl) ?_
    refine Was (.slice none 0 0) ?_
    refine Was (.int .i64 14) ?_
    refine Wl_nil ?_
    refine W_ret ?_
    refine ret_end (v := .tuple #[.slice none 0 0, .int .i64 14]) rfl (res2 results80 rfl rfl) ?_
    have hF : dcF l b nn = ([], 14) := by rw [dcF, if_neg (fun h => h q1), if_neg (fun h => h q2), if_neg (fun h => h q3), if_neg q4]
    exact ⟨_, rfl, none, 0, 0, (vtup2 rfl (vint (by rw [hF]))), (by rw [hF]; exact (Own.nil _ _ 5 1)), HU⟩
   refine Wl_call (r_call3 rfl call101 rfl rfl rfl) (told_d_bits _ hs (by omega) hT3.any hb (by omega) q1 q3) ?_
   rintro v w6 ⟨rfl, hU6⟩
   have hzw6 := hU6.size
   replace HU := HU.trans0 hU6
   refine Wl_v (r_ext (v := .slice none 0 0) rfl rfl) ?_
   refine Wl_v (r_ext (v := .int .i64 14) rfl rfl) ?_
   refine Was (.slice none 0 0) ?_
   refine Was (.int .i64 14) ?_
   refine Wl_nil ?_
   refine W_ret ?_
   refine ret_end (v := .tuple #[.slice none 0 0, .int .i64 14]) rfl (res2 results80 rfl rfl) ?_
   have hF : dcF l b nn = ([], 14) := by rw [dcF, if_neg (fun h => h q1), if_neg (fun h => h q2), if_pos q3]
   exact ⟨_, rfl, none, 0, 0, (vtup2 rfl (vint (by rw [hF]))), (by rw [hF]; exact (Own.nil _ _ 5 1)), HU⟩
  refine Wl_call (r_call2 rfl call100 rfl rfl) (right_arg _ hs (by omega) q1 q2) ?_
  rintro v w7 ⟨rfl, hU7⟩
  have hzw7 := hU7.size
  replace HU := HU.trans0 hU7
  refine Was (.int .i64 2) ?_
  refine Wl_nil (W_seq (W_region ?_))
  refine Wmv (.int .i64 2) ?_
  refine Wl_v (v := .bool true) (r_ne (a := 2) (b := 0) rfl rfl) ?_
  refine Wl_nil ?_
  refine W_cond_t rfl ?_
  refine W_seq (W_region ?_)
  refine Wmv (.int .i64 2) ?_
  refine Was (.slice none 0 0) ?_
  refine Was (.int .i64 2) ?_
  refine Wl_nil ?_
  refine W_ret ?_
  refine ret_end (v := .tuple #[.slice none 0 0, .int .i64 2]) rfl (res2 results80 rfl rfl) ?_
  have hF : dcF l b nn = ([], 2) := by rw [dcF, if_neg (fun h => h q1), if_pos q2]
  exact ⟨_, rfl, none, 0, 0, (vtup2 rfl (vint (by rw [hF]))), (by rw [hF]; exact (Own.nil _ _ 5 1)), HU⟩
 refine Wl_call (r_call2 rfl call100 rfl rfl) (right_tree _ hs (by omega) q1) ?_
 rintro v w8 ⟨rfl, hU8⟩
 have hzw8 := hU8.size
 replace HU := HU.trans0 hU8
 refine Was (.int .i64 12) ?_
 refine Wl_nil (W_seq (W_region ?_))
 refine Wmv (.int .i64 12) ?_
 refine Wl_v (v := .bool true) (r_ne (a := 12) (b := 0) rfl rfl) ?_
 refine Wl_nil ?_
 refine W_cond_t rfl ?_
 refine W_seq (W_region ?_)
 refine Wmv (.int .i64 12) ?_
 refine Was (.slice none 0 0) ?_
 refine Was (.int .i64 12) ?_
 refine Wl_nil ?_
 refine W_ret ?_
 refine ret_end (v := .tuple #[.slice none 0 0, .int .i64 12]) rfl (res2 results80 rfl rfl) ?_
 have hF : dcF l b nn = ([], 12) := by rw [dcF, if_pos q1]
 exact ⟨_, rfl, none, 0, 0, (vtup2 rfl (vint (by rw [hF]))), (by rw [hF]; exact (Own.nil _ _ 5 1)), HU⟩
def nq (l : List Int) (c : Int) : Bool := decide (¬ (c.toNat < l.length ∧ l.getD c.toNat 0 ≠ 0))
def hsF (l b : List Int) : Int × Bool := if fidx (nq l) b < 0 then ((b.length : Int), true) else (fidx (nq l) b, false)
def enF (l b : List Int) : Int × Bool := if Rt l then hsF l b else (0, false)
theorem hs_iff (l b : List Int) : Hs l b ↔ fidx (nq l) b < 0 := by
 rcases fidx_cases (nq l) b 0 with ⟨h1, h2⟩ | ⟨k, h1, h2, h3, h4⟩
 ·refine ⟨fun _ => by omega, fun _ c hc => ?_⟩
  obtain ⟨i, hi, rfl⟩ := List.mem_iff_getElem.1 hc
  have := h2 i hi
  rw [List.getD_eq_getElem?_getD, List.getElem?_eq_getElem hi] at this
  unfold nq at this
  have h5 := decide_eq_false_iff_not.1 this
  exact Classical.not_not.1 h5
 refine ⟨fun h => ?_, fun h => by omega⟩
 rw [List.getD_eq_getElem?_getD, List.getElem?_eq_getElem h2] at h3
 unfold nq at h3
 exact absurd (h _ (List.getElem_mem h2)) (decide_eq_true_iff.1 h3)
theorem enF_t {l b : List Int} (hr : Rt l) (h : Hs l b) : enF l b = ((b.length : Int), true) := by
 rw [enF, if_pos hr, hsF, if_pos ((hs_iff l b).1 h)]
theorem enF_f {l b : List Int} (hr : Rt l) (h : ¬ Hs l b) : enF l b = (fidx (nq l) b, false) := by
 rw [enF, if_pos hr, hsF, if_neg (fun x => h ((hs_iff l b).2 x))]
theorem Hs.get {l b : List Int} (h : Hs l b) {k : Nat} (hk : k < b.length) : (b.getD k 0).toNat < l.length ∧ l.getD (b.getD k 0).toNat 0 ≠ 0 := by
 refine h _ ?_
 rw [List.getD_eq_getElem?_getD, List.getElem?_eq_getElem hk]; exact List.getElem_mem hk
theorem eL_take {l b : List Int} {k : Nat} (hk : k < b.length) : eL l (b.take (k + 1)) = eL l (b.take k) + (l.getD (b.getD k 0).toNat 0).toNat := by
 rw [tk1 hk, eL_app]; simp [eL]
def blF (l b : List Int) : Int × Int := if ¬ Rt l then (0, 12) else if ¬ Hs l b then (0, 2) else (((eL l b : Nat) : Int), 0)
theorem ecl_spec {bl n c : Nat} {a : Option Addr} {l : List Int} {R : Nat → Prop} {x : Int} (w : World) (hBl : Blk w bl [.slice a n c]) (hs : Sl w R 1 (.slice a n c) n (ints .i64 l)) (hn : n ≤ 1000) (hx : 0 ≤ x ∧ x < 256) :
  Calls Tryz.prog 58 #[.int .u8 x, .pointer (some ⟨bl, 0, none⟩)] w (Ret fun v w' => v = .bool (decide (nq l x = true)) ∧ Upd No w w') := by
 have HU := Upd.rno w
 have hbl_hBl := hBl.lt
 have hl_hs := ilen hs
 have hc_hs := hs.cap.1
 replace hs := hs.tight
 refine calls_of_W func58 rfl ntmps58 (by simp) ?_
 refine W_seq (W_region ?_)
 refine Was (.bool false) ?_
 refine Wl_nil (W_seq (W_region ?_))
 refine Wmv (.int .u8 x) ?_
 refine Wl_v (r_cvt underlying5 underlying3 rfl (wi64 (by omega) (by omega))) ?_
 refine Wl_load (v := .slice a n c) isAgg22 rfl hBl rfl ?_
 refine Wl_v (r_len underlying22 rfl) ?_
 refine Wl_v (r_ge rfl rfl) ?_
 refine Wmv (.bool (decide (((n : Nat) : Int) ≤ x))) ?_
 by_cases q1 : ((n : Nat) : Int) ≤ x
 ·rw [decide_eq_true q1]
  refine Wl_guard_f rfl (Wl_guard_f rfl (Wl_guard_f rfl (Wl_guard_f rfl (Wl_guard_f rfl ?_))))
  refine Wl_v (r_pick_t (v := .bool true) rfl rfl) ?_
  refine Was (.bool true) ?_
  refine Wl_nil ?_
  refine W_ret ?_
  refine ret_end (v := .bool true) rfl (res1 results58 rfl) ?_
  exact ⟨_, rfl, (by rw [decide_eq_true (show nq l x = true from by unfold nq; rw [decide_eq_true_iff]; omega)]), HU⟩
 rw [decide_eq_false q1]
 refine Wl_guard_t rfl ?_
 refine Wl_load (v := .slice a n c) isAgg22 rfl hBl rfl ?_
 refine Wl_guard_t rfl ?_
 refine Wmv (.int .u8 x) ?_
 refine Wl_guard_t rfl ?_
 refine Wl_idxi underlying22 sizeOf3 rfl rfl hs (by omega) (by omega) ?_
 intro ib1 io1 hc1
 refine Wl_guard_t rfl ?_
 refine Wl_loadc isAgg3 rfl hc1 ?_
 refine Wl_guard_t rfl ?_
 refine Wl_v (r_eq rfl rfl) ?_
 refine Wl_v (r_pick_f (v := .bool (decide ((l.getD (x).toNat 0) = 0))) rfl rfl) ?_
 refine Was (.bool (decide ((l.getD (x).toNat 0) = 0))) ?_
 refine Wl_nil ?_
 refine W_ret ?_
 refine ret_end (v := .bool (decide ((l.getD (x).toNat 0) = 0))) rfl (res1 results58 rfl) ?_
 exact ⟨_, rfl, (vbool (by unfold nq; rw [decide_eq_true_iff]; omega)), HU⟩
theorem if17_spec {bl n c m d : Nat} {a a2 : Option Addr} {l b : List Int} {R : Nat → Prop} (w : World) (hBl : Blk w bl [.slice a n c]) (hs : Sl w R 1 (.slice a n c) n (ints .i64 l)) (hn : n ≤ 1000) (hsb : Sl w (fun g => g < w.heap.size) 1 (.slice a2 m d) m (ints .u8 b)) (hb : Byt b) (hm : m ≤ 100000) :
  Calls Tryz.prog 57 #[.slice a2 m d, .func (.func 58) #[] #[.pointer (some ⟨bl, 0, none⟩)]] w (Ret fun v w' => v = .int .i64 (fidx (nq l) b) ∧ Upd No w w') := by
 have HU := Upd.rno w
 have hbl_hBl := hBl.lt
 have hl_hs := ilen hs
 have hc_hs := hs.cap.1
 replace hs := hs.tight
 have hl_hsb := ilen hsb
 have hc_hsb := hsb.cap.1
 refine calls_of_W func57 rfl ntmps57 (by simp) ?_
 refine W_seq (W_region ?_)
 refine Was (.int .i64 0) ?_
 refine Wl_nil (W_seq (W_seq (W_region ?_)))
 refine Wmv (.slice a2 m d) ?_
 refine Wl_v (r_len underlying32 rfl) ?_
 refine Wmv (.int .i64 0) ?_
 refine Wl_nil (W_block ?_)
 refine W_loop (fun mu ρ ds w' => ∃ (k : Nat), m - k = mu ∧ ds = [] ∧ Liv ρ [(0, .slice a2 m d), (1, .func (.func 58) #[] #[.pointer (some ⟨bl, 0, none⟩)]), (7, .int .i64 ((m : Nat) : Int)), (8, .int .i64 ((k : Nat) : Int))] ∧ k ≤ m ∧ (∀ i, i < k → nq l (b.getD i 0) = false) ∧ Upd No w w') _ ⟨0, rfl, rfl, ⟨rfl, rfl, rfl, (by first | rfl | exact vint (by omega) | exact vint (by simp)), trivial⟩, (by omega), (fun i hi => absurd hi (by omega)), Upd.refl _ _⟩ ?_
 rintro m1 ρ1 ds1 w1 ⟨k, rfl, rfl, hl1, hk, hall, hU1⟩
 obtain ⟨ρ1x, rfl⟩ : ∃ ρx, ρ1 = upds ρx [(0, .slice a2 m d), (1, .func (.func 58) #[] #[.pointer (some ⟨bl, 0, none⟩)]), (7, .int .i64 ((m : Nat) : Int)), (8, .int .i64 ((k : Nat) : Int))] := ⟨_, upds_self hl1⟩
 clear hl1
 have hzw1 := hU1.size
 replace hBl := hBl.upd0 hU1
 replace hs := hs.upd0 hU1
 replace hsb := hsb.upd0 hU1
 replace HU := HU.trans0 hU1
 have HL1 := hU1
 refine W_seq (W_region ?_)
 refine Wl_v (r_lt rfl rfl) ?_
 refine Wl_nil (W_seq ?_)
 by_cases q1 : ((k : Nat) : Int) < ((m : Nat) : Int)
 ·have hbk := byt_get hb k
  rw [decide_eq_true q1]
  refine W_cond_t rfl ?_
  refine W_skip (W_seq (W_block (W_seq (W_region ?_))))
  refine Wmv (.int .i64 ((k : Nat) : Int)) ?_
  refine Was (.int .i64 ((k : Nat) : Int)) ?_
  refine Wl_nil (W_seq (W_region ?_))
  refine Wmv (.func (.func 58) #[] #[.pointer (some ⟨bl, 0, none⟩)]) ?_
  refine Wmv (.slice a2 m d) ?_
  refine Wmv (.int .i64 ((k : Nat) : Int)) ?_
  refine Wl_idxi underlying32 sizeOf5 rfl rfl hsb (by omega) (by omega) ?_
  intro ib2 io2 hc2
  rw [Int.toNat_natCast] at hc2
  refine Wl_loadc isAgg5 rfl hc2 ?_
  refine Wl_call (r_clos1 call58 rfl rfl (by first | (simp; done) | (simp; rfl))) (ecl_spec (x := b.getD k 0) _ hBl hs (by omega) (by omega)) ?_
  rintro v w3 ⟨rfl, hU3⟩
  have hzw3 := hU3.size
  replace HU := HU.trans0 hU3
  replace HL1 := HL1.trans0 hU3
  refine Wl_nil ?_
  by_cases q2 : nq l (b.getD k 0) = true
  ·rw [decide_eq_true q2]
   refine W_cond_t rfl ?_
   refine W_seq (W_region ?_)
   refine Wmv (.int .i64 ((k : Nat) : Int)) ?_
   refine Was (.int .i64 ((k : Nat) : Int)) ?_
   refine Wl_nil ?_
   refine W_ret ?_
   refine ret_end (v := .int .i64 ((k : Nat) : Int)) rfl (res1 results57 rfl) ?_
   exact ⟨_, rfl, (vint (fidx_at 0 (k := k) (by omega) hall q2).symm), HU⟩
  have hqk : nq l (b.getD k 0) = false := Bool.eq_false_iff.2 q2
  rw [decide_eq_false q2]
  refine W_cond_f rfl ?_
  refine W_skip (W_region ?_)
  refine Wl_v (r_add rfl rfl (wi64 (by omega) (by omega))) ?_
  refine Wmv (.int .i64 (((k : Nat) : Int) + 1)) ?_
  refine Wl_nil ?_
  refine ⟨_, ?_, (k + 1), rfl, rfl, ⟨rfl, rfl, rfl, (by first | rfl | exact vint (by omega) | exact vint (by simp)), trivial⟩, (by omega), (fun i hi => by rcases Nat.lt_or_ge i k with h | h; exact hall i h; rw [show i = k from by omega]; exact hqk), HL1⟩
  omega
 rw [decide_eq_false q1]
 refine W_cond_f rfl ?_
 refine W_exit ?_
 refine W_seq (W_region ?_)
 refine Was (.int .i64 (-1)) ?_
 refine Wl_nil ?_
 refine W_ret ?_
 refine ret_end (v := .int .i64 (-1)) rfl (res1 results57 rfl) ?_
 exact ⟨_, rfl, (vint (fidx_none 0 (fun i hi => hall i (by omega))).symm), HU⟩
theorem oen_spec {a a2 : Option Addr} {n c m d : Nat} {l b : List Int} {R : Nat → Prop} (w : World) (hs : Sl w R 1 (.slice a n c) n (ints .i64 l)) (hn : n ≤ 1000) (hsb : Sl w (fun g => g < w.heap.size) 1 (.slice a2 m d) m (ints .u8 b)) (hb : Byt b) (hm : m ≤ 100000) :
  Calls Tryz.prog 29 #[.slice a n c, .slice a2 m d] w (Ret fun v w' => v = .tuple #[.int .i64 ((enF l b).1), .bool (decide ((enF l b).2 = true))] ∧ Upd No w w') := by
 have HU := Upd.rno w
 have hl_hs := ilen hs
 have hc_hs := hs.cap.1
 replace hs := hs.tight
 have hl_hsb := ilen hsb
 have hc_hsb := hsb.cap.1
 refine calls_of_W func29 rfl ntmps29 (by simp) ?_
 refine W_seq (W_region ?_)
 refine Wl_box (v := .slice a n c) (cs := [.slice a n c]) rfl rfl ?_
 intro B1 w1 hB1 hU1 hzz1 hb1
 have hzw1 := hU1.size
 replace hs := hs.upd0 hU1
 replace hsb := hsb.upd0 hU1
 replace HU := HU.trans0 hU1
 refine Was (.int .i64 0) ?_
 refine Was (.bool false) ?_
 refine Wl_nil (W_seq (W_seq (W_region ?_)))
 refine Wl_load (v := .slice a n c) isAgg22 rfl hb1 rfl ?_
 by_cases q1 : Rt l
 ·refine Wl_call (r_call1 rfl call56 rfl) (check_ok _ hs (by omega) q1) ?_
  rintro v w2 ⟨rfl, hU2⟩
  have hzw2 := hU2.size
  replace hs := hs.upd0 hU2
  replace hsb := hsb.upd0 hU2
  replace HU := HU.trans0 hU2
  replace hb1 := hb1.upd0 hU2
  refine Wl_v (v := .bool false) (r_ne (a := 0) (b := 0) rfl rfl) ?_
  refine Wl_nil ?_
  refine W_cond_f rfl ?_
  refine W_skip (W_seq (W_region ?_))
  refine Wmv (.slice a2 m d) ?_
  refine Wl_v (r_mkf1 (v0 := .pointer (some ⟨B1, 0, none⟩)) rfl) ?_
  refine Wl_call (r_call2 rfl call57 rfl rfl) (if17_spec _ hb1 hs (by omega) hsb.any hb (by omega)) ?_
  rintro v w3 ⟨rfl, hU3⟩
  have hzw3 := hU3.size
  replace HU := HU.trans0 hU3
  refine Was (.int .i64 (fidx (nq l) b)) ?_
  refine Wl_nil (W_seq (W_seq (W_region ?_)))
  refine Wmv (.int .i64 (fidx (nq l) b)) ?_
  refine Wl_v (r_lt rfl rfl) ?_
  refine Wl_nil ?_
  by_cases q2 : (fidx (nq l) b) < 0
  ·rw [decide_eq_true q2]
   refine W_cond_t rfl ?_
   refine W_seq (W_region ?_)
   refine Wmv (.slice a2 m d) ?_
   refine Wl_v (r_len underlying32 rfl) ?_
   refine Was (.int .i64 ((m : Nat) : Int)) ?_
   refine Was (.bool true) ?_
   refine Wl_nil ?_
   refine W_ret ?_
   refine ret_end (v := .tuple #[.int .i64 ((m : Nat) : Int), .bool true]) rfl (res2 results29 rfl rfl) ?_
   have hF : enF l b = (((b.length : Nat) : Int), true) := by rw [enF, if_pos q1, hsF, if_pos q2]
   exact ⟨_, rfl, (by rw [hF]; simp; try omega), HU⟩
  rw [decide_eq_false q2]
  refine W_cond_f rfl ?_
  refine W_skip (W_seq (W_region ?_))
  refine Wmv (.int .i64 (fidx (nq l) b)) ?_
  refine Was (.int .i64 (fidx (nq l) b)) ?_
  refine Was (.bool false) ?_
  refine Wl_nil ?_
  refine W_ret ?_
  refine ret_end (v := .tuple #[.int .i64 (fidx (nq l) b), .bool false]) rfl (res2 results29 rfl rfl) ?_
  have hF : enF l b = (fidx (nq l) b, false) := by rw [enF, if_pos q1, hsF, if_neg q2]
  exact ⟨_, rfl, (by rw [hF]; simp; try omega), HU⟩
 refine Wl_call (r_call1 rfl call56 rfl) (check_no _ hs (by omega) q1) ?_
 rintro v w4 ⟨rfl, hU4⟩
 have hzw4 := hU4.size
 replace HU := HU.trans0 hU4
 refine Wl_v (v := .bool true) (r_ne (a := 12) (b := 0) rfl rfl) ?_
 refine Wl_nil ?_
 refine W_cond_t rfl ?_
 refine W_seq (W_region ?_)
 refine Was (.int .i64 0) ?_
 refine Was (.bool false) ?_
 refine Wl_nil ?_
 refine W_ret ?_
 refine ret_end (v := .tuple #[.int .i64 0, .bool false]) rfl (res2 results29 rfl rfl) ?_
 have hF : enF l b = (0, false) := by rw [enF, if_neg q1]
 exact ⟨_, rfl, (by rw [hF]; simp; try omega), HU⟩
theorem ocod_ok {a a2 : Option Addr} {n c m d : Nat} {l b : List Int} {R : Nat → Prop} (w : World) (hs : Sl w R 1 (.slice a n c) n (ints .i64 l)) (hn : n ≤ 1000) (hsb : Sl w (fun g => g < w.heap.size) 1 (.slice a2 m d) m (ints .u8 b)) (hb : Byt b) (hm : m ≤ 100000) (hr : Rt l) (hh : Hs l b) :
  Calls Tryz.prog 61 #[.slice a n c, .slice a2 m d] w (Ret fun v w' => ∃ (a' : Option Addr) (c' : Nat), v = .slice a' n c' ∧ Own w' (fun g => w.heap.size ≤ g) 106 2 (.slice a' n c') n (rows encC (cds l)) ∧ Upd No w w') := by
 have HU := Upd.rno w
 have hl_hs := ilen hs
 have hc_hs := hs.cap.1
 replace hs := hs.tight
 have hl_hsb := ilen hsb
 have hc_hsb := hsb.cap.1
 refine calls_of_W func61 rfl ntmps61 (by simp) ?_
 refine W_seq (W_region ?_)
 refine Was (.slice none 0 0) ?_
 refine Wl_nil (W_seq (W_region ?_))
 refine Wmv (.slice a n c) ?_
 refine Wl_call (r_call1 rfl call88 rfl) (codes_ok _ hs (by omega) hr) ?_
 rintro v w1 ⟨a1, c1, rfl, hO1, hU1⟩
 have hzw1 := hU1.size
 replace hs := hs.upd0 hU1
 replace hsb := hsb.upd0 hU1
 replace HU := HU.trans0 hU1
 replace hO1 := hO1.tight
 have hl_hO1 := rlen encC_len (by decide) hO1.sl
 have hc_hO1 := hO1.sl.cap.1
 refine Wmv (.tuple #[.slice a1 n c1, .int .i64 0]) ?_
 refine Wl_v (r_ext (v := .slice a1 n c1) rfl rfl) ?_
 refine Wl_v (r_ext (v := .int .i64 0) rfl rfl) ?_
 refine Was (.slice a1 n c1) ?_
 refine Was (.int .i64 0) ?_
 refine Wl_nil (W_seq (W_region ?_))
 refine Wmv (.int .i64 0) ?_
 refine Wl_lit (pv := [(0, .int .i64 0)]) (cs := [.int .i64 0]) underlying112 sizeOf23 zeroValue23 (by decide) (by decide) (by simp only [List.map_toArray, List.map_cons, List.map_nil] <;> rfl) (by kernel_rfl) rfl (by decide) ?_
 intro B2 w2 hB2 hU2 hzz2 hs2
 have hzw2 := hU2.size
 replace hs := hs.upd0 hU2
 replace hsb := hsb.upd0 hU2
 replace HU := HU.trans0 hU2
 replace hO1 := hO1.upd0 hU2
 replace hs2 : Own w2 (Is B2) 23 1 (.slice (some ⟨B2, 0, none⟩) 1 1) 1 (ints .i64 [0]) := hs2
 refine Wl_call (r_call1 rfl call63 rfl) (omust_ok (er := 0) _ hs2.sl.any (by decide)) ?_
 rintro v w3 ⟨rfl, hU3⟩
 have hzw3 := hU3.size
 replace hs := hs.upd0 hU3
 replace hsb := hsb.upd0 hU3
 replace HU := HU.trans0 hU3
 replace hO1 := hO1.upd0 hU3
 refine Wl_nil (W_seq (W_region ?_))
 refine Wmv (.slice a n c) ?_
 refine Wmv (.slice a2 m d) ?_
 refine Wl_call (r_call2 rfl call29 rfl rfl) (oen_spec _ hs (by omega) hsb.any hb (by omega)) ?_
 rintro v w4 ⟨rfl, hU4⟩
 have hzw4 := hU4.size
 replace HU := HU.trans0 hU4
 replace hO1 := hO1.upd0 hU4
 refine Wmv (.tuple #[.int .i64 ((enF l b).1), .bool (decide ((enF l b).2 = true))]) ?_
 refine Wl_v (r_ext (v := .int .i64 ((enF l b).1)) rfl rfl) ?_
 refine Wl_v (r_ext (v := .bool (decide ((enF l b).2 = true))) rfl rfl) ?_
 refine Was (.int .i64 ((enF l b).1)) ?_
 refine Was (.bool (decide ((enF l b).2 = true))) ?_
 refine Wl_nil (W_seq (W_region ?_))
 refine Wmv (.slice a2 m d) ?_
 refine Wl_v (r_len underlying32 rfl) ?_
 refine Wl_v (r_le rfl rfl) ?_
 refine Wmv (.bool (decide (((m : Nat) : Int) ≤ 131072))) ?_
 have q1 : ((m : Nat) : Int) ≤ 131072 := (by omega)
 rw [decide_eq_true q1]
 refine Wl_guard_t rfl ?_
 refine Wmv (.bool (decide ((enF l b).2 = true))) ?_
 refine Wl_v (r_pick_t (v := .bool (decide ((enF l b).2 = true))) rfl rfl) ?_
 have q2 : (enF l b).2 = true := (by rw [enF_t hr hh])
 rw [decide_eq_true q2]
 refine Wl_call (r_call2 rfl call89 rfl rfl) (ois_ok _ ) ?_
 rintro v w5 ⟨rfl, hU5⟩
 have hzw5 := hU5.size
 replace HU := HU.trans0 hU5
 replace hO1 := hO1.upd0 hU5
 refine Wl_nil (W_seq (W_region ?_))
 refine Wmv (.slice a1 n c1) ?_
 refine Was (.slice a1 n c1) ?_
 refine Wl_nil ?_
 refine W_ret ?_
 refine ret_end (v := .slice a1 n c1) rfl (res1 results61 rfl) ?_
 exact ⟨_, rfl, a1, c1, rfl, (hO1.weak (by intro g hg; have h3 : ((w.heap.size ≤ g) ∧ g < w1.heap.size) := hg; show w.heap.size ≤ g; omega)), HU⟩
theorem ocod_arg {a a2 : Option Addr} {n c m d : Nat} {l b : List Int} {R : Nat → Prop} (w : World) (hs : Sl w R 1 (.slice a n c) n (ints .i64 l)) (hn : n ≤ 1000) (hsb : Sl w (fun g => g < w.heap.size) 1 (.slice a2 m d) m (ints .u8 b)) (hb : Byt b) (hm : m ≤ 100000) (hr : Rt l) (hh : ¬ Hs l b) :
  Calls Tryz.prog 61 #[.slice a n c, .slice a2 m d] w (Pan (.iface 23 (.int .i64 2)) fun w' => Upd No w w') := by
 have HU := Upd.rno w
 have hl_hs := ilen hs
 have hc_hs := hs.cap.1
 replace hs := hs.tight
 have hl_hsb := ilen hsb
 have hc_hsb := hsb.cap.1
 refine calls_of_W func61 rfl ntmps61 (by simp) ?_
 refine W_seq (W_region ?_)
 refine Was (.slice none 0 0) ?_
 refine Wl_nil (W_seq (W_region ?_))
 refine Wmv (.slice a n c) ?_
 refine Wl_call (r_call1 rfl call88 rfl) (codes_ok _ hs (by omega) hr) ?_
 rintro v w1 ⟨a1, c1, rfl, hO1, hU1⟩
 have hzw1 := hU1.size
 replace hs := hs.upd0 hU1
 replace hsb := hsb.upd0 hU1
 replace HU := HU.trans0 hU1
 replace hO1 := hO1.tight
 have hl_hO1 := rlen encC_len (by decide) hO1.sl
 have hc_hO1 := hO1.sl.cap.1
 refine Wmv (.tuple #[.slice a1 n c1, .int .i64 0]) ?_
 refine Wl_v (r_ext (v := .slice a1 n c1) rfl rfl) ?_
 refine Wl_v (r_ext (v := .int .i64 0) rfl rfl) ?_
 refine Was (.slice a1 n c1) ?_
 refine Was (.int .i64 0) ?_
 refine Wl_nil (W_seq (W_region ?_))
 refine Wmv (.int .i64 0) ?_
 refine Wl_lit (pv := [(0, .int .i64 0)]) (cs := [.int .i64 0]) underlying112 sizeOf23 zeroValue23 (by decide) (by decide) (by simp only [List.map_toArray, List.map_cons, List.map_nil] <;> rfl) (by kernel_rfl) rfl (by decide) ?_
 intro B2 w2 hB2 hU2 hzz2 hs2
 have hzw2 := hU2.size
 replace hs := hs.upd0 hU2
 replace hsb := hsb.upd0 hU2
 replace HU := HU.trans0 hU2
 replace hs2 : Own w2 (Is B2) 23 1 (.slice (some ⟨B2, 0, none⟩) 1 1) 1 (ints .i64 [0]) := hs2
 refine Wl_call (r_call1 rfl call63 rfl) (omust_ok (er := 0) _ hs2.sl.any (by decide)) ?_
 rintro v w3 ⟨rfl, hU3⟩
 have hzw3 := hU3.size
 replace hs := hs.upd0 hU3
 replace hsb := hsb.upd0 hU3
 replace HU := HU.trans0 hU3
 refine Wl_nil (W_seq (W_region ?_))
 refine Wmv (.slice a n c) ?_
 refine Wmv (.slice a2 m d) ?_
 refine Wl_call (r_call2 rfl call29 rfl rfl) (oen_spec _ hs (by omega) hsb.any hb (by omega)) ?_
 rintro v w4 ⟨rfl, hU4⟩
 have hzw4 := hU4.size
 replace HU := HU.trans0 hU4
 refine Wmv (.tuple #[.int .i64 ((enF l b).1), .bool (decide ((enF l b).2 = true))]) ?_
 refine Wl_v (r_ext (v := .int .i64 ((enF l b).1)) rfl rfl) ?_
 refine Wl_v (r_ext (v := .bool (decide ((enF l b).2 = true))) rfl rfl) ?_
 refine Was (.int .i64 ((enF l b).1)) ?_
 refine Was (.bool (decide ((enF l b).2 = true))) ?_
 refine Wl_nil (W_seq (W_region ?_))
 refine Wmv (.slice a2 m d) ?_
 refine Wl_v (r_len underlying32 rfl) ?_
 refine Wl_v (r_le rfl rfl) ?_
 refine Wmv (.bool (decide (((m : Nat) : Int) ≤ 131072))) ?_
 have q1 : ((m : Nat) : Int) ≤ 131072 := (by omega)
 rw [decide_eq_true q1]
 refine Wl_guard_t rfl ?_
 refine Wmv (.bool (decide ((enF l b).2 = true))) ?_
 refine Wl_v (r_pick_t (v := .bool (decide ((enF l b).2 = true))) rfl rfl) ?_
 have q2 : ¬ ((enF l b).2 = true) := (by rw [enF_f hr hh]; simp)
 rw [decide_eq_false q2]
 refine Wl_callp (r_call2 rfl call89 rfl rfl) (ois_no _ ) ?_
 intro w5 hU5
 have hzw5 := hU5.size
 replace HU := HU.trans0 hU5
 refine pan_ds rfl ?_
 refine lv_panic ?_
 exact ⟨rfl, HU⟩
theorem ocod_tree {a a2 : Option Addr} {n c m d : Nat} {l b : List Int} {R : Nat → Prop} (w : World) (hs : Sl w R 1 (.slice a n c) n (ints .i64 l)) (hn : n ≤ 1000) (hsb : Sl w (fun g => g < w.heap.size) 1 (.slice a2 m d) m (ints .u8 b)) (hb : Byt b) (hm : m ≤ 100000) (hr : ¬ Rt l) :
  Calls Tryz.prog 61 #[.slice a n c, .slice a2 m d] w (Pan (.iface 23 (.int .i64 12)) fun w' => Upd No w w') := by
 have HU := Upd.rno w
 have hl_hs := ilen hs
 have hc_hs := hs.cap.1
 replace hs := hs.tight
 have hl_hsb := ilen hsb
 have hc_hsb := hsb.cap.1
 refine calls_of_W func61 rfl ntmps61 (by simp) ?_
 refine W_seq (W_region ?_)
 refine Was (.slice none 0 0) ?_
 refine Wl_nil (W_seq (W_region ?_))
 refine Wmv (.slice a n c) ?_
 refine Wl_call (r_call1 rfl call88 rfl) (codes_no _ hs (by omega) hr) ?_
 rintro v w1 ⟨rfl, hU1⟩
 have hzw1 := hU1.size
 replace HU := HU.trans0 hU1
 refine Wmv (.tuple #[.slice none 0 0, .int .i64 12]) ?_
 refine Wl_v (r_ext (v := .slice none 0 0) rfl rfl) ?_
 refine Wl_v (r_ext (v := .int .i64 12) rfl rfl) ?_
 refine Was (.slice none 0 0) ?_
 refine Was (.int .i64 12) ?_
 refine Wl_nil (W_seq (W_region ?_))
 refine Wmv (.int .i64 12) ?_
 refine Wl_lit (pv := [(0, .int .i64 12)]) (cs := [.int .i64 12]) underlying112 sizeOf23 zeroValue23 (by decide) (by decide) (by simp only [List.map_toArray, List.map_cons, List.map_nil] <;> rfl) (by kernel_rfl) rfl (by decide) ?_
 intro B2 w2 hB2 hU2 hzz2 hs2
 have hzw2 := hU2.size
 replace HU := HU.trans0 hU2
 replace hs2 : Own w2 (Is B2) 23 1 (.slice (some ⟨B2, 0, none⟩) 1 1) 1 (ints .i64 [12]) := hs2
 refine Wl_callp (r_call1 rfl call63 rfl) (omust_no (er := 12) _ hs2.sl.any (by decide)) ?_
 intro w3 hU3
 have hzw3 := hU3.size
 replace HU := HU.trans0 hU3
 refine pan_ds rfl ?_
 refine lv_panic ?_
 exact ⟨rfl, HU⟩
theorem obl_spec {a a2 : Option Addr} {n c m d : Nat} {l b : List Int} {R : Nat → Prop} (w : World) (hs : Sl w R 1 (.slice a n c) n (ints .i64 l)) (hn : n ≤ 1000) (hsb : Sl w (fun g => g < w.heap.size) 1 (.slice a2 m d) m (ints .u8 b)) (hb : Byt b) (hm : m ≤ 100000) :
  Calls Tryz.prog 37 #[.slice a n c, .slice a2 m d] w (Ret fun v w' => v = .tuple #[.int .i64 ((blF l b).1), .int .i64 ((blF l b).2)] ∧ Upd No w w') := by
 have HU := Upd.rno w
 have hl_hs := ilen hs
 have hc_hs := hs.cap.1
 replace hs := hs.tight
 have hl_hsb := ilen hsb
 have hc_hsb := hsb.cap.1
 refine calls_of_W func37 rfl ntmps37 (by simp) ?_
 refine W_seq (W_region ?_)
 refine Wl_alloc (cs := [.int .i64 0]) zeroValue3 rfl ?_
 intro B1 w1 hB1 hU1 hzz1 hb1
 have hzw1 := hU1.size
 replace hs := hs.upd0 hU1
 replace hsb := hsb.upd0 hU1
 replace HU := HU.trans0 hU1
 refine Wl_alloc (cs := [.int .i64 0]) zeroValue23 rfl ?_
 intro B2 w2 hB2 hU2 hzz2 hb2
 have hzw2 := hU2.size
 replace hs := hs.upd0 hU2
 replace hsb := hsb.upd0 hU2
 replace HU := HU.trans0 hU2
 replace hb1 := hb1.upd0 hU2
 refine Wl_nil (W_seq (W_region ?_))
 refine Wl_v (r_mkf1 (v0 := .pointer (some ⟨B1, 0, none⟩)) rfl) ?_
 refine Wl_defer2 rfl rfl ?_
 refine Wl_nil (W_seq (W_region ?_))
 refine Wmv (.slice a n c) ?_
 refine Wmv (.slice a2 m d) ?_
 by_cases q1 : Rt l
 ·by_cases q2 : Hs l b
  ·refine Wl_call (r_call2 rfl call61 rfl rfl) (ocod_ok _ hs (by omega) hsb.any hb (by omega) q1 q2) ?_
   rintro v w3 ⟨a3, c3, rfl, hO3, hU3⟩
   have hzw3 := hU3.size
   replace hsb := hsb.upd0 hU3
   replace HU := HU.trans0 hU3
   replace hb1 := hb1.upd0 hU3
   replace hb2 := hb2.upd0 hU3
   replace hO3 := hO3.tight
   have hl_hO3 := rlen encC_len (by decide) hO3.sl
   have hc_hO3 := hO3.sl.cap.1
   have hr := q1
   have hHs := q2
   refine Was (.slice a3 n c3) ?_
   refine Wl_nil (W_seq (W_seq (W_region ?_)))
   refine Wmv (.slice a2 m d) ?_
   refine Wl_v (r_len underlying32 rfl) ?_
   refine Wmv (.int .i64 0) ?_
   refine Wl_nil (W_block ?_)
   refine W_loop (fun mu ρ ds w' => ∃ (k : Nat), m - k = mu ∧ ds = [{ target := .fn (.func 59) #[], args := #[.pointer (some ⟨B2, 0, none⟩), .func (.func 71) #[] #[.pointer (some ⟨B1, 0, none⟩)]] }] ∧ Liv ρ [(4, .pointer (some ⟨B1, 0, none⟩)), (5, .pointer (some ⟨B2, 0, none⟩)), (6, .slice a3 n c3), (13, .slice a2 m d), (14, .int .i64 ((m : Nat) : Int)), (15, .int .i64 ((k : Nat) : Int))] ∧ k ≤ m ∧ Blk w' B1 [.int .i64 ((eL l (b.take k) : Nat) : Int)] ∧ Upd (Is B1) w3 w') _ ⟨0, rfl, rfl, ⟨rfl, rfl, rfl, rfl, rfl, (by first | rfl | exact vint (by omega) | exact vint (by simp)), trivial⟩, (by omega), (blkI hb1 (by simp [eL])), Upd.refl _ _⟩ ?_
   rintro m4 ρ4 ds4 w4 ⟨k, rfl, rfl, hl4, hk, hb1, hU4⟩
   obtain ⟨ρ4x, rfl⟩ : ∃ ρx, ρ4 = upds ρx [(4, .pointer (some ⟨B1, 0, none⟩)), (5, .pointer (some ⟨B2, 0, none⟩)), (6, .slice a3 n c3), (13, .slice a2 m d), (14, .int .i64 ((m : Nat) : Int)), (15, .int .i64 ((k : Nat) : Int))] := ⟨_, upds_self hl4⟩
   clear hl4
   have hzw4 := hU4.size
   replace hsb := hsb.upd1 hU4 (show ¬ (B1 < w.heap.size) by omega)
   replace HU := HU.t1 hU4 (by omega)
   replace hb2 := hb2.upd1 hU4 (by omega)
   replace hO3 := hO3.upd1 hU4 (show ¬ (((w2.heap.size ≤ B1) ∧ B1 < w3.heap.size)) by omega)
   have HL4 := hU4
   refine W_seq (W_region ?_)
   refine Wl_v (r_lt rfl rfl) ?_
   refine Wl_nil (W_seq ?_)
   by_cases q3 : ((k : Nat) : Int) < ((m : Nat) : Int)
   ·have hbk := byt_get hb k
    have hgt := hHs.get (k := k) (by omega)
    have hgd := hr.1.gd (b.getD k 0).toNat
    have hcg : ((cds l).getD (b.getD k 0).toNat (0, 0)).1 = l.getD (b.getD k 0).toNat 0 := by rw [cds_get hgt.1, cd_fst hr.1]
    have hel := eL_le hr (b.take k)
    rw [List.length_take] at hel
    rw [decide_eq_true q3]
    refine W_cond_t rfl ?_
    refine W_skip (W_seq (W_block (W_seq (W_region ?_))))
    refine Wl_idxi underlying32 sizeOf5 rfl rfl hsb (by omega) (by omega) ?_
    intro ib5 io5 hc5
    rw [Int.toNat_natCast] at hc5
    refine Wl_loadc isAgg5 rfl hc5 ?_
    refine Was (.int .u8 (b.getD k 0)) ?_
    refine Wl_nil ?_
    refine W_drawt rfl (l0 := tf 0 8) (by kernel_rfl) ?_
    refine Tk 0 (tf 1 8) rfl (YI_v (v := .int .i64 ((eL l (b.take k) : Nat) : Int)) rfl (fun w' hw' => r_load isAgg3 rfl (by rw [(hb1.upd0 hw').cell]; rfl))) ?_
    refine Tk 1 (tf 2 8) rfl (YI_v (v := .slice a3 n c3) rfl (fun w' hw' => r_mv (v := .slice a3 n c3) rfl)) ?_
    refine Tk 2 (tf 3 8) rfl (YI_v (v := .int .u8 (b.getD k 0)) rfl (fun w' hw' => r_mv (v := .int .u8 (b.getD k 0)) rfl)) ?_
    obtain ⟨ib6, io6, ha6, hib6, hc6⟩ := Sl.rat (0, 0) encC_len (by decide) (hO3.sl) (i := (b.getD k 0).toNat) (by omega)
    refine Tk 3 (tf 4 8) rfl (YI_v (v := .pointer (some ⟨ib6, io6 + ((b.getD k 0).toNat) * 2, none⟩)) rfl (fun w' hw' => r_idx (b := ib6) (off := io6) (m := n) (c := c3) (o' := io6 + ((b.getD k 0).toNat) * 2) underlying92 sizeOf106 (by rw [← ha6]; rfl) rfl (by omega) (by omega) (by omega))) ?_
    refine Tk 4 (tf 5 8) rfl (YI_v (v := .pointer (some ⟨ib6, io6 + ((b.getD k 0).toNat) * 2, none⟩)) rfl (fun w' hw' => r_fld underlying106 rfl sizeOf3 rfl rfl)) ?_
    refine Tk 5 (tf 6 8) rfl (YI_v (v := .int .i64 (((cds l).getD (b.getD k 0).toNat (0, 0)).1)) rfl (fun w' hw' => r_load (v := .int .i64 (((cds l).getD (b.getD k 0).toNat (0, 0)).1)) isAgg3 rfl (hw'.cellk (hc6 0 (by decide))))) ?_
    refine Tk 6 (tf 7 8) rfl (YI_v (v := .int .i64 (((eL l (b.take k) : Nat) : Int) + (((cds l).getD (b.getD k 0).toNat (0, 0)).1))) rfl (fun w' hw' => r_add rfl rfl (wi64 (by omega) (by omega)))) ?_
    intro w7 hU7
    have hzw7 := hU7.size
    replace hb1 := hb1.upd0 hU7
    replace HL4 := HL4.trans0 hU7
    refine Wa_one (i := 7) (listed' := tf 8 8) (by kernel_rfl) rfl (by kernel_rfl) ?_
    refine Ws_of_Wl ?_
    have hW : Upd No w4 w7 := hU7
    refine Wl_store (v := .int .i64 (((eL l (b.take k) : Nat) : Int) + (((cds l).getD (b.getD k 0).toNat (0, 0)).1))) (cs' := [.int .i64 (((eL l (b.take k) : Nat) : Int) + (((cds l).getD (b.getD k 0).toNat (0, 0)).1))]) sizeOf3 rfl rfl rfl rfl hb1 rfl rfl ?_
    intro w8 hU8 hzz8 hb1n
    replace hb1 := hb1n; clear hb1n
    have hzw8 := hU8.size
    replace HL4 := HL4.trans1 hU8 (by show (B1 = B1) ∨ w3.heap.size ≤ B1; omega)
    refine Wl_nil ?_
    intro w9 hS9
    refine ⟨fun h => absurd h (by rw [show barOp _ 7 = true from by kernel_rfl]; simp), fun _ => ⟨Upd No w9, ?_⟩⟩
    have hU9 := hS9.upd
    have hzw9 := hU9.size
    replace hb1 := hb1.upd0 hU9
    replace HL4 := HL4.trans0 hU9
    try replace hW := hW.trans0 hU9
    refine Wa_done (by kernel_rfl) ?_
    refine W_region ?_
    refine Wl_v (r_add rfl rfl (wi64 (by omega) (by omega))) ?_
    refine Wmv (.int .i64 (((k : Nat) : Int) + 1)) ?_
    refine Wl_nil ?_
    refine ⟨_, ?_, (k + 1), rfl, rfl, ⟨rfl, rfl, rfl, rfl, rfl, (Eq.trans (b := .int .i64 (((k : Nat) : Int) + 1)) rfl (vint (by omega))), trivial⟩, (by omega), (blkI hb1 (by rw [eL_take (by omega), hcg]; omega)), HL4⟩
    omega
   have htk : b.take k = b := List.take_of_length_le (by omega)
   rw [decide_eq_false q3]
   refine W_cond_f rfl ?_
   refine W_exit ?_
   refine W_seq (W_region ?_)
   refine Wl_load (v := .int .i64 ((eL l (b.take k) : Nat) : Int)) isAgg3 rfl hb1 rfl ?_
   refine Wl_store (v := .int .i64 ((eL l (b.take k) : Nat) : Int)) (cs' := [.int .i64 ((eL l (b.take k) : Nat) : Int)]) sizeOf3 rfl rfl rfl rfl hb1 rfl rfl ?_
   intro w10 hU10 hzz10 hb1n
   replace hb1 := hb1n; clear hb1n
   have hzw10 := hU10.size
   replace HU := HU.t1 hU10 (by omega)
   replace hb2 := hb2.upd1 hU10 (by omega)
   refine Wl_store (v := .int .i64 0) (cs' := [.int .i64 0]) sizeOf23 rfl rfl rfl rfl hb2 rfl rfl ?_
   intro w11 hU11 hzz11 hb2n
   replace hb2 := hb2n; clear hb2n
   have hzw11 := hU11.size
   replace HU := HU.t1 hU11 (by omega)
   replace hb1 := hb1.upd1 hU11 (by omega)
   refine Wl_nil ?_
   refine W_ret ?_
   refine ret_ds rfl ?_
   refine lv_call (by simp) call59 rfl (ocaught_ret _) ?_
   rintro e1 u1 w12 ⟨rfl, v1, rfl, rfl, hU12⟩
   have hzw12 := hU12.size
   replace HU := HU.trans0 hU12
   replace hb2 := hb2.upd0 hU12
   replace hb1 := hb1.upd0 hU12
   refine lv_nil (v := .tuple #[.int .i64 ((eL l (b.take k) : Nat) : Int), .int .i64 0]) (rc2 results37 rfl rfl (cellIs isAgg3 hb1) (cellIs isAgg23 hb2)) ?_
   have hF : blF l b = (((eL l b : Nat) : Int), 0) := by rw [blF, if_neg (fun h => h q1), if_neg (fun h => h q2)]
   exact ⟨_, rfl, (vtup2 (vint (by rw [hF]; try (first | done | rw [htk]))) (vint (by rw [hF]))), HU⟩
  refine Wl_callp (r_call2 rfl call61 rfl rfl) (ocod_arg _ hs (by omega) hsb.any hb (by omega) q1 q2) ?_
  intro w13 hU13
  have hzw13 := hU13.size
  replace HU := HU.trans0 hU13
  replace hb1 := hb1.upd0 hU13
  replace hb2 := hb2.upd0 hU13
  refine pan_ds rfl ?_
  refine lv_call (by simp) call59 rfl (ocaught_pan (S := fun g => g = B1) (Φ := fun w' => Blk w' B1 [.int .i64 0]) _ hb2 call71 (by show ¬ (B2 = B1); first | omega | exact fun h => h) (obl_clr _ hb1)) ?_
  rintro e1 u1 w14 ⟨rfl, v1, rfl, rfl, wq14, hz14_0, hUa14, hUb14, hbe14⟩
  have hzwq14 := hUa14.size
  replace HU := HU.trans hUa14 (by intro x hx; have hx2 : x = B1 := hx; show (False) ∨ w.heap.size ≤ x; omega)
  have hzw14 := hUb14.size
  replace HU := HU.t1 hUb14 (by omega)
  replace hz14_0 := hz14_0.upd1 hUb14 (by omega)
  refine lv_nil (v := .tuple #[.int .i64 0, .int .i64 2]) (rc2 results37 rfl rfl (cellIs isAgg3 hz14_0) (cellIs isAgg23 hbe14)) ?_
  have hF : blF l b = (0, 2) := by rw [blF, if_neg (fun h => h q1), if_pos q2]
  exact ⟨_, rfl, (vtup2 (vint (by rw [hF]; try (first | done | rw [htk]))) (vint (by rw [hF]))), HU⟩
 refine Wl_callp (r_call2 rfl call61 rfl rfl) (ocod_tree _ hs (by omega) hsb.any hb (by omega) q1) ?_
 intro w15 hU15
 have hzw15 := hU15.size
 replace HU := HU.trans0 hU15
 replace hb1 := hb1.upd0 hU15
 replace hb2 := hb2.upd0 hU15
 refine pan_ds rfl ?_
 refine lv_call (by simp) call59 rfl (ocaught_pan (S := fun g => g = B1) (Φ := fun w' => Blk w' B1 [.int .i64 0]) _ hb2 call71 (by show ¬ (B2 = B1); first | omega | exact fun h => h) (obl_clr _ hb1)) ?_
 rintro e1 u1 w16 ⟨rfl, v1, rfl, rfl, wq16, hz16_0, hUa16, hUb16, hbe16⟩
 have hzwq16 := hUa16.size
 replace HU := HU.trans hUa16 (by intro x hx; have hx2 : x = B1 := hx; show (False) ∨ w.heap.size ≤ x; omega)
 have hzw16 := hUb16.size
 replace HU := HU.t1 hUb16 (by omega)
 replace hz16_0 := hz16_0.upd1 hUb16 (by omega)
 refine lv_nil (v := .tuple #[.int .i64 0, .int .i64 12]) (rc2 results37 rfl rfl (cellIs isAgg3 hz16_0) (cellIs isAgg23 hbe16)) ?_
 have hF : blF l b = (0, 12) := by rw [blF, if_pos q1]
 exact ⟨_, rfl, (vtup2 (vint (by rw [hF]; try (first | done | rw [htk]))) (vint (by rw [hF]))), HU⟩
end Go.Proofs.YtdppageondgjkaaGreat
