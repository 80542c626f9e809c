/-
 Walks, printed by a small program of this project (gen.py).
-/
import Derived.Test.YtilegaokfamfnaaZb
set_option linter.unusedVariables false
set_option linter.unusedSimpArgs false
namespace Go.Proofs.Ytilegaokfamfnaa
open Go.Fw

set_option maxRecDepth 100000 in
theorem told_d_ok {a a2 : Option Addr} {n c m d : Nat} {l b : List Int} {R : Nat → Prop} {bn n0 : Nat} (w : World) (hN : Blk w bn [.int .i64 ((n0 : Nat) : Int)]) (hs : Sl w R 1 (.slice a n c) n (ints .i64 l)) (hn : n ≤ 1000) (hsb : Sl w (fun g => g < w.heap.size) 1 (.slice a2 m d) m (ints .u8 b)) (hb : Byt b) (hm : m ≤ 100000) (hr : Rt l) (hc : Cl b) (hnn : n0 ≤ 131072) (hg : Gd l b (tbt b) n0 ∧ st l (wn b) (tbt b) n0 = 0) :
  Calls Try.prog 45 #[.slice a n c, .slice a2 m d, .func (.func 46) #[] #[.pointer (some ⟨bn, 0, none⟩)]] w (Ret fun v w' => ∃ (a' : Option Addr) (c' : Nat), v = .tuple #[.slice a' n0 c', .int .i64 0] ∧ Own w' (fun g => w.heap.size ≤ g) 5 1 (.slice a' n0 c') n0 (ints .u8 (yms l (wn b) (tbt b) n0)) ∧ Upd No w w') := by
 have HU : Upd (fun b => False) w w := Upd.refl _ _
 have hbl_hN := hN.lt
 have hl_hs := ilen hs
 have hc_hs := hs.cap.1
 replace hs := hs.tight
 have hl_hsb := ilen hsb
 have hc_hsb := hsb.cap.1
 have htbl : tbt b ≤ 8 * b.length := by have := (cl_bd hb hc).2.2.2; omega
 refine calls_of_W Try.func45 rfl Try.ntmps45 (by simp) ?_
 refine W_seq ?_
 refine W_region ?_
 refine Wl_alloc (cs := [.slice none 0 0]) Try.zeroValue23 rfl ?_
 intro B1 w1 hB1 hU1 hzz1 hb1
 have hzw1 := hU1.size
 replace hN := hN.upd0 hU1
 replace hs := hs.upd0 hU1
 replace hsb := hsb.upd0 hU1
 replace HU := HU.trans0 hU1
 refine Wl_alloc (cs := [.int .i64 0]) Try.zeroValue25 rfl ?_
 intro B2 w2 hB2 hU2 hzz2 hb2
 have hzw2 := hU2.size
 replace hN := hN.upd0 hU2
 replace hs := hs.upd0 hU2
 replace hsb := hsb.upd0 hU2
 replace HU := HU.trans0 hU2
 replace hb1 := hb1.upd0 hU2
 refine Wl_nil ?_
 refine W_seq ?_
 refine W_region ?_
 refine Wl_v (r_mkf1 (v0 := .pointer (some ⟨B1, 0, none⟩)) rfl) ?_
 refine Wl_defer2 rfl rfl ?_
 refine Wl_nil ?_
 refine W_seq ?_
 refine W_region ?_
 refine Wl_v (r_mv (v := .func (.func 46) #[] #[.pointer (some ⟨bn, 0, none⟩)]) rfl) ?_
 refine Wl_v (r_mv (v := .slice a n c) rfl) ?_
 refine Wl_v (r_mv (v := .slice a2 m d) rfl) ?_
 refine Wl_call (r_call2 rfl Try.call72 rfl rfl) (open_ok _ hs (by omega) hsb.any hb (by omega) hr hc) ?_
 rintro v w3 ⟨rb3, tb3, G3, rfl, hR3, hU3⟩
 have hzw3 := hU3.size
 replace hN := hN.upd0 hU3
 replace HU := HU.trans0 hU3
 replace hb1 := hb1.upd0 hU3
 replace hb2 := hb2.upd0 hU3
 have hrl := hR3.lt
 refine Wl_call (r_clos1 Try.call46 rfl rfl (by first | (simp; done) | (simp; rfl))) (dcl_ok _ hN hR3 (by omega) hb (by omega) (by omega) hg (by omega)) ?_
 rintro v w4 ⟨a4, c4, rfl, hO4, hU4⟩
 have hzw4 := hU4.size
 replace HU := HU.trans1 hU4 (by show (False) ∨ w.heap.size ≤ rb3; omega)
 replace hb1 := hb1.upd1 hU4 (by omega)
 replace hb2 := hb2.upd1 hU4 (by omega)
 replace hO4 := hO4.tight
 have hl_hO4 := ilen hO4.sl
 have hc_hO4 := hO4.sl.cap.1
 refine Wl_store (v := .slice a4 n0 c4) (cs' := [.slice a4 n0 c4]) Try.sizeOf23 rfl rfl rfl rfl hb1 rfl rfl ?_
 intro w5 hU5 hzz5 hb1n
 replace hb1 := hb1n; clear hb1n
 have hzw5 := hU5.size
 replace HU := HU.trans1 hU5 (by show (False) ∨ w.heap.size ≤ B1; omega)
 replace hb2 := hb2.upd1 hU5 (by omega)
 replace hO4 := hO4.upd1 hU5 (by intro h1; have h3 : ((w3.heap.size ≤ B1) ∧ B1 < w4.heap.size) := h1; omega)
 refine Wl_store (v := .int .i64 0) (cs' := [.int .i64 0]) Try.sizeOf25 rfl rfl rfl rfl hb2 rfl rfl ?_
 intro w6 hU6 hzz6 hb2n
 replace hb2 := hb2n; clear hb2n
 have hzw6 := hU6.size
 replace HU := HU.trans1 hU6 (by show (False) ∨ w.heap.size ≤ B2; omega)
 replace hb1 := hb1.upd1 hU6 (by omega)
 replace hO4 := hO4.upd1 hU6 (by intro h1; have h3 : ((w3.heap.size ≤ B2) ∧ B2 < w4.heap.size) := h1; omega)
 refine Wl_nil ?_
 refine W_ret ?_
 refine ret_ds rfl ?_
 refine lv_call (by simp) Try.call31 rfl (ocaught_ret _) ?_
 rintro e1 u1 w7 ⟨rfl, v1, rfl, rfl, hU7⟩
 have hzw7 := hU7.size
 replace HU := HU.trans0 hU7
 replace hb1 := hb1.upd0 hU7
 replace hb2 := hb2.upd0 hU7
 replace hO4 := hO4.upd0 hU7
 refine lv_nil (v := .tuple #[.slice a4 n0 c4, .int .i64 0]) (rc2 Try.results45 rfl rfl (cellIs Try.isAgg23 hb1) (cellIs Try.isAgg25 hb2)) ?_
 exact ⟨_, rfl, a4, c4, rfl, (hO4.weak (by intro g hg; have h3 : ((w3.heap.size ≤ g) ∧ g < w4.heap.size) := hg; show w.heap.size ≤ g; omega)), HU⟩

set_option maxRecDepth 100000 in
theorem told_d_pan {a a2 : Option Addr} {n c m d : Nat} {l b : List Int} {R : Nat → Prop} {bn n0 : Nat} (w : World) (hN : Blk w bn [.int .i64 ((n0 : Nat) : Int)]) (hs : Sl w R 1 (.slice a n c) n (ints .i64 l)) (hn : n ≤ 1000) (hsb : Sl w (fun g => g < w.heap.size) 1 (.slice a2 m d) m (ints .u8 b)) (hb : Byt b) (hm : m ≤ 100000) (hr : Rt l) (hc : Cl b) (hnn : n0 ≤ 131072) (hg : ¬ (Gd l b (tbt b) n0 ∧ st l (wn b) (tbt b) n0 = 0)) :
  Calls Try.prog 45 #[.slice a n c, .slice a2 m d, .func (.func 46) #[] #[.pointer (some ⟨bn, 0, none⟩)]] w (Ret fun v w' => v = .tuple #[.slice none 0 0, .int .i64 14] ∧ Upd No w w') := by
 have HU : Upd (fun b => False) w w := Upd.refl _ _
 have hbl_hN := hN.lt
 have hl_hs := ilen hs
 have hc_hs := hs.cap.1
 replace hs := hs.tight
 have hl_hsb := ilen hsb
 have hc_hsb := hsb.cap.1
 have htbl : tbt b ≤ 8 * b.length := by have := (cl_bd hb hc).2.2.2; omega
 refine calls_of_W Try.func45 rfl Try.ntmps45 (by simp) ?_
 refine W_seq ?_
 refine W_region ?_
 refine Wl_alloc (cs := [.slice none 0 0]) Try.zeroValue23 rfl ?_
 intro B1 w1 hB1 hU1 hzz1 hb1
 have hzw1 := hU1.size
 replace hN := hN.upd0 hU1
 replace hs := hs.upd0 hU1
 replace hsb := hsb.upd0 hU1
 replace HU := HU.trans0 hU1
 refine Wl_alloc (cs := [.int .i64 0]) Try.zeroValue25 rfl ?_
 intro B2 w2 hB2 hU2 hzz2 hb2
 have hzw2 := hU2.size
 replace hN := hN.upd0 hU2
 replace hs := hs.upd0 hU2
 replace hsb := hsb.upd0 hU2
 replace HU := HU.trans0 hU2
 replace hb1 := hb1.upd0 hU2
 refine Wl_nil ?_
 refine W_seq ?_
 refine W_region ?_
 refine Wl_v (r_mkf1 (v0 := .pointer (some ⟨B1, 0, none⟩)) rfl) ?_
 refine Wl_defer2 rfl rfl ?_
 refine Wl_nil ?_
 refine W_seq ?_
 refine W_region ?_
 refine Wl_v (r_mv (v := .func (.func 46) #[] #[.pointer (some ⟨bn, 0, none⟩)]) rfl) ?_
 refine Wl_v (r_mv (v := .slice a n c) rfl) ?_
 refine Wl_v (r_mv (v := .slice a2 m d) rfl) ?_
 refine Wl_call (r_call2 rfl Try.call72 rfl rfl) (open_ok _ hs (by omega) hsb.any hb (by omega) hr hc) ?_
 rintro v w3 ⟨rb3, tb3, G3, rfl, hR3, hU3⟩
 have hzw3 := hU3.size
 replace hN := hN.upd0 hU3
 replace HU := HU.trans0 hU3
 replace hb1 := hb1.upd0 hU3
 replace hb2 := hb2.upd0 hU3
 have hrl := hR3.lt
 refine Wl_callp (r_clos1 Try.call46 rfl rfl (by first | (simp; done) | (simp; rfl))) (dcl_no _ hN hR3 (by omega) hb (by omega) (by omega) hg (by omega)) ?_
 intro w4 hU4
 have hzw4 := hU4.size
 replace HU := HU.trans1 hU4 (by show (False) ∨ w.heap.size ≤ rb3; omega)
 replace hb1 := hb1.upd1 hU4 (by omega)
 replace hb2 := hb2.upd1 hU4 (by omega)
 refine pan_ds rfl ?_
 refine lv_call (by simp) Try.call31 rfl (ocaught_pan (S := fun g => g = B1) (Φ := fun w' => Blk w' B1 [.slice none 0 0]) _ hb2 Try.call71 (by show ¬ (B2 = B1); first | omega | exact fun h => h) (otold_b _ hb1)) ?_
 rintro e1 u1 w5 ⟨rfl, v1, rfl, rfl, wq5, hz5_0, hUa5, hUb5, hbe5⟩
 have hzwq5 := hUa5.size
 replace HU := HU.trans hUa5 (by intro x hx; have hx2 : x = B1 := hx; show (False) ∨ w.heap.size ≤ x; omega)
 have hzw5 := hUb5.size
 replace HU := HU.trans1 hUb5 (by show (False) ∨ w.heap.size ≤ B2; omega)
 replace hz5_0 := hz5_0.upd1 hUb5 (by omega)
 refine lv_nil (v := .tuple #[.slice none 0 0, .int .i64 14]) (rc2 Try.results45 rfl rfl (cellIs Try.isAgg23 hz5_0) (cellIs Try.isAgg25 hbe5)) ?_
 exact ⟨_, rfl, rfl, HU⟩

set_option maxRecDepth 100000 in
theorem told_d_tree {a a2 : Option Addr} {n c m d : Nat} {l b : List Int} {R : Nat → Prop} {bn : Nat} (w : World) (hs : Sl w R 1 (.slice a n c) n (ints .i64 l)) (hn : n ≤ 1000) (hsb : Sl w (fun g => g < w.heap.size) 1 (.slice a2 m d) m (ints .u8 b)) (hb : Byt b) (hm : m ≤ 100000) (hr : ¬ Rt l) :
  Calls Try.prog 45 #[.slice a n c, .slice a2 m d, .func (.func 46) #[] #[.pointer (some ⟨bn, 0, none⟩)]] w (Ret fun v w' => v = .tuple #[.slice none 0 0, .int .i64 12] ∧ Upd No w w') := by
 have HU : Upd (fun b => False) w w := Upd.refl _ _
 have hl_hs := ilen hs
 have hc_hs := hs.cap.1
 replace hs := hs.tight
 have hl_hsb := ilen hsb
 have hc_hsb := hsb.cap.1
 refine calls_of_W Try.func45 rfl Try.ntmps45 (by simp) ?_
 refine W_seq ?_
 refine W_region ?_
 refine Wl_alloc (cs := [.slice none 0 0]) Try.zeroValue23 rfl ?_
 intro B1 w1 hB1 hU1 hzz1 hb1
 have hzw1 := hU1.size
 replace hs := hs.upd0 hU1
 replace hsb := hsb.upd0 hU1
 replace HU := HU.trans0 hU1
 refine Wl_alloc (cs := [.int .i64 0]) Try.zeroValue25 rfl ?_
 intro B2 w2 hB2 hU2 hzz2 hb2
 have hzw2 := hU2.size
 replace hs := hs.upd0 hU2
 replace hsb := hsb.upd0 hU2
 replace HU := HU.trans0 hU2
 replace hb1 := hb1.upd0 hU2
 refine Wl_nil ?_
 refine W_seq ?_
 refine W_region ?_
 refine Wl_v (r_mkf1 (v0 := .pointer (some ⟨B1, 0, none⟩)) rfl) ?_
 refine Wl_defer2 rfl rfl ?_
 refine Wl_nil ?_
 refine W_seq ?_
 refine W_region ?_
 refine Wl_v (r_mv (v := .func (.func 46) #[] #[.pointer (some ⟨bn, 0, none⟩)]) rfl) ?_
 refine Wl_v (r_mv (v := .slice a n c) rfl) ?_
 refine Wl_v (r_mv (v := .slice a2 m d) rfl) ?_
 refine Wl_callp (r_call2 rfl Try.call72 rfl rfl) (open_tree _ hs (by omega) hsb.any hb (by omega) hr) ?_
 intro w3 hU3
 have hzw3 := hU3.size
 replace HU := HU.trans0 hU3
 replace hb1 := hb1.upd0 hU3
 replace hb2 := hb2.upd0 hU3
 refine pan_ds rfl ?_
 refine lv_call (by simp) Try.call31 rfl (ocaught_pan (S := fun g => g = B1) (Φ := fun w' => Blk w' B1 [.slice none 0 0]) _ hb2 Try.call71 (by show ¬ (B2 = B1); first | omega | exact fun h => h) (otold_b _ hb1)) ?_
 rintro e1 u1 w4 ⟨rfl, v1, rfl, rfl, wq4, hz4_0, hUa4, hUb4, hbe4⟩
 have hzwq4 := hUa4.size
 replace HU := HU.trans hUa4 (by intro x hx; have hx2 : x = B1 := hx; show (False) ∨ w.heap.size ≤ x; omega)
 have hzw4 := hUb4.size
 replace HU := HU.trans1 hUb4 (by show (False) ∨ w.heap.size ≤ B2; omega)
 replace hz4_0 := hz4_0.upd1 hUb4 (by omega)
 refine lv_nil (v := .tuple #[.slice none 0 0, .int .i64 12]) (rc2 Try.results45 rfl rfl (cellIs Try.isAgg23 hz4_0) (cellIs Try.isAgg25 hbe4)) ?_
 exact ⟨_, rfl, rfl, HU⟩

set_option maxRecDepth 100000 in
theorem told_d_bits {a a2 : Option Addr} {n c m d : Nat} {l b : List Int} {R : Nat → Prop} {bn : Nat} (w : World) (hs : Sl w R 1 (.slice a n c) n (ints .i64 l)) (hn : n ≤ 1000) (hsb : Sl w (fun g => g < w.heap.size) 1 (.slice a2 m d) m (ints .u8 b)) (hb : Byt b) (hm : m ≤ 100000) (hr : Rt l) (hc : ¬ Cl b) :
  Calls Try.prog 45 #[.slice a n c, .slice a2 m d, .func (.func 46) #[] #[.pointer (some ⟨bn, 0, none⟩)]] w (Ret fun v w' => v = .tuple #[.slice none 0 0, .int .i64 14] ∧ Upd No w w') := by
 have HU : Upd (fun b => False) w w := Upd.refl _ _
 have hl_hs := ilen hs
 have hc_hs := hs.cap.1
 replace hs := hs.tight
 have hl_hsb := ilen hsb
 have hc_hsb := hsb.cap.1
 refine calls_of_W Try.func45 rfl Try.ntmps45 (by simp) ?_
 refine W_seq ?_
 refine W_region ?_
 refine Wl_alloc (cs := [.slice none 0 0]) Try.zeroValue23 rfl ?_
 intro B1 w1 hB1 hU1 hzz1 hb1
 have hzw1 := hU1.size
 replace hs := hs.upd0 hU1
 replace hsb := hsb.upd0 hU1
 replace HU := HU.trans0 hU1
 refine Wl_alloc (cs := [.int .i64 0]) Try.zeroValue25 rfl ?_
 intro B2 w2 hB2 hU2 hzz2 hb2
 have hzw2 := hU2.size
 replace hs := hs.upd0 hU2
 replace hsb := hsb.upd0 hU2
 replace HU := HU.trans0 hU2
 replace hb1 := hb1.upd0 hU2
 refine Wl_nil ?_
 refine W_seq ?_
 refine W_region ?_
 refine Wl_v (r_mkf1 (v0 := .pointer (some ⟨B1, 0, none⟩)) rfl) ?_
 refine Wl_defer2 rfl rfl ?_
 refine Wl_nil ?_
 refine W_seq ?_
 refine W_region ?_
 refine Wl_v (r_mv (v := .func (.func 46) #[] #[.pointer (some ⟨bn, 0, none⟩)]) rfl) ?_
 refine Wl_v (r_mv (v := .slice a n c) rfl) ?_
 refine Wl_v (r_mv (v := .slice a2 m d) rfl) ?_
 refine Wl_callp (r_call2 rfl Try.call72 rfl rfl) (open_bits _ hs (by omega) hsb.any hb (by omega) hr hc) ?_
 intro w3 hU3
 have hzw3 := hU3.size
 replace HU := HU.trans0 hU3
 replace hb1 := hb1.upd0 hU3
 replace hb2 := hb2.upd0 hU3
 refine pan_ds rfl ?_
 refine lv_call (by simp) Try.call31 rfl (ocaught_pan (S := fun g => g = B1) (Φ := fun w' => Blk w' B1 [.slice none 0 0]) _ hb2 Try.call71 (by show ¬ (B2 = B1); first | omega | exact fun h => h) (otold_b _ hb1)) ?_
 rintro e1 u1 w4 ⟨rfl, v1, rfl, rfl, wq4, hz4_0, hUa4, hUb4, hbe4⟩
 have hzwq4 := hUa4.size
 replace HU := HU.trans hUa4 (by intro x hx; have hx2 : x = B1 := hx; show (False) ∨ w.heap.size ≤ x; omega)
 have hzw4 := hUb4.size
 replace HU := HU.trans1 hUb4 (by show (False) ∨ w.heap.size ≤ B2; omega)
 replace hz4_0 := hz4_0.upd1 hUb4 (by omega)
 refine lv_nil (v := .tuple #[.slice none 0 0, .int .i64 14]) (rc2 Try.results45 rfl rfl (cellIs Try.isAgg23 hz4_0) (cellIs Try.isAgg25 hbe4)) ?_
 exact ⟨_, rfl, rfl, HU⟩

set_option maxRecDepth 100000 in
theorem told_p_ok {a a2 : Option Addr} {n c m d : Nat} {l b : List Int} {R : Nat → Prop} {bn n0 : Nat} (w : World) (hN : Blk w bn [.int .i64 ((n0 : Nat) : Int)]) (hs : Sl w R 1 (.slice a n c) n (ints .i64 l)) (hn : n ≤ 1000) (hsb : Sl w (fun g => g < w.heap.size) 1 (.slice a2 m d) m (ints .u8 b)) (hb : Byt b) (hm : m ≤ 100000) (hr : Rt l) (hc : Cl b) (hnn : n0 ≤ 131072) (hg : Gd l b (tbt b) n0) :
  Calls Try.prog 45 #[.slice a n c, .slice a2 m d, .func (.func 53) #[] #[.pointer (some ⟨bn, 0, none⟩)]] w (Ret fun v w' => ∃ (a' : Option Addr) (c' : Nat), v = .tuple #[.slice a' n0 c', .int .i64 0] ∧ Own w' (fun g => w.heap.size ≤ g) 5 1 (.slice a' n0 c') n0 (ints .u8 (yms l (wn b) (tbt b) n0)) ∧ Upd No w w') := by
 have HU : Upd (fun b => False) w w := Upd.refl _ _
 have hbl_hN := hN.lt
 have hl_hs := ilen hs
 have hc_hs := hs.cap.1
 replace hs := hs.tight
 have hl_hsb := ilen hsb
 have hc_hsb := hsb.cap.1
 have htbl : tbt b ≤ 8 * b.length := by have := (cl_bd hb hc).2.2.2; omega
 refine calls_of_W Try.func45 rfl Try.ntmps45 (by simp) ?_
 refine W_seq ?_
 refine W_region ?_
 refine Wl_alloc (cs := [.slice none 0 0]) Try.zeroValue23 rfl ?_
 intro B1 w1 hB1 hU1 hzz1 hb1
 have hzw1 := hU1.size
 replace hN := hN.upd0 hU1
 replace hs := hs.upd0 hU1
 replace hsb := hsb.upd0 hU1
 replace HU := HU.trans0 hU1
 refine Wl_alloc (cs := [.int .i64 0]) Try.zeroValue25 rfl ?_
 intro B2 w2 hB2 hU2 hzz2 hb2
 have hzw2 := hU2.size
 replace hN := hN.upd0 hU2
 replace hs := hs.upd0 hU2
 replace hsb := hsb.upd0 hU2
 replace HU := HU.trans0 hU2
 replace hb1 := hb1.upd0 hU2
 refine Wl_nil ?_
 refine W_seq ?_
 refine W_region ?_
 refine Wl_v (r_mkf1 (v0 := .pointer (some ⟨B1, 0, none⟩)) rfl) ?_
 refine Wl_defer2 rfl rfl ?_
 refine Wl_nil ?_
 refine W_seq ?_
 refine W_region ?_
 refine Wl_v (r_mv (v := .func (.func 53) #[] #[.pointer (some ⟨bn, 0, none⟩)]) rfl) ?_
 refine Wl_v (r_mv (v := .slice a n c) rfl) ?_
 refine Wl_v (r_mv (v := .slice a2 m d) rfl) ?_
 refine Wl_call (r_call2 rfl Try.call72 rfl rfl) (open_ok _ hs (by omega) hsb.any hb (by omega) hr hc) ?_
 rintro v w3 ⟨rb3, tb3, G3, rfl, hR3, hU3⟩
 have hzw3 := hU3.size
 replace hN := hN.upd0 hU3
 replace HU := HU.trans0 hU3
 replace hb1 := hb1.upd0 hU3
 replace hb2 := hb2.upd0 hU3
 have hrl := hR3.lt
 refine Wl_call (r_clos1 Try.call53 rfl rfl (by first | (simp; done) | (simp; rfl))) (pcl_ok _ hN hR3 (by omega) hb (by omega) (by omega) hg (by omega)) ?_
 rintro v w4 ⟨a4, c4, rfl, hO4, hU4⟩
 have hzw4 := hU4.size
 replace HU := HU.trans1 hU4 (by show (False) ∨ w.heap.size ≤ rb3; omega)
 replace hb1 := hb1.upd1 hU4 (by omega)
 replace hb2 := hb2.upd1 hU4 (by omega)
 replace hO4 := hO4.tight
 have hl_hO4 := ilen hO4.sl
 have hc_hO4 := hO4.sl.cap.1
 refine Wl_store (v := .slice a4 n0 c4) (cs' := [.slice a4 n0 c4]) Try.sizeOf23 rfl rfl rfl rfl hb1 rfl rfl ?_
 intro w5 hU5 hzz5 hb1n
 replace hb1 := hb1n; clear hb1n
 have hzw5 := hU5.size
 replace HU := HU.trans1 hU5 (by show (False) ∨ w.heap.size ≤ B1; omega)
 replace hb2 := hb2.upd1 hU5 (by omega)
 replace hO4 := hO4.upd1 hU5 (by intro h1; have h3 : ((w3.heap.size ≤ B1) ∧ B1 < w4.heap.size) := h1; omega)
 refine Wl_store (v := .int .i64 0) (cs' := [.int .i64 0]) Try.sizeOf25 rfl rfl rfl rfl hb2 rfl rfl ?_
 intro w6 hU6 hzz6 hb2n
 replace hb2 := hb2n; clear hb2n
 have hzw6 := hU6.size
 replace HU := HU.trans1 hU6 (by show (False) ∨ w.heap.size ≤ B2; omega)
 replace hb1 := hb1.upd1 hU6 (by omega)
 replace hO4 := hO4.upd1 hU6 (by intro h1; have h3 : ((w3.heap.size ≤ B2) ∧ B2 < w4.heap.size) := h1; omega)
 refine Wl_nil ?_
 refine W_ret ?_
 refine ret_ds rfl ?_
 refine lv_call (by simp) Try.call31 rfl (ocaught_ret _) ?_
 rintro e1 u1 w7 ⟨rfl, v1, rfl, rfl, hU7⟩
 have hzw7 := hU7.size
 replace HU := HU.trans0 hU7
 replace hb1 := hb1.upd0 hU7
 replace hb2 := hb2.upd0 hU7
 replace hO4 := hO4.upd0 hU7
 refine lv_nil (v := .tuple #[.slice a4 n0 c4, .int .i64 0]) (rc2 Try.results45 rfl rfl (cellIs Try.isAgg23 hb1) (cellIs Try.isAgg25 hb2)) ?_
 exact ⟨_, rfl, a4, c4, rfl, (hO4.weak (by intro g hg; have h3 : ((w3.heap.size ≤ g) ∧ g < w4.heap.size) := hg; show w.heap.size ≤ g; omega)), HU⟩

set_option maxRecDepth 100000 in
theorem told_p_pan {a a2 : Option Addr} {n c m d : Nat} {l b : List Int} {R : Nat → Prop} {bn n0 : Nat} (w : World) (hN : Blk w bn [.int .i64 ((n0 : Nat) : Int)]) (hs : Sl w R 1 (.slice a n c) n (ints .i64 l)) (hn : n ≤ 1000) (hsb : Sl w (fun g => g < w.heap.size) 1 (.slice a2 m d) m (ints .u8 b)) (hb : Byt b) (hm : m ≤ 100000) (hr : Rt l) (hc : Cl b) (hnn : n0 ≤ 131072) (hg : ¬ Gd l b (tbt b) n0) :
  Calls Try.prog 45 #[.slice a n c, .slice a2 m d, .func (.func 53) #[] #[.pointer (some ⟨bn, 0, none⟩)]] w (Ret fun v w' => v = .tuple #[.slice none 0 0, .int .i64 14] ∧ Upd No w w') := by
 have HU : Upd (fun b => False) w w := Upd.refl _ _
 have hbl_hN := hN.lt
 have hl_hs := ilen hs
 have hc_hs := hs.cap.1
 replace hs := hs.tight
 have hl_hsb := ilen hsb
 have hc_hsb := hsb.cap.1
 have htbl : tbt b ≤ 8 * b.length := by have := (cl_bd hb hc).2.2.2; omega
 refine calls_of_W Try.func45 rfl Try.ntmps45 (by simp) ?_
 refine W_seq ?_
 refine W_region ?_
 refine Wl_alloc (cs := [.slice none 0 0]) Try.zeroValue23 rfl ?_
 intro B1 w1 hB1 hU1 hzz1 hb1
 have hzw1 := hU1.size
 replace hN := hN.upd0 hU1
 replace hs := hs.upd0 hU1
 replace hsb := hsb.upd0 hU1
 replace HU := HU.trans0 hU1
 refine Wl_alloc (cs := [.int .i64 0]) Try.zeroValue25 rfl ?_
 intro B2 w2 hB2 hU2 hzz2 hb2
 have hzw2 := hU2.size
 replace hN := hN.upd0 hU2
 replace hs := hs.upd0 hU2
 replace hsb := hsb.upd0 hU2
 replace HU := HU.trans0 hU2
 replace hb1 := hb1.upd0 hU2
 refine Wl_nil ?_
 refine W_seq ?_
 refine W_region ?_
 refine Wl_v (r_mkf1 (v0 := .pointer (some ⟨B1, 0, none⟩)) rfl) ?_
 refine Wl_defer2 rfl rfl ?_
 refine Wl_nil ?_
 refine W_seq ?_
 refine W_region ?_
 refine Wl_v (r_mv (v := .func (.func 53) #[] #[.pointer (some ⟨bn, 0, none⟩)]) rfl) ?_
 refine Wl_v (r_mv (v := .slice a n c) rfl) ?_
 refine Wl_v (r_mv (v := .slice a2 m d) rfl) ?_
 refine Wl_call (r_call2 rfl Try.call72 rfl rfl) (open_ok _ hs (by omega) hsb.any hb (by omega) hr hc) ?_
 rintro v w3 ⟨rb3, tb3, G3, rfl, hR3, hU3⟩
 have hzw3 := hU3.size
 replace hN := hN.upd0 hU3
 replace HU := HU.trans0 hU3
 replace hb1 := hb1.upd0 hU3
 replace hb2 := hb2.upd0 hU3
 have hrl := hR3.lt
 refine Wl_callp (r_clos1 Try.call53 rfl rfl (by first | (simp; done) | (simp; rfl))) (pcl_no _ hN hR3 (by omega) hb (by omega) (by omega) hg (by omega)) ?_
 intro w4 hU4
 have hzw4 := hU4.size
 replace HU := HU.trans1 hU4 (by show (False) ∨ w.heap.size ≤ rb3; omega)
 replace hb1 := hb1.upd1 hU4 (by omega)
 replace hb2 := hb2.upd1 hU4 (by omega)
 refine pan_ds rfl ?_
 refine lv_call (by simp) Try.call31 rfl (ocaught_pan (S := fun g => g = B1) (Φ := fun w' => Blk w' B1 [.slice none 0 0]) _ hb2 Try.call71 (by show ¬ (B2 = B1); first | omega | exact fun h => h) (otold_b _ hb1)) ?_
 rintro e1 u1 w5 ⟨rfl, v1, rfl, rfl, wq5, hz5_0, hUa5, hUb5, hbe5⟩
 have hzwq5 := hUa5.size
 replace HU := HU.trans hUa5 (by intro x hx; have hx2 : x = B1 := hx; show (False) ∨ w.heap.size ≤ x; omega)
 have hzw5 := hUb5.size
 replace HU := HU.trans1 hUb5 (by show (False) ∨ w.heap.size ≤ B2; omega)
 replace hz5_0 := hz5_0.upd1 hUb5 (by omega)
 refine lv_nil (v := .tuple #[.slice none 0 0, .int .i64 14]) (rc2 Try.results45 rfl rfl (cellIs Try.isAgg23 hz5_0) (cellIs Try.isAgg25 hbe5)) ?_
 exact ⟨_, rfl, rfl, HU⟩

set_option maxRecDepth 100000 in
theorem told_p_tree {a a2 : Option Addr} {n c m d : Nat} {l b : List Int} {R : Nat → Prop} {bn : Nat} (w : World) (hs : Sl w R 1 (.slice a n c) n (ints .i64 l)) (hn : n ≤ 1000) (hsb : Sl w (fun g => g < w.heap.size) 1 (.slice a2 m d) m (ints .u8 b)) (hb : Byt b) (hm : m ≤ 100000) (hr : ¬ Rt l) :
  Calls Try.prog 45 #[.slice a n c, .slice a2 m d, .func (.func 53) #[] #[.pointer (some ⟨bn, 0, none⟩)]] w (Ret fun v w' => v = .tuple #[.slice none 0 0, .int .i64 12] ∧ Upd No w w') := by
 have HU : Upd (fun b => False) w w := Upd.refl _ _
 have hl_hs := ilen hs
 have hc_hs := hs.cap.1
 replace hs := hs.tight
 have hl_hsb := ilen hsb
 have hc_hsb := hsb.cap.1
 refine calls_of_W Try.func45 rfl Try.ntmps45 (by simp) ?_
 refine W_seq ?_
 refine W_region ?_
 refine Wl_alloc (cs := [.slice none 0 0]) Try.zeroValue23 rfl ?_
 intro B1 w1 hB1 hU1 hzz1 hb1
 have hzw1 := hU1.size
 replace hs := hs.upd0 hU1
 replace hsb := hsb.upd0 hU1
 replace HU := HU.trans0 hU1
 refine Wl_alloc (cs := [.int .i64 0]) Try.zeroValue25 rfl ?_
 intro B2 w2 hB2 hU2 hzz2 hb2
 have hzw2 := hU2.size
 replace hs := hs.upd0 hU2
 replace hsb := hsb.upd0 hU2
 replace HU := HU.trans0 hU2
 replace hb1 := hb1.upd0 hU2
 refine Wl_nil ?_
 refine W_seq ?_
 refine W_region ?_
 refine Wl_v (r_mkf1 (v0 := .pointer (some ⟨B1, 0, none⟩)) rfl) ?_
 refine Wl_defer2 rfl rfl ?_
 refine Wl_nil ?_
 refine W_seq ?_
 refine W_region ?_
 refine Wl_v (r_mv (v := .func (.func 53) #[] #[.pointer (some ⟨bn, 0, none⟩)]) rfl) ?_
 refine Wl_v (r_mv (v := .slice a n c) rfl) ?_
 refine Wl_v (r_mv (v := .slice a2 m d) rfl) ?_
 refine Wl_callp (r_call2 rfl Try.call72 rfl rfl) (open_tree _ hs (by omega) hsb.any hb (by omega) hr) ?_
 intro w3 hU3
 have hzw3 := hU3.size
 replace HU := HU.trans0 hU3
 replace hb1 := hb1.upd0 hU3
 replace hb2 := hb2.upd0 hU3
 refine pan_ds rfl ?_
 refine lv_call (by simp) Try.call31 rfl (ocaught_pan (S := fun g => g = B1) (Φ := fun w' => Blk w' B1 [.slice none 0 0]) _ hb2 Try.call71 (by show ¬ (B2 = B1); first | omega | exact fun h => h) (otold_b _ hb1)) ?_
 rintro e1 u1 w4 ⟨rfl, v1, rfl, rfl, wq4, hz4_0, hUa4, hUb4, hbe4⟩
 have hzwq4 := hUa4.size
 replace HU := HU.trans hUa4 (by intro x hx; have hx2 : x = B1 := hx; show (False) ∨ w.heap.size ≤ x; omega)
 have hzw4 := hUb4.size
 replace HU := HU.trans1 hUb4 (by show (False) ∨ w.heap.size ≤ B2; omega)
 replace hz4_0 := hz4_0.upd1 hUb4 (by omega)
 refine lv_nil (v := .tuple #[.slice none 0 0, .int .i64 12]) (rc2 Try.results45 rfl rfl (cellIs Try.isAgg23 hz4_0) (cellIs Try.isAgg25 hbe4)) ?_
 exact ⟨_, rfl, rfl, HU⟩

set_option maxRecDepth 100000 in
theorem told_p_bits {a a2 : Option Addr} {n c m d : Nat} {l b : List Int} {R : Nat → Prop} {bn : Nat} (w : World) (hs : Sl w R 1 (.slice a n c) n (ints .i64 l)) (hn : n ≤ 1000) (hsb : Sl w (fun g => g < w.heap.size) 1 (.slice a2 m d) m (ints .u8 b)) (hb : Byt b) (hm : m ≤ 100000) (hr : Rt l) (hc : ¬ Cl b) :
  Calls Try.prog 45 #[.slice a n c, .slice a2 m d, .func (.func 53) #[] #[.pointer (some ⟨bn, 0, none⟩)]] w (Ret fun v w' => v = .tuple #[.slice none 0 0, .int .i64 14] ∧ Upd No w w') := by
 have HU : Upd (fun b => False) w w := Upd.refl _ _
 have hl_hs := ilen hs
 have hc_hs := hs.cap.1
 replace hs := hs.tight
 have hl_hsb := ilen hsb
 have hc_hsb := hsb.cap.1
 refine calls_of_W Try.func45 rfl Try.ntmps45 (by simp) ?_
 refine W_seq ?_
 refine W_region ?_
 refine Wl_alloc (cs := [.slice none 0 0]) Try.zeroValue23 rfl ?_
 intro B1 w1 hB1 hU1 hzz1 hb1
 have hzw1 := hU1.size
 replace hs := hs.upd0 hU1
 replace hsb := hsb.upd0 hU1
 replace HU := HU.trans0 hU1
 refine Wl_alloc (cs := [.int .i64 0]) Try.zeroValue25 rfl ?_
 intro B2 w2 hB2 hU2 hzz2 hb2
 have hzw2 := hU2.size
 replace hs := hs.upd0 hU2
 replace hsb := hsb.upd0 hU2
 replace HU := HU.trans0 hU2
 replace hb1 := hb1.upd0 hU2
 refine Wl_nil ?_
 refine W_seq ?_
 refine W_region ?_
 refine Wl_v (r_mkf1 (v0 := .pointer (some ⟨B1, 0, none⟩)) rfl) ?_
 refine Wl_defer2 rfl rfl ?_
 refine Wl_nil ?_
 refine W_seq ?_
 refine W_region ?_
 refine Wl_v (r_mv (v := .func (.func 53) #[] #[.pointer (some ⟨bn, 0, none⟩)]) rfl) ?_
 refine Wl_v (r_mv (v := .slice a n c) rfl) ?_
 refine Wl_v (r_mv (v := .slice a2 m d) rfl) ?_
 refine Wl_callp (r_call2 rfl Try.call72 rfl rfl) (open_bits _ hs (by omega) hsb.any hb (by omega) hr hc) ?_
 intro w3 hU3
 have hzw3 := hU3.size
 replace HU := HU.trans0 hU3
 replace hb1 := hb1.upd0 hU3
 replace hb2 := hb2.upd0 hU3
 refine pan_ds rfl ?_
 refine lv_call (by simp) Try.call31 rfl (ocaught_pan (S := fun g => g = B1) (Φ := fun w' => Blk w' B1 [.slice none 0 0]) _ hb2 Try.call71 (by show ¬ (B2 = B1); first | omega | exact fun h => h) (otold_b _ hb1)) ?_
 rintro e1 u1 w4 ⟨rfl, v1, rfl, rfl, wq4, hz4_0, hUa4, hUb4, hbe4⟩
 have hzwq4 := hUa4.size
 replace HU := HU.trans hUa4 (by intro x hx; have hx2 : x = B1 := hx; show (False) ∨ w.heap.size ≤ x; omega)
 have hzw4 := hUb4.size
 replace HU := HU.trans1 hUb4 (by show (False) ∨ w.heap.size ≤ B2; omega)
 replace hz4_0 := hz4_0.upd1 hUb4 (by omega)
 refine lv_nil (v := .tuple #[.slice none 0 0, .int .i64 14]) (rc2 Try.results45 rfl rfl (cellIs Try.isAgg23 hz4_0) (cellIs Try.isAgg25 hbe4)) ?_
 exact ⟨_, rfl, rfl, HU⟩

set_option maxRecDepth 100000 in
theorem told_c_ok {a a2 : Option Addr} {n c m d : Nat} {l b : List Int} {R : Nat → Prop} (w : World) (hs : Sl w R 1 (.slice a n c) n (ints .i64 l)) (hn : n ≤ 1000) (hsb : Sl w (fun g => g < w.heap.size) 1 (.slice a2 m d) m (ints .u8 b)) (hb : Byt b) (hm : m ≤ 100000) (hr : Rt l) (hc : Cl b) (hg : st l (wn b) (tbt b) (nb l (wn b) (tbt b)) = 0) :
  Calls Try.prog 50 #[.slice a n c, .slice a2 m d, .func (.func 51) #[] #[]] w (Ret fun v w' => v = .tuple #[.int .i64 ((nb l (wn b) (tbt b) : Nat) : Int), .int .i64 0] ∧ Upd No w w') := by
 have HU : Upd (fun b => False) w w := Upd.refl _ _
 have hl_hs := ilen hs
 have hc_hs := hs.cap.1
 replace hs := hs.tight
 have hl_hsb := ilen hsb
 have hc_hsb := hsb.cap.1
 have htbl : tbt b ≤ 8 * b.length := by have := (cl_bd hb hc).2.2.2; omega
 refine calls_of_W Try.func50 rfl Try.ntmps50 (by simp) ?_
 refine W_seq ?_
 refine W_region ?_
 refine Wl_alloc (cs := [.int .i64 0]) Try.zeroValue3 rfl ?_
 intro B1 w1 hB1 hU1 hzz1 hb1
 have hzw1 := hU1.size
 replace hs := hs.upd0 hU1
 replace hsb := hsb.upd0 hU1
 replace HU := HU.trans0 hU1
 refine Wl_alloc (cs := [.int .i64 0]) Try.zeroValue25 rfl ?_
 intro B2 w2 hB2 hU2 hzz2 hb2
 have hzw2 := hU2.size
 replace hs := hs.upd0 hU2
 replace hsb := hsb.upd0 hU2
 replace HU := HU.trans0 hU2
 replace hb1 := hb1.upd0 hU2
 refine Wl_nil ?_
 refine W_seq ?_
 refine W_region ?_
 refine Wl_v (r_mkf1 (v0 := .pointer (some ⟨B1, 0, none⟩)) rfl) ?_
 refine Wl_defer2 rfl rfl ?_
 refine Wl_nil ?_
 refine W_seq ?_
 refine W_region ?_
 refine Wl_v (r_mv (v := .func (.func 51) #[] #[]) rfl) ?_
 refine Wl_v (r_mv (v := .slice a n c) rfl) ?_
 refine Wl_v (r_mv (v := .slice a2 m d) rfl) ?_
 refine Wl_call (r_call2 rfl Try.call72 rfl rfl) (open_ok _ hs (by omega) hsb.any hb (by omega) hr hc) ?_
 rintro v w3 ⟨rb3, tb3, G3, rfl, hR3, hU3⟩
 have hzw3 := hU3.size
 replace HU := HU.trans0 hU3
 replace hb1 := hb1.upd0 hU3
 replace hb2 := hb2.upd0 hU3
 have hrl := hR3.lt
 refine Wl_call (r_clos1 Try.call51 rfl rfl (by first | (simp; done) | (simp; rfl))) (ccl_ok _ hR3 (by omega) hb (by omega) hg) ?_
 rintro v w4 ⟨rfl, hU4⟩
 have hzw4 := hU4.size
 replace HU := HU.trans1 hU4 (by show (False) ∨ w.heap.size ≤ rb3; omega)
 replace hb1 := hb1.upd1 hU4 (by omega)
 replace hb2 := hb2.upd1 hU4 (by omega)
 refine Wl_store (v := .int .i64 ((nb l (wn b) (tbt b) : Nat) : Int)) (cs' := [.int .i64 ((nb l (wn b) (tbt b) : Nat) : Int)]) Try.sizeOf3 rfl rfl rfl rfl hb1 rfl rfl ?_
 intro w5 hU5 hzz5 hb1n
 replace hb1 := hb1n; clear hb1n
 have hzw5 := hU5.size
 replace HU := HU.trans1 hU5 (by show (False) ∨ w.heap.size ≤ B1; omega)
 replace hb2 := hb2.upd1 hU5 (by omega)
 refine Wl_store (v := .int .i64 0) (cs' := [.int .i64 0]) Try.sizeOf25 rfl rfl rfl rfl hb2 rfl rfl ?_
 intro w6 hU6 hzz6 hb2n
 replace hb2 := hb2n; clear hb2n
 have hzw6 := hU6.size
 replace HU := HU.trans1 hU6 (by show (False) ∨ w.heap.size ≤ B2; omega)
 replace hb1 := hb1.upd1 hU6 (by omega)
 refine Wl_nil ?_
 refine W_ret ?_
 refine ret_ds rfl ?_
 refine lv_call (by simp) Try.call31 rfl (ocaught_ret _) ?_
 rintro e1 u1 w7 ⟨rfl, v1, rfl, rfl, hU7⟩
 have hzw7 := hU7.size
 replace HU := HU.trans0 hU7
 replace hb1 := hb1.upd0 hU7
 replace hb2 := hb2.upd0 hU7
 refine lv_nil (v := .tuple #[.int .i64 ((nb l (wn b) (tbt b) : Nat) : Int), .int .i64 0]) (rc2 Try.results50 rfl rfl (cellIs Try.isAgg3 hb1) (cellIs Try.isAgg25 hb2)) ?_
 exact ⟨_, rfl, rfl, HU⟩

set_option maxRecDepth 100000 in
theorem told_c_pan {a a2 : Option Addr} {n c m d : Nat} {l b : List Int} {R : Nat → Prop} (w : World) (hs : Sl w R 1 (.slice a n c) n (ints .i64 l)) (hn : n ≤ 1000) (hsb : Sl w (fun g => g < w.heap.size) 1 (.slice a2 m d) m (ints .u8 b)) (hb : Byt b) (hm : m ≤ 100000) (hr : Rt l) (hc : Cl b) (hg : ¬ (st l (wn b) (tbt b) (nb l (wn b) (tbt b)) = 0)) :
  Calls Try.prog 50 #[.slice a n c, .slice a2 m d, .func (.func 51) #[] #[]] w (Ret fun v w' => v = .tuple #[.int .i64 0, .int .i64 14] ∧ Upd No w w') := by
 have HU : Upd (fun b => False) w w := Upd.refl _ _
 have hl_hs := ilen hs
 have hc_hs := hs.cap.1
 replace hs := hs.tight
 have hl_hsb := ilen hsb
 have hc_hsb := hsb.cap.1
 have htbl : tbt b ≤ 8 * b.length := by have := (cl_bd hb hc).2.2.2; omega
 refine calls_of_W Try.func50 rfl Try.ntmps50 (by simp) ?_
 refine W_seq ?_
 refine W_region ?_
 refine Wl_alloc (cs := [.int .i64 0]) Try.zeroValue3 rfl ?_
 intro B1 w1 hB1 hU1 hzz1 hb1
 have hzw1 := hU1.size
 replace hs := hs.upd0 hU1
 replace hsb := hsb.upd0 hU1
 replace HU := HU.trans0 hU1
 refine Wl_alloc (cs := [.int .i64 0]) Try.zeroValue25 rfl ?_
 intro B2 w2 hB2 hU2 hzz2 hb2
 have hzw2 := hU2.size
 replace hs := hs.upd0 hU2
 replace hsb := hsb.upd0 hU2
 replace HU := HU.trans0 hU2
 replace hb1 := hb1.upd0 hU2
 refine Wl_nil ?_
 refine W_seq ?_
 refine W_region ?_
 refine Wl_v (r_mkf1 (v0 := .pointer (some ⟨B1, 0, none⟩)) rfl) ?_
 refine Wl_defer2 rfl rfl ?_
 refine Wl_nil ?_
 refine W_seq ?_
 refine W_region ?_
 refine Wl_v (r_mv (v := .func (.func 51) #[] #[]) rfl) ?_
 refine Wl_v (r_mv (v := .slice a n c) rfl) ?_
 refine Wl_v (r_mv (v := .slice a2 m d) rfl) ?_
 refine Wl_call (r_call2 rfl Try.call72 rfl rfl) (open_ok _ hs (by omega) hsb.any hb (by omega) hr hc) ?_
 rintro v w3 ⟨rb3, tb3, G3, rfl, hR3, hU3⟩
 have hzw3 := hU3.size
 replace HU := HU.trans0 hU3
 replace hb1 := hb1.upd0 hU3
 replace hb2 := hb2.upd0 hU3
 have hrl := hR3.lt
 refine Wl_callp (r_clos1 Try.call51 rfl rfl (by first | (simp; done) | (simp; rfl))) (ccl_no _ hR3 (by omega) hb (by omega) hg) ?_
 intro w4 hU4
 have hzw4 := hU4.size
 replace HU := HU.trans1 hU4 (by show (False) ∨ w.heap.size ≤ rb3; omega)
 replace hb1 := hb1.upd1 hU4 (by omega)
 replace hb2 := hb2.upd1 hU4 (by omega)
 refine pan_ds rfl ?_
 refine lv_call (by simp) Try.call31 rfl (ocaught_pan (S := fun g => g = B1) (Φ := fun w' => Blk w' B1 [.int .i64 0]) _ hb2 Try.call74 (by show ¬ (B2 = B1); first | omega | exact fun h => h) (otold_i _ hb1)) ?_
 rintro e1 u1 w5 ⟨rfl, v1, rfl, rfl, wq5, hz5_0, hUa5, hUb5, hbe5⟩
 have hzwq5 := hUa5.size
 replace HU := HU.trans hUa5 (by intro x hx; have hx2 : x = B1 := hx; show (False) ∨ w.heap.size ≤ x; omega)
 have hzw5 := hUb5.size
 replace HU := HU.trans1 hUb5 (by show (False) ∨ w.heap.size ≤ B2; omega)
 replace hz5_0 := hz5_0.upd1 hUb5 (by omega)
 refine lv_nil (v := .tuple #[.int .i64 0, .int .i64 14]) (rc2 Try.results50 rfl rfl (cellIs Try.isAgg3 hz5_0) (cellIs Try.isAgg25 hbe5)) ?_
 exact ⟨_, rfl, rfl, HU⟩

set_option maxRecDepth 100000 in
theorem told_c_tree {a a2 : Option Addr} {n c m d : Nat} {l b : List Int} {R : Nat → Prop} (w : World) (hs : Sl w R 1 (.slice a n c) n (ints .i64 l)) (hn : n ≤ 1000) (hsb : Sl w (fun g => g < w.heap.size) 1 (.slice a2 m d) m (ints .u8 b)) (hb : Byt b) (hm : m ≤ 100000) (hr : ¬ Rt l) :
  Calls Try.prog 50 #[.slice a n c, .slice a2 m d, .func (.func 51) #[] #[]] w (Ret fun v w' => v = .tuple #[.int .i64 0, .int .i64 12] ∧ Upd No w w') := by
 have HU : Upd (fun b => False) w w := Upd.refl _ _
 have hl_hs := ilen hs
 have hc_hs := hs.cap.1
 replace hs := hs.tight
 have hl_hsb := ilen hsb
 have hc_hsb := hsb.cap.1
 refine calls_of_W Try.func50 rfl Try.ntmps50 (by simp) ?_
 refine W_seq ?_
 refine W_region ?_
 refine Wl_alloc (cs := [.int .i64 0]) Try.zeroValue3 rfl ?_
 intro B1 w1 hB1 hU1 hzz1 hb1
 have hzw1 := hU1.size
 replace hs := hs.upd0 hU1
 replace hsb := hsb.upd0 hU1
 replace HU := HU.trans0 hU1
 refine Wl_alloc (cs := [.int .i64 0]) Try.zeroValue25 rfl ?_
 intro B2 w2 hB2 hU2 hzz2 hb2
 have hzw2 := hU2.size
 replace hs := hs.upd0 hU2
 replace hsb := hsb.upd0 hU2
 replace HU := HU.trans0 hU2
 replace hb1 := hb1.upd0 hU2
 refine Wl_nil ?_
 refine W_seq ?_
 refine W_region ?_
 refine Wl_v (r_mkf1 (v0 := .pointer (some ⟨B1, 0, none⟩)) rfl) ?_
 refine Wl_defer2 rfl rfl ?_
 refine Wl_nil ?_
 refine W_seq ?_
 refine W_region ?_
 refine Wl_v (r_mv (v := .func (.func 51) #[] #[]) rfl) ?_
 refine Wl_v (r_mv (v := .slice a n c) rfl) ?_
 refine Wl_v (r_mv (v := .slice a2 m d) rfl) ?_
 refine Wl_callp (r_call2 rfl Try.call72 rfl rfl) (open_tree _ hs (by omega) hsb.any hb (by omega) hr) ?_
 intro w3 hU3
 have hzw3 := hU3.size
 replace HU := HU.trans0 hU3
 replace hb1 := hb1.upd0 hU3
 replace hb2 := hb2.upd0 hU3
 refine pan_ds rfl ?_
 refine lv_call (by simp) Try.call31 rfl (ocaught_pan (S := fun g => g = B1) (Φ := fun w' => Blk w' B1 [.int .i64 0]) _ hb2 Try.call74 (by show ¬ (B2 = B1); first | omega | exact fun h => h) (otold_i _ hb1)) ?_
 rintro e1 u1 w4 ⟨rfl, v1, rfl, rfl, wq4, hz4_0, hUa4, hUb4, hbe4⟩
 have hzwq4 := hUa4.size
 replace HU := HU.trans hUa4 (by intro x hx; have hx2 : x = B1 := hx; show (False) ∨ w.heap.size ≤ x; omega)
 have hzw4 := hUb4.size
 replace HU := HU.trans1 hUb4 (by show (False) ∨ w.heap.size ≤ B2; omega)
 replace hz4_0 := hz4_0.upd1 hUb4 (by omega)
 refine lv_nil (v := .tuple #[.int .i64 0, .int .i64 12]) (rc2 Try.results50 rfl rfl (cellIs Try.isAgg3 hz4_0) (cellIs Try.isAgg25 hbe4)) ?_
 exact ⟨_, rfl, rfl, HU⟩

set_option maxRecDepth 100000 in
theorem told_c_bits {a a2 : Option Addr} {n c m d : Nat} {l b : List Int} {R : Nat → Prop} (w : World) (hs : Sl w R 1 (.slice a n c) n (ints .i64 l)) (hn : n ≤ 1000) (hsb : Sl w (fun g => g < w.heap.size) 1 (.slice a2 m d) m (ints .u8 b)) (hb : Byt b) (hm : m ≤ 100000) (hr : Rt l) (hc : ¬ Cl b) :
  Calls Try.prog 50 #[.slice a n c, .slice a2 m d, .func (.func 51) #[] #[]] w (Ret fun v w' => v = .tuple #[.int .i64 0, .int .i64 14] ∧ Upd No w w') := by
 have HU : Upd (fun b => False) w w := Upd.refl _ _
 have hl_hs := ilen hs
 have hc_hs := hs.cap.1
 replace hs := hs.tight
 have hl_hsb := ilen hsb
 have hc_hsb := hsb.cap.1
 refine calls_of_W Try.func50 rfl Try.ntmps50 (by simp) ?_
 refine W_seq ?_
 refine W_region ?_
 refine Wl_alloc (cs := [.int .i64 0]) Try.zeroValue3 rfl ?_
 intro B1 w1 hB1 hU1 hzz1 hb1
 have hzw1 := hU1.size
 replace hs := hs.upd0 hU1
 replace hsb := hsb.upd0 hU1
 replace HU := HU.trans0 hU1
 refine Wl_alloc (cs := [.int .i64 0]) Try.zeroValue25 rfl ?_
 intro B2 w2 hB2 hU2 hzz2 hb2
 have hzw2 := hU2.size
 replace hs := hs.upd0 hU2
 replace hsb := hsb.upd0 hU2
 replace HU := HU.trans0 hU2
 replace hb1 := hb1.upd0 hU2
 refine Wl_nil ?_
 refine W_seq ?_
 refine W_region ?_
 refine Wl_v (r_mkf1 (v0 := .pointer (some ⟨B1, 0, none⟩)) rfl) ?_
 refine Wl_defer2 rfl rfl ?_
 refine Wl_nil ?_
 refine W_seq ?_
 refine W_region ?_
 refine Wl_v (r_mv (v := .func (.func 51) #[] #[]) rfl) ?_
 refine Wl_v (r_mv (v := .slice a n c) rfl) ?_
 refine Wl_v (r_mv (v := .slice a2 m d) rfl) ?_
 refine Wl_callp (r_call2 rfl Try.call72 rfl rfl) (open_bits _ hs (by omega) hsb.any hb (by omega) hr hc) ?_
 intro w3 hU3
 have hzw3 := hU3.size
 replace HU := HU.trans0 hU3
 replace hb1 := hb1.upd0 hU3
 replace hb2 := hb2.upd0 hU3
 refine pan_ds rfl ?_
 refine lv_call (by simp) Try.call31 rfl (ocaught_pan (S := fun g => g = B1) (Φ := fun w' => Blk w' B1 [.int .i64 0]) _ hb2 Try.call74 (by show ¬ (B2 = B1); first | omega | exact fun h => h) (otold_i _ hb1)) ?_
 rintro e1 u1 w4 ⟨rfl, v1, rfl, rfl, wq4, hz4_0, hUa4, hUb4, hbe4⟩
 have hzwq4 := hUa4.size
 replace HU := HU.trans hUa4 (by intro x hx; have hx2 : x = B1 := hx; show (False) ∨ w.heap.size ≤ x; omega)
 have hzw4 := hUb4.size
 replace HU := HU.trans1 hUb4 (by show (False) ∨ w.heap.size ≤ B2; omega)
 replace hz4_0 := hz4_0.upd1 hUb4 (by omega)
 refine lv_nil (v := .tuple #[.int .i64 0, .int .i64 14]) (rc2 Try.results50 rfl rfl (cellIs Try.isAgg3 hz4_0) (cellIs Try.isAgg25 hbe4)) ?_
 exact ⟨_, rfl, rfl, HU⟩

set_option maxRecDepth 100000 in
theorem told_r_ok {a a2 : Option Addr} {n c m d : Nat} {l b : List Int} {R : Nat → Prop} (w : World) (hs : Sl w R 1 (.slice a n c) n (ints .i64 l)) (hn : n ≤ 1000) (hsb : Sl w (fun g => g < w.heap.size) 1 (.slice a2 m d) m (ints .u8 b)) (hb : Byt b) (hm : m ≤ 100000) (hr : Rt l) (hc : Cl b) :
  Calls Try.prog 62 #[.slice a n c, .slice a2 m d, .func (.func 63) #[] #[]] w (Ret fun v w' => ∃ (rb : Nat) (tb : Nat) (ga : Nat) (gz : Nat), v = .tuple #[.agg #[.pointer (some ⟨rb, 0, none⟩), .pointer (some ⟨tb, 0, none⟩)], .int .i64 0] ∧ Rdr w' ga gz rb tb l b (tbt b) ∧ w.heap.size ≤ ga ∧ Upd No w w') := by
 have HU : Upd (fun b => False) w w := Upd.refl _ _
 have hl_hs := ilen hs
 have hc_hs := hs.cap.1
 replace hs := hs.tight
 have hl_hsb := ilen hsb
 have hc_hsb := hsb.cap.1
 have htbl : tbt b ≤ 8 * b.length := by have := (cl_bd hb hc).2.2.2; omega
 refine calls_of_W Try.func62 rfl Try.ntmps62 (by simp) ?_
 refine W_seq ?_
 refine W_region ?_
 refine Wl_alloc (cs := [.pointer none, .pointer none]) Try.zeroValue81 rfl ?_
 intro B1 w1 hB1 hU1 hzz1 hb1
 have hzw1 := hU1.size
 replace hs := hs.upd0 hU1
 replace hsb := hsb.upd0 hU1
 replace HU := HU.trans0 hU1
 refine Wl_alloc (cs := [.int .i64 0]) Try.zeroValue25 rfl ?_
 intro B2 w2 hB2 hU2 hzz2 hb2
 have hzw2 := hU2.size
 replace hs := hs.upd0 hU2
 replace hsb := hsb.upd0 hU2
 replace HU := HU.trans0 hU2
 replace hb1 := hb1.upd0 hU2
 refine Wl_nil ?_
 refine W_seq ?_
 refine W_region ?_
 refine Wl_v (r_mkf1 (v0 := .pointer (some ⟨B1, 0, none⟩)) rfl) ?_
 refine Wl_defer2 rfl rfl ?_
 refine Wl_nil ?_
 refine W_seq ?_
 refine W_region ?_
 refine Wl_v (r_mv (v := .func (.func 63) #[] #[]) rfl) ?_
 refine Wl_v (r_mv (v := .slice a n c) rfl) ?_
 refine Wl_v (r_mv (v := .slice a2 m d) rfl) ?_
 refine Wl_call (r_call2 rfl Try.call72 rfl rfl) (open_ok _ hs (by omega) hsb.any hb (by omega) hr hc) ?_
 rintro v w3 ⟨rb3, tb3, G3, rfl, hR3, hU3⟩
 have hzw3 := hU3.size
 replace HU := HU.trans0 hU3
 replace hb1 := hb1.upd0 hU3
 replace hb2 := hb2.upd0 hU3
 have hrl := hR3.lt
 refine Wl_call (r_clos1 Try.call63 rfl rfl (by first | (simp; done) | (simp; rfl))) (icl_ok _ ) ?_
 rintro v w4 ⟨rfl, hU4⟩
 have hzw4 := hU4.size
 replace HU := HU.trans0 hU4
 replace hb1 := hb1.upd0 hU4
 replace hb2 := hb2.upd0 hU4
 replace hR3 := hR3.upd0 hU4
 refine Wl_storea (off := 0) (vs := [.pointer (some ⟨rb3, 0, none⟩), .pointer (some ⟨tb3, 0, none⟩)]) (cs' := [.pointer (some ⟨rb3, 0, none⟩), .pointer (some ⟨tb3, 0, none⟩)]) Try.sizeOf81 rfl rfl rfl (by simp only [List.mem_cons, List.not_mem_nil, or_false, forall_eq_or_imp, forall_eq]; exact ⟨rfl, rfl⟩) hb1 (by simp) rfl ?_
 intro w5 hU5 hzz5 hb1n
 replace hb1 := hb1n; clear hb1n
 have hzw5 := hU5.size
 replace HU := HU.trans1 hU5 (by show (False) ∨ w.heap.size ≤ B1; omega)
 replace hb2 := hb2.upd1 hU5 (by omega)
 replace hR3 := hR3.upd1 hU5 (by omega)
 refine Wl_store (v := .int .i64 0) (cs' := [.int .i64 0]) Try.sizeOf25 rfl rfl rfl rfl hb2 rfl rfl ?_
 intro w6 hU6 hzz6 hb2n
 replace hb2 := hb2n; clear hb2n
 have hzw6 := hU6.size
 replace HU := HU.trans1 hU6 (by show (False) ∨ w.heap.size ≤ B2; omega)
 replace hb1 := hb1.upd1 hU6 (by omega)
 replace hR3 := hR3.upd1 hU6 (by omega)
 refine Wl_nil ?_
 refine W_ret ?_
 refine ret_ds rfl ?_
 refine lv_call (by simp) Try.call31 rfl (ocaught_ret _) ?_
 rintro e1 u1 w7 ⟨rfl, v1, rfl, rfl, hU7⟩
 have hzw7 := hU7.size
 replace HU := HU.trans0 hU7
 replace hb1 := hb1.upd0 hU7
 replace hb2 := hb2.upd0 hU7
 replace hR3 := hR3.upd0 hU7
 refine lv_nil (v := .tuple #[.agg #[.pointer (some ⟨rb3, 0, none⟩), .pointer (some ⟨tb3, 0, none⟩)], .int .i64 0]) (rc2 Try.results62 rfl rfl (cellAgg Try.isAgg81 Try.sizeOf81 rfl hb1) (cellIs Try.isAgg25 hb2)) ?_
 exact ⟨_, rfl, rb3, tb3, w2.heap.size, G3, rfl, hR3, (by omega), HU⟩

set_option maxRecDepth 100000 in
theorem told_r_tree {a a2 : Option Addr} {n c m d : Nat} {l b : List Int} {R : Nat → Prop} (w : World) (hs : Sl w R 1 (.slice a n c) n (ints .i64 l)) (hn : n ≤ 1000) (hsb : Sl w (fun g => g < w.heap.size) 1 (.slice a2 m d) m (ints .u8 b)) (hb : Byt b) (hm : m ≤ 100000) (hr : ¬ Rt l) :
  Calls Try.prog 62 #[.slice a n c, .slice a2 m d, .func (.func 63) #[] #[]] w (Ret fun v w' => v = .tuple #[.agg #[.pointer none, .pointer none], .int .i64 12] ∧ Upd No w w') := by
 have HU : Upd (fun b => False) w w := Upd.refl _ _
 have hl_hs := ilen hs
 have hc_hs := hs.cap.1
 replace hs := hs.tight
 have hl_hsb := ilen hsb
 have hc_hsb := hsb.cap.1
 refine calls_of_W Try.func62 rfl Try.ntmps62 (by simp) ?_
 refine W_seq ?_
 refine W_region ?_
 refine Wl_alloc (cs := [.pointer none, .pointer none]) Try.zeroValue81 rfl ?_
 intro B1 w1 hB1 hU1 hzz1 hb1
 have hzw1 := hU1.size
 replace hs := hs.upd0 hU1
 replace hsb := hsb.upd0 hU1
 replace HU := HU.trans0 hU1
 refine Wl_alloc (cs := [.int .i64 0]) Try.zeroValue25 rfl ?_
 intro B2 w2 hB2 hU2 hzz2 hb2
 have hzw2 := hU2.size
 replace hs := hs.upd0 hU2
 replace hsb := hsb.upd0 hU2
 replace HU := HU.trans0 hU2
 replace hb1 := hb1.upd0 hU2
 refine Wl_nil ?_
 refine W_seq ?_
 refine W_region ?_
 refine Wl_v (r_mkf1 (v0 := .pointer (some ⟨B1, 0, none⟩)) rfl) ?_
 refine Wl_defer2 rfl rfl ?_
 refine Wl_nil ?_
 refine W_seq ?_
 refine W_region ?_
 refine Wl_v (r_mv (v := .func (.func 63) #[] #[]) rfl) ?_
 refine Wl_v (r_mv (v := .slice a n c) rfl) ?_
 refine Wl_v (r_mv (v := .slice a2 m d) rfl) ?_
 refine Wl_callp (r_call2 rfl Try.call72 rfl rfl) (open_tree _ hs (by omega) hsb.any hb (by omega) hr) ?_
 intro w3 hU3
 have hzw3 := hU3.size
 replace HU := HU.trans0 hU3
 replace hb1 := hb1.upd0 hU3
 replace hb2 := hb2.upd0 hU3
 refine pan_ds rfl ?_
 refine lv_call (by simp) Try.call31 rfl (ocaught_pan (S := fun g => g = B1) (Φ := fun w' => Blk w' B1 [.pointer none, .pointer none]) _ hb2 Try.call82 (by show ¬ (B2 = B1); first | omega | exact fun h => h) (otold_r _ hb1)) ?_
 rintro e1 u1 w4 ⟨rfl, v1, rfl, rfl, wq4, hz4_0, hUa4, hUb4, hbe4⟩
 have hzwq4 := hUa4.size
 replace HU := HU.trans hUa4 (by intro x hx; have hx2 : x = B1 := hx; show (False) ∨ w.heap.size ≤ x; omega)
 have hzw4 := hUb4.size
 replace HU := HU.trans1 hUb4 (by show (False) ∨ w.heap.size ≤ B2; omega)
 replace hz4_0 := hz4_0.upd1 hUb4 (by omega)
 refine lv_nil (v := .tuple #[.agg #[.pointer none, .pointer none], .int .i64 12]) (rc2 Try.results62 rfl rfl (cellAgg Try.isAgg81 Try.sizeOf81 rfl hz4_0) (cellIs Try.isAgg25 hbe4)) ?_
 exact ⟨_, rfl, rfl, HU⟩

set_option maxRecDepth 100000 in
theorem told_r_bits {a a2 : Option Addr} {n c m d : Nat} {l b : List Int} {R : Nat → Prop} (w : World) (hs : Sl w R 1 (.slice a n c) n (ints .i64 l)) (hn : n ≤ 1000) (hsb : Sl w (fun g => g < w.heap.size) 1 (.slice a2 m d) m (ints .u8 b)) (hb : Byt b) (hm : m ≤ 100000) (hr : Rt l) (hc : ¬ Cl b) :
  Calls Try.prog 62 #[.slice a n c, .slice a2 m d, .func (.func 63) #[] #[]] w (Ret fun v w' => v = .tuple #[.agg #[.pointer none, .pointer none], .int .i64 14] ∧ Upd No w w') := by
 have HU : Upd (fun b => False) w w := Upd.refl _ _
 have hl_hs := ilen hs
 have hc_hs := hs.cap.1
 replace hs := hs.tight
 have hl_hsb := ilen hsb
 have hc_hsb := hsb.cap.1
 refine calls_of_W Try.func62 rfl Try.ntmps62 (by simp) ?_
 refine W_seq ?_
 refine W_region ?_
 refine Wl_alloc (cs := [.pointer none, .pointer none]) Try.zeroValue81 rfl ?_
 intro B1 w1 hB1 hU1 hzz1 hb1
 have hzw1 := hU1.size
 replace hs := hs.upd0 hU1
 replace hsb := hsb.upd0 hU1
 replace HU := HU.trans0 hU1
 refine Wl_alloc (cs := [.int .i64 0]) Try.zeroValue25 rfl ?_
 intro B2 w2 hB2 hU2 hzz2 hb2
 have hzw2 := hU2.size
 replace hs := hs.upd0 hU2
 replace hsb := hsb.upd0 hU2
 replace HU := HU.trans0 hU2
 replace hb1 := hb1.upd0 hU2
 refine Wl_nil ?_
 refine W_seq ?_
 refine W_region ?_
 refine Wl_v (r_mkf1 (v0 := .pointer (some ⟨B1, 0, none⟩)) rfl) ?_
 refine Wl_defer2 rfl rfl ?_
 refine Wl_nil ?_
 refine W_seq ?_
 refine W_region ?_
 refine Wl_v (r_mv (v := .func (.func 63) #[] #[]) rfl) ?_
 refine Wl_v (r_mv (v := .slice a n c) rfl) ?_
 refine Wl_v (r_mv (v := .slice a2 m d) rfl) ?_
 refine Wl_callp (r_call2 rfl Try.call72 rfl rfl) (open_bits _ hs (by omega) hsb.any hb (by omega) hr hc) ?_
 intro w3 hU3
 have hzw3 := hU3.size
 replace HU := HU.trans0 hU3
 replace hb1 := hb1.upd0 hU3
 replace hb2 := hb2.upd0 hU3
 refine pan_ds rfl ?_
 refine lv_call (by simp) Try.call31 rfl (ocaught_pan (S := fun g => g = B1) (Φ := fun w' => Blk w' B1 [.pointer none, .pointer none]) _ hb2 Try.call82 (by show ¬ (B2 = B1); first | omega | exact fun h => h) (otold_r _ hb1)) ?_
 rintro e1 u1 w4 ⟨rfl, v1, rfl, rfl, wq4, hz4_0, hUa4, hUb4, hbe4⟩
 have hzwq4 := hUa4.size
 replace HU := HU.trans hUa4 (by intro x hx; have hx2 : x = B1 := hx; show (False) ∨ w.heap.size ≤ x; omega)
 have hzw4 := hUb4.size
 replace HU := HU.trans1 hUb4 (by show (False) ∨ w.heap.size ≤ B2; omega)
 replace hz4_0 := hz4_0.upd1 hUb4 (by omega)
 refine lv_nil (v := .tuple #[.agg #[.pointer none, .pointer none], .int .i64 14]) (rc2 Try.results62 rfl rfl (cellAgg Try.isAgg81 Try.sizeOf81 rfl hz4_0) (cellIs Try.isAgg25 hbe4)) ?_
 exact ⟨_, rfl, rfl, HU⟩

instance (l b : List Int) (t n : Nat) : Decidable (Gd l b t n) := inferInstanceAs (Decidable (∀ j, j < n → gd l (wn b) t j))
/-- what Decode yields -/
def dcF (l b : List Int) (n : Int) : List Int × Int := if ¬ Rt l then ([], 12) else if ¬ (0 ≤ n ∧ n ≤ 131072) then ([], 2) else if ¬ Cl b then ([], 14) else
 if Gd l b (tbt b) n.toNat ∧ st l (wn b) (tbt b) n.toNat = 0 then (yms l (wn b) (tbt b) n.toNat, 0) else ([], 14)
def pfF (l b : List Int) (n : Int) : List Int × Int := if ¬ Rt l then ([], 12) else if ¬ (0 ≤ n ∧ n ≤ 131072) then ([], 2) else if ¬ Cl b then ([], 14) else
 if Gd l b (tbt b) n.toNat then (yms l (wn b) (tbt b) n.toNat, 0) else ([], 14)
def ctF (l b : List Int) : Int × Int := if ¬ Rt l then (0, 12) else if ¬ Cl b then (0, 14) else
 if st l (wn b) (tbt b) (nb l (wn b) (tbt b)) = 0 then (((nb l (wn b) (tbt b) : Nat) : Int), 0) else (0, 14)
theorem gd_le {l : List Int} (hr : Rt l) {b : List Int} {t n : Nat} : Gd l b t n ↔ n ≤ nb l (wn b) t := by
 obtain ⟨h1, h2, _⟩ := nb_spec hr (wn b) t
 constructor
 ·intro h
  rcases Nat.lt_or_ge (nb l (wn b) t) n with h3 | h3
  ·exact absurd (h _ h3) h2
  ·exact h3
 ·exact fun h j hj => h1 j (by omega)
theorem gd_end {l : List Int} (hr : Rt l) {b : List Int} {t n : Nat} : (Gd l b t n ∧ st l (wn b) t n = 0) ↔ (n = nb l (wn b) t ∧ st l (wn b) t (nb l (wn b) t) = 0) := by
 constructor
 ·rintro ⟨h1, h2⟩
  have := nb_stop hr h1 h2
  rw [this]; exact ⟨rfl, h2⟩
 ·rintro ⟨rfl, h2⟩
  exact ⟨(nb_spec hr _ _).1, h2⟩

set_option maxRecDepth 100000 in
theorem right_ok {a : Option Addr} {n c : Nat} {l : List Int} {R : Nat → Prop} {nn : Int} (w : World) (hs : Sl w R 1 (.slice a n c) n (ints .i64 l)) (hn : n ≤ 17592186044415) (hr : Rt l) (hnn : 0 ≤ nn ∧ nn ≤ 131072) :
  Calls Try.prog 44 #[.slice a n c, .int .i64 nn] w (Ret fun v w' => v = .int .i64 0 ∧ Upd No w w') := by
 have HU : Upd (fun b => False) w w := Upd.refl _ _
 have hl_hs := ilen hs
 have hc_hs := hs.cap.1
 replace hs := hs.tight
 refine calls_of_W Try.func44 rfl Try.ntmps44 (by simp) ?_
 refine W_seq ?_
 refine W_region ?_
 refine Wl_v (r_as (v := .int .i64 0) rfl) ?_
 refine Wl_nil ?_
 refine W_seq ?_
 refine W_seq ?_
 refine W_region ?_
 refine Wl_v (r_mv (v := .slice a n c) rfl) ?_
 refine Wl_call (r_call1 rfl Try.call55 rfl) (check_ok _ hs (by omega) hr) ?_
 rintro v w1 ⟨rfl, hU1⟩
 have hzw1 := hU1.size
 replace HU := HU.trans0 hU1
 refine Wl_v (r_as (v := .int .i64 0) rfl) ?_
 refine Wl_nil ?_
 refine W_seq ?_
 refine W_region ?_
 refine Wl_v (r_mv (v := .int .i64 0) rfl) ?_
 refine Wl_v (v := .bool true) (r_eq (a := 0) (b := 0) rfl rfl) ?_
 refine Wl_v (r_mv (v := .bool true) rfl) ?_
 refine Wl_guard_t rfl ?_
 refine Wl_v (r_mv (v := .int .i64 nn) rfl) ?_
 refine Wl_guard_t rfl ?_
 refine Wl_v (r_lt rfl rfl) ?_
 refine Wl_guard_t rfl ?_
 refine Wl_v (r_mv (v := .bool (decide (nn < 0))) rfl) ?_
 have q1 : ¬ (nn < 0) := (by omega)
 rw [decide_eq_false q1]
 refine Wl_guard_t rfl ?_
 refine Wl_v (r_mv (v := .int .i64 nn) rfl) ?_
 refine Wl_guard_t rfl ?_
 refine Wl_v (r_gt rfl rfl) ?_
 refine Wl_guard_t rfl ?_
 refine Wl_v (r_pick_f (v := .bool (decide (131072 < nn))) rfl rfl) ?_
 refine Wl_v (r_pick_t (v := .bool (decide (131072 < nn))) rfl rfl) ?_
 refine Wl_nil ?_
 have q2 : ¬ (131072 < nn) := (by omega)
 rw [decide_eq_false q2]
 refine W_cond_f rfl ?_
 refine W_skip ?_
 refine W_seq ?_
 refine W_region ?_
 refine Wl_v (r_mv (v := .int .i64 0) rfl) ?_
 refine Wl_v (r_as (v := .int .i64 0) rfl) ?_
 refine Wl_nil ?_
 refine W_ret ?_
 refine ret_end (v := .int .i64 0) rfl (res1 Try.results44 rfl) ?_
 exact ⟨_, rfl, rfl, HU⟩

set_option maxRecDepth 100000 in
theorem right_arg {a : Option Addr} {n c : Nat} {l : List Int} {R : Nat → Prop} {nn : Int} (w : World) (hs : Sl w R 1 (.slice a n c) n (ints .i64 l)) (hn : n ≤ 17592186044415) (hr : Rt l) (hnn : ¬ (0 ≤ nn ∧ nn ≤ 131072)) :
  Calls Try.prog 44 #[.slice a n c, .int .i64 nn] w (Ret fun v w' => v = .int .i64 2 ∧ Upd No w w') := by
 have HU : Upd (fun b => False) w w := Upd.refl _ _
 have hl_hs := ilen hs
 have hc_hs := hs.cap.1
 replace hs := hs.tight
 refine calls_of_W Try.func44 rfl Try.ntmps44 (by simp) ?_
 refine W_seq ?_
 refine W_region ?_
 refine Wl_v (r_as (v := .int .i64 0) rfl) ?_
 refine Wl_nil ?_
 refine W_seq ?_
 refine W_seq ?_
 refine W_region ?_
 refine Wl_v (r_mv (v := .slice a n c) rfl) ?_
 refine Wl_call (r_call1 rfl Try.call55 rfl) (check_ok _ hs (by omega) hr) ?_
 rintro v w1 ⟨rfl, hU1⟩
 have hzw1 := hU1.size
 replace HU := HU.trans0 hU1
 refine Wl_v (r_as (v := .int .i64 0) rfl) ?_
 refine Wl_nil ?_
 refine W_seq ?_
 refine W_region ?_
 refine Wl_v (r_mv (v := .int .i64 0) rfl) ?_
 refine Wl_v (v := .bool true) (r_eq (a := 0) (b := 0) rfl rfl) ?_
 refine Wl_v (r_mv (v := .bool true) rfl) ?_
 refine Wl_guard_t rfl ?_
 refine Wl_v (r_mv (v := .int .i64 nn) rfl) ?_
 refine Wl_guard_t rfl ?_
 refine Wl_v (r_lt rfl rfl) ?_
 refine Wl_guard_t rfl ?_
 refine Wl_v (r_mv (v := .bool (decide (nn < 0))) rfl) ?_
 by_cases q1 : nn < 0
 ·rw [decide_eq_true q1]
  refine Wl_guard_f rfl ?_
  refine Wl_guard_f rfl ?_
  refine Wl_guard_t rfl ?_
  refine Wl_v (r_pick_t (v := .bool true) rfl rfl) ?_
  refine Wl_v (r_pick_t (v := .bool true) rfl rfl) ?_
  refine Wl_nil ?_
  refine W_cond_t rfl ?_
  refine W_region ?_
  refine Wl_v (r_as (v := .int .i64 2) rfl) ?_
  refine Wl_nil ?_
  refine W_seq ?_
  refine W_region ?_
  refine Wl_v (r_mv (v := .int .i64 2) rfl) ?_
  refine Wl_v (r_as (v := .int .i64 2) rfl) ?_
  refine Wl_nil ?_
  refine W_ret ?_
  refine ret_end (v := .int .i64 2) rfl (res1 Try.results44 rfl) ?_
  exact ⟨_, rfl, rfl, HU⟩
 ·rw [decide_eq_false q1]
  refine Wl_guard_t rfl ?_
  refine Wl_v (r_mv (v := .int .i64 nn) rfl) ?_
  refine Wl_guard_t rfl ?_
  refine Wl_v (r_gt rfl rfl) ?_
  refine Wl_guard_t rfl ?_
  refine Wl_v (r_pick_f (v := .bool (decide (131072 < nn))) rfl rfl) ?_
  refine Wl_v (r_pick_t (v := .bool (decide (131072 < nn))) rfl rfl) ?_
  refine Wl_nil ?_
  by_cases q2 : 131072 < nn
  ·rw [decide_eq_true q2]
   refine W_cond_t rfl ?_
   refine W_region ?_
   refine Wl_v (r_as (v := .int .i64 2) rfl) ?_
   refine Wl_nil ?_
   refine W_seq ?_
   refine W_region ?_
   refine Wl_v (r_mv (v := .int .i64 2) rfl) ?_
   refine Wl_v (r_as (v := .int .i64 2) rfl) ?_
   refine Wl_nil ?_
   refine W_ret ?_
   refine ret_end (v := .int .i64 2) rfl (res1 Try.results44 rfl) ?_
   exact ⟨_, rfl, rfl, HU⟩
  ·rw [decide_eq_false q2]
   refine W_cond_f rfl ?_
   refine W_skip ?_
   refine W_seq ?_
   refine W_region ?_
   refine Wl_v (r_mv (v := .int .i64 0) rfl) ?_
   refine Wl_v (r_as (v := .int .i64 0) rfl) ?_
   refine Wl_nil ?_
   refine W_ret ?_
   refine ret_end (v := .int .i64 0) rfl (res1 Try.results44 rfl) ?_
   exact ⟨_, rfl, (absurd (show 0 ≤ nn ∧ nn ≤ 131072 from by omega) hnn), HU⟩

set_option maxRecDepth 100000 in
theorem right_tree {a : Option Addr} {n c : Nat} {l : List Int} {R : Nat → Prop} {nn : Int} (w : World) (hs : Sl w R 1 (.slice a n c) n (ints .i64 l)) (hn : n ≤ 17592186044415) (hr : ¬ Rt l) :
  Calls Try.prog 44 #[.slice a n c, .int .i64 nn] w (Ret fun v w' => v = .int .i64 12 ∧ Upd No w w') := by
 have HU : Upd (fun b => False) w w := Upd.refl _ _
 have hl_hs := ilen hs
 have hc_hs := hs.cap.1
 replace hs := hs.tight
 refine calls_of_W Try.func44 rfl Try.ntmps44 (by simp) ?_
 refine W_seq ?_
 refine W_region ?_
 refine Wl_v (r_as (v := .int .i64 0) rfl) ?_
 refine Wl_nil ?_
 refine W_seq ?_
 refine W_seq ?_
 refine W_region ?_
 refine Wl_v (r_mv (v := .slice a n c) rfl) ?_
 refine Wl_call (r_call1 rfl Try.call55 rfl) (check_no _ hs (by omega) hr) ?_
 rintro v w1 ⟨rfl, hU1⟩
 have hzw1 := hU1.size
 replace HU := HU.trans0 hU1
 refine Wl_v (r_as (v := .int .i64 12) rfl) ?_
 refine Wl_nil ?_
 refine W_seq ?_
 refine W_region ?_
 refine Wl_v (r_mv (v := .int .i64 12) rfl) ?_
 refine Wl_v (v := .bool false) (r_eq (a := 12) (b := 0) rfl rfl) ?_
 refine Wl_v (r_mv (v := .bool false) rfl) ?_
 refine Wl_guard_f rfl ?_
 refine Wl_guard_f rfl ?_
 refine Wl_guard_f rfl ?_
 refine Wl_skip rfl ?_
 refine Wl_skip rfl ?_
 refine Wl_guard_f rfl ?_
 refine Wl_v (r_pick_f (v := .bool false) rfl rfl) ?_
 refine Wl_nil ?_
 refine W_cond_f rfl ?_
 refine W_skip ?_
 refine W_seq ?_
 refine W_region ?_
 refine Wl_v (r_mv (v := .int .i64 12) rfl) ?_
 refine Wl_v (r_as (v := .int .i64 12) rfl) ?_
 refine Wl_nil ?_
 refine W_ret ?_
 refine ret_end (v := .int .i64 12) rfl (res1 Try.results44 rfl) ?_
 exact ⟨_, rfl, rfl, HU⟩

set_option maxRecDepth 100000 in
theorem odec {a a2 : Option Addr} {n c m d : Nat} {l b : List Int} {nn : Int} {R : Nat → Prop} (w : World) (hs : Sl w R 1 (.slice a n c) n (ints .i64 l)) (hn : n ≤ 1000) (hsb : Sl w (fun g => g < w.heap.size) 1 (.slice a2 m d) m (ints .u8 b)) (hb : Byt b) (hm : m ≤ 100000) (hni : -9223372036854775808 ≤ nn ∧ nn ≤ 9223372036854775807) :
  Calls Try.prog 19 #[.slice a n c, .slice a2 m d, .int .i64 nn] w (Ret fun v w' => ∃ (a' : Option Addr) (m' : Nat) (c' : Nat), v = .tuple #[.slice a' m' c', .int .i64 ((dcF l b nn).2)] ∧ Own w' (fun g => w.heap.size ≤ g) 5 1 (.slice a' m' c') m' (ints .u8 ((dcF l b nn).1)) ∧ Upd No w w') := by
 have HU : Upd (fun b => False) w w := Upd.refl _ _
 have hl_hs := ilen hs
 have hc_hs := hs.cap.1
 replace hs := hs.tight
 have hl_hsb := ilen hsb
 have hc_hsb := hsb.cap.1
 refine calls_of_W Try.func19 rfl Try.ntmps19 (by simp) ?_
 refine W_seq ?_
 refine W_region ?_
 refine Wl_box (v := .int .i64 nn) (cs := [.int .i64 nn]) rfl rfl ?_
 intro B1 w1 hB1 hU1 hzz1 hb1
 have hzw1 := hU1.size
 replace hs := hs.upd0 hU1
 replace hsb := hsb.upd0 hU1
 replace HU := HU.trans0 hU1
 refine Wl_v (r_as (v := .slice none 0 0) rfl) ?_
 refine Wl_v (r_as (v := .int .i64 0) rfl) ?_
 refine Wl_nil ?_
 refine W_seq ?_
 refine W_seq ?_
 refine W_region ?_
 refine Wl_v (r_mv (v := .slice a n c) rfl) ?_
 refine Wl_load (v := .int .i64 nn) Try.isAgg3 rfl hb1 rfl ?_
 by_cases q1 : Rt l
 ·by_cases q2 : 0 ≤ nn ∧ nn ≤ 131072
  ·refine Wl_call (r_call2 rfl Try.call44 rfl rfl) (right_ok _ hs (by omega) q1 q2) ?_
   rintro v w2 ⟨rfl, hU2⟩
   have hzw2 := hU2.size
   replace hs := hs.upd0 hU2
   replace hsb := hsb.upd0 hU2
   replace HU := HU.trans0 hU2
   replace hb1 := hb1.upd0 hU2
   replace hb1 := blkI hb1 (show nn = ((nn.toNat : Nat) : Int) from by omega)
   refine Wl_v (r_as (v := .int .i64 0) rfl) ?_
   refine Wl_nil ?_
   refine W_seq ?_
   refine W_region ?_
   refine Wl_v (r_mv (v := .int .i64 0) rfl) ?_
   refine Wl_v (v := .bool false) (r_ne (a := 0) (b := 0) rfl rfl) ?_
   refine Wl_nil ?_
   refine W_cond_f rfl ?_
   refine W_skip ?_
   refine W_seq ?_
   refine W_region ?_
   refine Wl_v (r_mv (v := .slice a n c) rfl) ?_
   refine Wl_v (r_mv (v := .slice a2 m d) rfl) ?_
   refine Wl_v (r_mv (v := .slice a2 m d) rfl) ?_
   refine Wl_v (r_len Try.underlying23 rfl) ?_
   refine Wl_v (r_mv (v := .slice a2 m d) rfl) ?_
   refine Wl_v (r_len Try.underlying23 rfl) ?_
   refine Wl_v (r_slice3 (h' := m) (q' := m) Try.underlying23 Try.sizeOf5 rfl rfl rfl (by omega) (by omega) (by omega) (by omega)) ?_
   have hT3 := Sl.recap (q := m) hsb (by omega) (by simp only [maxLen]; omega)
   have hl_hT3 := ilen hT3
   have hc_hT3 := hT3.cap.1
   refine Wl_v (r_mkf1 (v0 := .pointer (some ⟨B1, 0, none⟩)) rfl) ?_
   by_cases q3 : Cl b
   ·by_cases q4 : Gd l b (tbt b) nn.toNat ∧ st l (wn b) (tbt b) nn.toNat = 0
    ·refine Wl_call (r_call3 rfl Try.call45 rfl rfl rfl) (told_d_ok _ hb1 hs (by omega) hT3.any hb (by omega) q1 q3 (by omega) q4) ?_
     rintro v w4 ⟨a4, c4, rfl, hO4, hU4⟩
     have hzw4 := hU4.size
     replace HU := HU.trans0 hU4
     replace hO4 := hO4.tight
     have hl_hO4 := ilen hO4.sl
     have hc_hO4 := hO4.sl.cap.1
     refine Wl_v (r_ext (v := .slice a4 nn.toNat c4) rfl rfl) ?_
     refine Wl_v (r_ext (v := .int .i64 0) rfl rfl) ?_
     refine Wl_v (r_as (v := .slice a4 nn.toNat c4) rfl) ?_
     refine Wl_v (r_as (v := .int .i64 0) rfl) ?_
     refine Wl_nil ?_
     refine W_ret ?_
     refine ret_end (v := .tuple #[.slice a4 nn.toNat c4, .int .i64 0]) rfl (res2 Try.results19 rfl rfl) ?_
     have hF : dcF l b nn = (yms l (wn b) (tbt b) nn.toNat, 0) := by rw [dcF, if_neg (fun h => h q1), if_neg (fun h => h q2), if_neg (fun h => h q3), if_pos q4]
     exact ⟨_, rfl, a4, nn.toNat, c4, (vtup2 rfl (vint (by rw [hF]))), (by rw [hF]; exact (hO4.weak (by intro g hg; have h3 : ((w2.heap.size ≤ g) ∧ g < w4.heap.size) := hg; show w.heap.size ≤ g; omega))), HU⟩
    ·refine Wl_call (r_call3 rfl Try.call45 rfl rfl rfl) (told_d_pan _ hb1 hs (by omega) hT3.any hb (by omega) q1 q3 (by omega) q4) ?_
     rintro v w5 ⟨rfl, hU5⟩
     have hzw5 := hU5.size
     replace HU := HU.trans0 hU5
     refine Wl_v (r_ext (v := .slice none 0 0) rfl rfl) ?_
     refine Wl_v (r_ext (v := .int .i64 14) rfl rfl) ?_
     refine Wl_v (r_as (v := .slice none 0 0) rfl) ?_
     refine Wl_v (r_as (v := .int .i64 14) rfl) ?_
     refine Wl_nil ?_
     refine W_ret ?_
     refine ret_end (v := .tuple #[.slice none 0 0, .int .i64 14]) rfl (res2 Try.results19 rfl rfl) ?_
     have hF : dcF l b nn = ([], 14) := by rw [dcF, if_neg (fun h => h q1), if_neg (fun h => h q2), if_neg (fun h => h q3), if_neg q4]
     exact ⟨_, rfl, none, 0, 0, (vtup2 rfl (vint (by rw [hF]))), (by rw [hF]; exact (Own.nil _ _ 5 1)), HU⟩
   ·refine Wl_call (r_call3 rfl Try.call45 rfl rfl rfl) (told_d_bits _ hs (by omega) hT3.any hb (by omega) q1 q3) ?_
    rintro v w6 ⟨rfl, hU6⟩
    have hzw6 := hU6.size
    replace HU := HU.trans0 hU6
    refine Wl_v (r_ext (v := .slice none 0 0) rfl rfl) ?_
    refine Wl_v (r_ext (v := .int .i64 14) rfl rfl) ?_
    refine Wl_v (r_as (v := .slice none 0 0) rfl) ?_
    refine Wl_v (r_as (v := .int .i64 14) rfl) ?_
    refine Wl_nil ?_
    refine W_ret ?_
    refine ret_end (v := .tuple #[.slice none 0 0, .int .i64 14]) rfl (res2 Try.results19 rfl rfl) ?_
    have hF : dcF l b nn = ([], 14) := by rw [dcF, if_neg (fun h => h q1), if_neg (fun h => h q2), if_pos q3]
    exact ⟨_, rfl, none, 0, 0, (vtup2 rfl (vint (by rw [hF]))), (by rw [hF]; exact (Own.nil _ _ 5 1)), HU⟩
  ·refine Wl_call (r_call2 rfl Try.call44 rfl rfl) (right_arg _ hs (by omega) q1 q2) ?_
   rintro v w7 ⟨rfl, hU7⟩
   have hzw7 := hU7.size
   replace HU := HU.trans0 hU7
   refine Wl_v (r_as (v := .int .i64 2) rfl) ?_
   refine Wl_nil ?_
   refine W_seq ?_
   refine W_region ?_
   refine Wl_v (r_mv (v := .int .i64 2) rfl) ?_
   refine Wl_v (v := .bool true) (r_ne (a := 2) (b := 0) rfl rfl) ?_
   refine Wl_nil ?_
   refine W_cond_t rfl ?_
   refine W_seq ?_
   refine W_region ?_
   refine Wl_v (r_mv (v := .int .i64 2) rfl) ?_
   refine Wl_v (r_as (v := .slice none 0 0) rfl) ?_
   refine Wl_v (r_as (v := .int .i64 2) rfl) ?_
   refine Wl_nil ?_
   refine W_ret ?_
   refine ret_end (v := .tuple #[.slice none 0 0, .int .i64 2]) rfl (res2 Try.results19 rfl rfl) ?_
   have hF : dcF l b nn = ([], 2) := by rw [dcF, if_neg (fun h => h q1), if_pos q2]
   exact ⟨_, rfl, none, 0, 0, (vtup2 rfl (vint (by rw [hF]))), (by rw [hF]; exact (Own.nil _ _ 5 1)), HU⟩
 ·refine Wl_call (r_call2 rfl Try.call44 rfl rfl) (right_tree _ hs (by omega) q1) ?_
  rintro v w8 ⟨rfl, hU8⟩
  have hzw8 := hU8.size
  replace HU := HU.trans0 hU8
  refine Wl_v (r_as (v := .int .i64 12) rfl) ?_
  refine Wl_nil ?_
  refine W_seq ?_
  refine W_region ?_
  refine Wl_v (r_mv (v := .int .i64 12) rfl) ?_
  refine Wl_v (v := .bool true) (r_ne (a := 12) (b := 0) rfl rfl) ?_
  refine Wl_nil ?_
  refine W_cond_t rfl ?_
  refine W_seq ?_
  refine W_region ?_
  refine Wl_v (r_mv (v := .int .i64 12) rfl) ?_
  refine Wl_v (r_as (v := .slice none 0 0) rfl) ?_
  refine Wl_v (r_as (v := .int .i64 12) rfl) ?_
  refine Wl_nil ?_
  refine W_ret ?_
  refine ret_end (v := .tuple #[.slice none 0 0, .int .i64 12]) rfl (res2 Try.results19 rfl rfl) ?_
  have hF : dcF l b nn = ([], 12) := by rw [dcF, if_pos q1]
  exact ⟨_, rfl, none, 0, 0, (vtup2 rfl (vint (by rw [hF]))), (by rw [hF]; exact (Own.nil _ _ 5 1)), HU⟩

set_option maxRecDepth 100000 in
theorem opfx {a a2 : Option Addr} {n c m d : Nat} {l b : List Int} {nn : Int} {R : Nat → Prop} (w : World) (hs : Sl w R 1 (.slice a n c) n (ints .i64 l)) (hn : n ≤ 1000) (hsb : Sl w (fun g => g < w.heap.size) 1 (.slice a2 m d) m (ints .u8 b)) (hb : Byt b) (hm : m ≤ 100000) (hni : -9223372036854775808 ≤ nn ∧ nn ≤ 9223372036854775807) :
  Calls Try.prog 23 #[.slice a n c, .slice a2 m d, .int .i64 nn] w (Ret fun v w' => ∃ (a' : Option Addr) (m' : Nat) (c' : Nat), v = .tuple #[.slice a' m' c', .int .i64 ((pfF l b nn).2)] ∧ Own w' (fun g => w.heap.size ≤ g) 5 1 (.slice a' m' c') m' (ints .u8 ((pfF l b nn).1)) ∧ Upd No w w') := by
 have HU : Upd (fun b => False) w w := Upd.refl _ _
 have hl_hs := ilen hs
 have hc_hs := hs.cap.1
 replace hs := hs.tight
 have hl_hsb := ilen hsb
 have hc_hsb := hsb.cap.1
 refine calls_of_W Try.func23 rfl Try.ntmps23 (by simp) ?_
 refine W_seq ?_
 refine W_region ?_
 refine Wl_box (v := .int .i64 nn) (cs := [.int .i64 nn]) rfl rfl ?_
 intro B1 w1 hB1 hU1 hzz1 hb1
 have hzw1 := hU1.size
 replace hs := hs.upd0 hU1
 replace hsb := hsb.upd0 hU1
 replace HU := HU.trans0 hU1
 refine Wl_v (r_as (v := .slice none 0 0) rfl) ?_
 refine Wl_v (r_as (v := .int .i64 0) rfl) ?_
 refine Wl_nil ?_
 refine W_seq ?_
 refine W_seq ?_
 refine W_region ?_
 refine Wl_v (r_mv (v := .slice a n c) rfl) ?_
 refine Wl_load (v := .int .i64 nn) Try.isAgg3 rfl hb1 rfl ?_
 by_cases q1 : Rt l
 ·by_cases q2 : 0 ≤ nn ∧ nn ≤ 131072
  ·refine Wl_call (r_call2 rfl Try.call44 rfl rfl) (right_ok _ hs (by omega) q1 q2) ?_
   rintro v w2 ⟨rfl, hU2⟩
   have hzw2 := hU2.size
   replace hs := hs.upd0 hU2
   replace hsb := hsb.upd0 hU2
   replace HU := HU.trans0 hU2
   replace hb1 := hb1.upd0 hU2
   replace hb1 := blkI hb1 (show nn = ((nn.toNat : Nat) : Int) from by omega)
   refine Wl_v (r_as (v := .int .i64 0) rfl) ?_
   refine Wl_nil ?_
   refine W_seq ?_
   refine W_region ?_
   refine Wl_v (r_mv (v := .int .i64 0) rfl) ?_
   refine Wl_v (v := .bool false) (r_ne (a := 0) (b := 0) rfl rfl) ?_
   refine Wl_nil ?_
   refine W_cond_f rfl ?_
   refine W_skip ?_
   refine W_seq ?_
   refine W_region ?_
   refine Wl_v (r_mv (v := .slice a n c) rfl) ?_
   refine Wl_v (r_mv (v := .slice a2 m d) rfl) ?_
   refine Wl_v (r_mkf1 (v0 := .pointer (some ⟨B1, 0, none⟩)) rfl) ?_
   by_cases q3 : Cl b
   ·by_cases q4 : Gd l b (tbt b) nn.toNat
    ·refine Wl_call (r_call3 rfl Try.call45 rfl rfl rfl) (told_p_ok _ hb1 hs (by omega) hsb.any hb (by omega) q1 q3 (by omega) q4) ?_
     rintro v w3 ⟨a3, c3, rfl, hO3, hU3⟩
     have hzw3 := hU3.size
     replace HU := HU.trans0 hU3
     replace hO3 := hO3.tight
     have hl_hO3 := ilen hO3.sl
     have hc_hO3 := hO3.sl.cap.1
     refine Wl_v (r_ext (v := .slice a3 nn.toNat c3) rfl rfl) ?_
     refine Wl_v (r_ext (v := .int .i64 0) rfl rfl) ?_
     refine Wl_v (r_as (v := .slice a3 nn.toNat c3) rfl) ?_
     refine Wl_v (r_as (v := .int .i64 0) rfl) ?_
     refine Wl_nil ?_
     refine W_ret ?_
     refine ret_end (v := .tuple #[.slice a3 nn.toNat c3, .int .i64 0]) rfl (res2 Try.results23 rfl rfl) ?_
     have hF : pfF l b nn = (yms l (wn b) (tbt b) nn.toNat, 0) := by rw [pfF, if_neg (fun h => h q1), if_neg (fun h => h q2), if_neg (fun h => h q3), if_pos q4]
     exact ⟨_, rfl, a3, nn.toNat, c3, (vtup2 rfl (vint (by rw [hF]))), (by rw [hF]; exact (hO3.weak (by intro g hg; have h3 : ((w2.heap.size ≤ g) ∧ g < w3.heap.size) := hg; show w.heap.size ≤ g; omega))), HU⟩
    ·refine Wl_call (r_call3 rfl Try.call45 rfl rfl rfl) (told_p_pan _ hb1 hs (by omega) hsb.any hb (by omega) q1 q3 (by omega) q4) ?_
     rintro v w4 ⟨rfl, hU4⟩
     have hzw4 := hU4.size
     replace HU := HU.trans0 hU4
     refine Wl_v (r_ext (v := .slice none 0 0) rfl rfl) ?_
     refine Wl_v (r_ext (v := .int .i64 14) rfl rfl) ?_
     refine Wl_v (r_as (v := .slice none 0 0) rfl) ?_
     refine Wl_v (r_as (v := .int .i64 14) rfl) ?_
     refine Wl_nil ?_
     refine W_ret ?_
     refine ret_end (v := .tuple #[.slice none 0 0, .int .i64 14]) rfl (res2 Try.results23 rfl rfl) ?_
     have hF : pfF l b nn = ([], 14) := by rw [pfF, if_neg (fun h => h q1), if_neg (fun h => h q2), if_neg (fun h => h q3), if_neg q4]
     exact ⟨_, rfl, none, 0, 0, (vtup2 rfl (vint (by rw [hF]))), (by rw [hF]; exact (Own.nil _ _ 5 1)), HU⟩
   ·refine Wl_call (r_call3 rfl Try.call45 rfl rfl rfl) (told_p_bits _ hs (by omega) hsb.any hb (by omega) q1 q3) ?_
    rintro v w5 ⟨rfl, hU5⟩
    have hzw5 := hU5.size
    replace HU := HU.trans0 hU5
    refine Wl_v (r_ext (v := .slice none 0 0) rfl rfl) ?_
    refine Wl_v (r_ext (v := .int .i64 14) rfl rfl) ?_
    refine Wl_v (r_as (v := .slice none 0 0) rfl) ?_
    refine Wl_v (r_as (v := .int .i64 14) rfl) ?_
    refine Wl_nil ?_
    refine W_ret ?_
    refine ret_end (v := .tuple #[.slice none 0 0, .int .i64 14]) rfl (res2 Try.results23 rfl rfl) ?_
    have hF : pfF l b nn = ([], 14) := by rw [pfF, if_neg (fun h => h q1), if_neg (fun h => h q2), if_pos q3]
    exact ⟨_, rfl, none, 0, 0, (vtup2 rfl (vint (by rw [hF]))), (by rw [hF]; exact (Own.nil _ _ 5 1)), HU⟩
  ·refine Wl_call (r_call2 rfl Try.call44 rfl rfl) (right_arg _ hs (by omega) q1 q2) ?_
   rintro v w6 ⟨rfl, hU6⟩
   have hzw6 := hU6.size
   replace HU := HU.trans0 hU6
   refine Wl_v (r_as (v := .int .i64 2) rfl) ?_
   refine Wl_nil ?_
   refine W_seq ?_
   refine W_region ?_
   refine Wl_v (r_mv (v := .int .i64 2) rfl) ?_
   refine Wl_v (v := .bool true) (r_ne (a := 2) (b := 0) rfl rfl) ?_
   refine Wl_nil ?_
   refine W_cond_t rfl ?_
   refine W_seq ?_
   refine W_region ?_
   refine Wl_v (r_mv (v := .int .i64 2) rfl) ?_
   refine Wl_v (r_as (v := .slice none 0 0) rfl) ?_
   refine Wl_v (r_as (v := .int .i64 2) rfl) ?_
   refine Wl_nil ?_
   refine W_ret ?_
   refine ret_end (v := .tuple #[.slice none 0 0, .int .i64 2]) rfl (res2 Try.results23 rfl rfl) ?_
   have hF : pfF l b nn = ([], 2) := by rw [pfF, if_neg (fun h => h q1), if_pos q2]
   exact ⟨_, rfl, none, 0, 0, (vtup2 rfl (vint (by rw [hF]))), (by rw [hF]; exact (Own.nil _ _ 5 1)), HU⟩
 ·refine Wl_call (r_call2 rfl Try.call44 rfl rfl) (right_tree _ hs (by omega) q1) ?_
  rintro v w7 ⟨rfl, hU7⟩
  have hzw7 := hU7.size
  replace HU := HU.trans0 hU7
  refine Wl_v (r_as (v := .int .i64 12) rfl) ?_
  refine Wl_nil ?_
  refine W_seq ?_
  refine W_region ?_
  refine Wl_v (r_mv (v := .int .i64 12) rfl) ?_
  refine Wl_v (v := .bool true) (r_ne (a := 12) (b := 0) rfl rfl) ?_
  refine Wl_nil ?_
  refine W_cond_t rfl ?_
  refine W_seq ?_
  refine W_region ?_
  refine Wl_v (r_mv (v := .int .i64 12) rfl) ?_
  refine Wl_v (r_as (v := .slice none 0 0) rfl) ?_
  refine Wl_v (r_as (v := .int .i64 12) rfl) ?_
  refine Wl_nil ?_
  refine W_ret ?_
  refine ret_end (v := .tuple #[.slice none 0 0, .int .i64 12]) rfl (res2 Try.results23 rfl rfl) ?_
  have hF : pfF l b nn = ([], 12) := by rw [pfF, if_pos q1]
  exact ⟨_, rfl, none, 0, 0, (vtup2 rfl (vint (by rw [hF]))), (by rw [hF]; exact (Own.nil _ _ 5 1)), HU⟩

set_option maxRecDepth 100000 in
theorem octs {a a2 : Option Addr} {n c m d : Nat} {l b : List Int} {R : Nat → Prop} (w : World) (hs : Sl w R 1 (.slice a n c) n (ints .i64 l)) (hn : n ≤ 1000) (hsb : Sl w (fun g => g < w.heap.size) 1 (.slice a2 m d) m (ints .u8 b)) (hb : Byt b) (hm : m ≤ 100000) :
  Calls Try.prog 21 #[.slice a n c, .slice a2 m d] w (Ret fun v w' => v = .tuple #[.int .i64 ((ctF l b).1), .int .i64 ((ctF l b).2)] ∧ Upd No w w') := by
 have HU : Upd (fun b => False) w w := Upd.refl _ _
 have hl_hs := ilen hs
 have hc_hs := hs.cap.1
 replace hs := hs.tight
 have hl_hsb := ilen hsb
 have hc_hsb := hsb.cap.1
 refine calls_of_W Try.func21 rfl Try.ntmps21 (by simp) ?_
 refine W_seq ?_
 refine W_region ?_
 refine Wl_v (r_as (v := .int .i64 0) rfl) ?_
 refine Wl_v (r_as (v := .int .i64 0) rfl) ?_
 refine Wl_nil ?_
 refine W_seq ?_
 refine W_region ?_
 refine Wl_v (r_mv (v := .slice a n c) rfl) ?_
 refine Wl_v (r_mv (v := .slice a2 m d) rfl) ?_
 by_cases q1 : Rt l
 ·by_cases q2 : Cl b
  ·by_cases q3 : st l (wn b) (tbt b) (nb l (wn b) (tbt b)) = 0
   ·refine Wl_call (r_call3 rfl Try.call50 rfl rfl rfl) (told_c_ok _ hs (by omega) hsb.any hb (by omega) q1 q2 q3) ?_
    rintro v w1 ⟨rfl, hU1⟩
    have hzw1 := hU1.size
    replace HU := HU.trans0 hU1
    refine Wl_v (r_ext (v := .int .i64 ((nb l (wn b) (tbt b) : Nat) : Int)) rfl rfl) ?_
    refine Wl_v (r_ext (v := .int .i64 0) rfl rfl) ?_
    refine Wl_v (r_as (v := .int .i64 ((nb l (wn b) (tbt b) : Nat) : Int)) rfl) ?_
    refine Wl_v (r_as (v := .int .i64 0) rfl) ?_
    refine Wl_nil ?_
    refine W_ret ?_
    refine ret_end (v := .tuple #[.int .i64 ((nb l (wn b) (tbt b) : Nat) : Int), .int .i64 0]) rfl (res2 Try.results21 rfl rfl) ?_
    have hF : ctF l b = (((nb l (wn b) (tbt b) : Nat) : Int), 0) := by rw [ctF, if_neg (fun h => h q1), if_neg (fun h => h q2), if_pos q3]
    exact ⟨_, rfl, (vtup2 (vint (by rw [hF])) (vint (by rw [hF]))), HU⟩
   ·refine Wl_call (r_call3 rfl Try.call50 rfl rfl rfl) (told_c_pan _ hs (by omega) hsb.any hb (by omega) q1 q2 q3) ?_
    rintro v w2 ⟨rfl, hU2⟩
    have hzw2 := hU2.size
    replace HU := HU.trans0 hU2
    refine Wl_v (r_ext (v := .int .i64 0) rfl rfl) ?_
    refine Wl_v (r_ext (v := .int .i64 14) rfl rfl) ?_
    refine Wl_v (r_as (v := .int .i64 0) rfl) ?_
    refine Wl_v (r_as (v := .int .i64 14) rfl) ?_
    refine Wl_nil ?_
    refine W_ret ?_
    refine ret_end (v := .tuple #[.int .i64 0, .int .i64 14]) rfl (res2 Try.results21 rfl rfl) ?_
    have hF : ctF l b = (0, 14) := by rw [ctF, if_neg (fun h => h q1), if_neg (fun h => h q2), if_neg q3]
    exact ⟨_, rfl, (vtup2 (vint (by rw [hF])) (vint (by rw [hF]))), HU⟩
  ·refine Wl_call (r_call3 rfl Try.call50 rfl rfl rfl) (told_c_bits _ hs (by omega) hsb.any hb (by omega) q1 q2) ?_
   rintro v w3 ⟨rfl, hU3⟩
   have hzw3 := hU3.size
   replace HU := HU.trans0 hU3
   refine Wl_v (r_ext (v := .int .i64 0) rfl rfl) ?_
   refine Wl_v (r_ext (v := .int .i64 14) rfl rfl) ?_
   refine Wl_v (r_as (v := .int .i64 0) rfl) ?_
   refine Wl_v (r_as (v := .int .i64 14) rfl) ?_
   refine Wl_nil ?_
   refine W_ret ?_
   refine ret_end (v := .tuple #[.int .i64 0, .int .i64 14]) rfl (res2 Try.results21 rfl rfl) ?_
   have hF : ctF l b = (0, 14) := by rw [ctF, if_neg (fun h => h q1), if_pos q2]
   exact ⟨_, rfl, (vtup2 (vint (by rw [hF])) (vint (by rw [hF]))), HU⟩
 ·refine Wl_call (r_call3 rfl Try.call50 rfl rfl rfl) (told_c_tree _ hs (by omega) hsb.any hb (by omega) q1) ?_
  rintro v w4 ⟨rfl, hU4⟩
  have hzw4 := hU4.size
  replace HU := HU.trans0 hU4
  refine Wl_v (r_ext (v := .int .i64 0) rfl rfl) ?_
  refine Wl_v (r_ext (v := .int .i64 12) rfl rfl) ?_
  refine Wl_v (r_as (v := .int .i64 0) rfl) ?_
  refine Wl_v (r_as (v := .int .i64 12) rfl) ?_
  refine Wl_nil ?_
  refine W_ret ?_
  refine ret_end (v := .tuple #[.int .i64 0, .int .i64 12]) rfl (res2 Try.results21 rfl rfl) ?_
  have hF : ctF l b = (0, 12) := by rw [ctF, if_pos q1]
  exact ⟨_, rfl, (vtup2 (vint (by rw [hF])) (vint (by rw [hF]))), HU⟩

end Go.Proofs.Ytilegaokfamfnaa
