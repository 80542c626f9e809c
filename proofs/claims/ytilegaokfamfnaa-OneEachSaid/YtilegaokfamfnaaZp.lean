/-
 Walks, printed by a small program of this project (gen.py).
-/
import Derived.Test.YtilegaokfamfnaaZl
set_option linter.unusedVariables false
set_option linter.unusedSimpArgs false
namespace Go.Proofs.Ytilegaokfamfnaa
open Go.Fw

theorem oall1_emp {ly Bl Bb : Nat} {J : Nat → World → Prop} {Jx : World → Prop} (w : World) (h : Calls Try.prog 61 #[.func (.yield ly) #[] #[], .pointer (some ⟨Bl, 0, none⟩), .pointer (some ⟨Bb, 0, none⟩)] w (Ret fun v w' => v = .tuple #[] ∧ Upd No w w')) (hJ0 : J 0 w) (hJS : ∀ (j : Nat) (w w' : World), J j w → Upd No w w' → J j w')
  (hy : ∀ j w, j < 0 → J j w → YieldC Try.prog ly #[.int .i64 0, .int .u8 0] w (fun e w' => (e = .returned (.bool true) ∧ (Upd No w w' ∧ J (j + 1) w')) ∨ (e = .returned (.bool false) ∧ Jx w'))) :
  Calls Try.prog 61 #[.func (.yield ly) #[] #[], .pointer (some ⟨Bl, 0, none⟩), .pointer (some ⟨Bb, 0, none⟩)] w (Ret fun v w' => J 0 w' ∨ Jx w') :=
 h.mono fun e w' ⟨v, he, hv, hu⟩ => ⟨v, he, .inl (hJS _ _ _ hJ0 hu)⟩

set_option maxHeartbeats 4000000 in
set_option maxRecDepth 100000 in
theorem oneeach {a a2 : Option Addr} {n c m d : Nat} {l b : List Int} {many : Int} (w : World) (hs : Sl w (fun g => g < w.heap.size) 1 (.slice a n c) n (ints .i64 l)) (hn : n ≤ 17592186044415) (hsb : Sl w (fun g => g < w.heap.size) 1 (.slice a2 m d) m (ints .u8 b)) (hb : Byt b) (hm : m ≤ 140737488351232) (rmany : -9223372036854775808 ≤ many ∧ many ≤ 9223372036854775807) :
  Calls Try.prog 9 #[.slice a n c, .slice a2 m d, .int .i64 many] w (Ret fun v w' => v = .bool true ∧ Upd No w w') := by
 have HU : Upd (fun b => False) w w := Upd.refl _ _
 have hl_hs := ilen hs
 have hc_hs := hs.cap.1
 have hl_hsb := ilen hsb
 have hc_hsb := hsb.cap.1
 refine calls_of_W Try.func9 rfl Try.ntmps9 (by simp) ?_
 refine W_seq ?_
 refine W_region ?_
 refine Wl_box (v := .int .i64 many) (cs := [.int .i64 many]) rfl rfl ?_
 intro B1 w1 hB1 hU1 hzz1 hb1
 have hzw1 := hU1.size
 replace hs := hs.upd0 hU1
 replace hsb := hsb.upd0 hU1
 replace HU := HU.trans0 hU1
 refine Wl_alloc (cs := [.bool false]) Try.zeroValue4 rfl ?_
 intro B2 w2 hB2 hU2 hzz2 hb2
 have hzw2 := hU2.size
 replace hs := hs.upd0 hU2
 replace hsb := hsb.upd0 hU2
 replace HU := HU.trans0 hU2
 replace hb1 := hb1.upd0 hU2
 refine Wl_nil ?_
 refine W_seq ?_
 refine W_seq ?_
 refine W_region ?_
 refine Wl_v (r_mv (v := .slice a n c) rfl) ?_
 refine Wl_v (r_len Try.underlying22 rfl) ?_
 refine Wl_v (r_gt rfl rfl) ?_
 refine Wl_v (r_mv (v := .bool (decide (300 < ((n : Nat) : Int)))) rfl) ?_
 by_cases q1 : 300 < ((n : Nat) : Int)
 ·rw [decide_eq_true q1]
  refine Wl_guard_f rfl ?_
  refine Wl_guard_f rfl ?_
  refine Wl_guard_f rfl ?_
  refine Wl_v (r_pick_t (v := .bool true) rfl rfl) ?_
  refine Wl_nil ?_
  refine W_cond_t rfl ?_
  refine W_seq ?_
  refine W_region ?_
  refine Wl_call (r_call0 rfl Try.call11 ) (works17 _ ) ?_
  rintro v w3 ⟨rfl, hU3⟩
  have hzw3 := hU3.size
  replace HU := HU.trans0 hU3
  replace hb2 := hb2.upd0 hU3
  refine Wl_store (v := .bool true) (cs' := [.bool true]) Try.sizeOf4 rfl rfl rfl rfl hb2 rfl rfl ?_
  intro w4 hU4 hzz4 hb2n
  replace hb2 := hb2n; clear hb2n
  have hzw4 := hU4.size
  replace HU := HU.trans1 hU4 (by show (False) ∨ w.heap.size ≤ B2; omega)
  refine Wl_nil ?_
  refine W_ret ?_
  refine ret_end (v := .bool true) rfl (rc1 Try.results9 rfl (cellIs Try.isAgg4 hb2)) ?_
  exact ⟨_, rfl, rfl, HU⟩
 ·rw [decide_eq_false q1]
  refine Wl_guard_t rfl ?_
  refine Wl_v (r_mv (v := .slice a2 m d) rfl) ?_
  refine Wl_guard_t rfl ?_
  refine Wl_v (r_len Try.underlying23 rfl) ?_
  refine Wl_guard_t rfl ?_
  refine Wl_v (r_gt rfl rfl) ?_
  refine Wl_v (r_pick_f (v := .bool (decide (200 < ((m : Nat) : Int)))) rfl rfl) ?_
  refine Wl_nil ?_
  by_cases q2 : 200 < ((m : Nat) : Int)
  ·rw [decide_eq_true q2]
   refine W_cond_t rfl ?_
   refine W_seq ?_
   refine W_region ?_
   refine Wl_call (r_call0 rfl Try.call11 ) (works17 _ ) ?_
   rintro v w5 ⟨rfl, hU5⟩
   have hzw5 := hU5.size
   replace HU := HU.trans0 hU5
   replace hb2 := hb2.upd0 hU5
   refine Wl_store (v := .bool true) (cs' := [.bool true]) Try.sizeOf4 rfl rfl rfl rfl hb2 rfl rfl ?_
   intro w6 hU6 hzz6 hb2n
   replace hb2 := hb2n; clear hb2n
   have hzw6 := hU6.size
   replace HU := HU.trans1 hU6 (by show (False) ∨ w.heap.size ≤ B2; omega)
   refine Wl_nil ?_
   refine W_ret ?_
   refine ret_end (v := .bool true) rfl (rc1 Try.results9 rfl (cellIs Try.isAgg4 hb2)) ?_
   exact ⟨_, rfl, rfl, HU⟩
  ·rw [decide_eq_false q2]
   refine W_cond_f rfl ?_
   refine W_skip ?_
   refine W_seq ?_
   refine W_region ?_
   refine Wl_alloc (cs := [.slice none 0 0]) Try.zeroValue23 rfl ?_
   intro B7 w7 hB7 hU7 hzz7 hb7
   have hzw7 := hU7.size
   replace hs := hs.upd0 hU7
   replace hsb := hsb.upd0 hU7
   replace HU := HU.trans0 hU7
   replace hb1 := hb1.upd0 hU7
   replace hb2 := hb2.upd0 hU7
   refine Wl_nil ?_
   refine W_seq ?_
   refine W_region ?_
   refine Wl_alloc (cs := [.slice none 0 0]) Try.zeroValue22 rfl ?_
   intro B8 w8 hB8 hU8 hzz8 hb8
   have hzw8 := hU8.size
   replace hs := hs.upd0 hU8
   replace hsb := hsb.upd0 hU8
   replace HU := HU.trans0 hU8
   replace hb1 := hb1.upd0 hU8
   replace hb2 := hb2.upd0 hU8
   replace hb7 := hb7.upd0 hU8
   refine Wl_nil ?_
   refine W_seq ?_
   refine W_seq ?_
   refine W_region ?_
   refine Wl_v (r_mv (v := .slice a n c) rfl) ?_
   refine Wl_call (r_call1 rfl Try.call26 rfl) (rright_spec _ hs (by omega)) ?_
   rintro v w9 ⟨rfl, hU9⟩
   have hzw9 := hU9.size
   replace hs := hs.upd0 hU9
   replace hsb := hsb.upd0 hU9
   replace HU := HU.trans0 hU9
   replace hb1 := hb1.upd0 hU9
   replace hb2 := hb2.upd0 hU9
   replace hb7 := hb7.upd0 hU9
   replace hb8 := hb8.upd0 hU9
   refine Wl_nil ?_
   by_cases q3 : Rt l
   ·rw [decide_eq_true q3]
    refine W_cond_t rfl ?_
    refine W_region ?_
    refine Wl_v (r_mv (v := .slice a n c) rfl) ?_
    refine Wl_v (r_mv (v := .slice a2 m d) rfl) ?_
    by_cases q4 : Cl b
    ·refine Wl_call (r_call2 rfl Try.call28 rfl rfl) (reach_ok _ hs (by omega) hsb.any hb (by omega) q3 q4) ?_
     rintro v w10 ⟨a10, c10, e10, f10, rfl, hO10, hP10, hU10⟩
     have hzw10 := hU10.size
     replace hs := hs.upd0 hU10
     replace hsb := hsb.upd0 hU10
     replace HU := HU.trans0 hU10
     replace hb1 := hb1.upd0 hU10
     replace hb2 := hb2.upd0 hU10
     replace hb7 := hb7.upd0 hU10
     replace hb8 := hb8.upd0 hU10
     replace hO10 := hO10.tight
     have hl_hO10 := ilen hO10.sl
     have hc_hO10 := hO10.sl.cap.1
     replace hP10 := hP10.tight
     have hl_hP10 := ilen hP10.sl
     have hc_hP10 := hP10.sl.cap.1
     have hnbq := (nb_spec q3 (wn b) (tbt b)).2.2
     have htbq := (cl_bd hb q4).2.2.2
     refine Wl_v (r_mv (v := .tuple #[.slice a10 (nb l (wn b) (tbt b)) c10, .slice e10 (nb l (wn b) (tbt b)) f10, .bool (decide (st l (wn b) (tbt b) (nb l (wn b) (tbt b)) = 0))]) rfl) ?_
     refine Wl_v (r_ext (v := .slice a10 (nb l (wn b) (tbt b)) c10) rfl rfl) ?_
     refine Wl_v (r_ext (v := .slice e10 (nb l (wn b) (tbt b)) f10) rfl rfl) ?_
     refine Wl_v (r_ext (v := .bool (decide (st l (wn b) (tbt b) (nb l (wn b) (tbt b)) = 0))) rfl rfl) ?_
     refine Wl_store (v := .slice a10 (nb l (wn b) (tbt b)) c10) (cs' := [.slice a10 (nb l (wn b) (tbt b)) c10]) Try.sizeOf23 rfl rfl rfl rfl hb7 rfl rfl ?_
     intro w11 hU11 hzz11 hb7n
     replace hb7 := hb7n; clear hb7n
     have hzw11 := hU11.size
     replace hs := hs.upd1 hU11 (by intro h1; have h3 : B7 < w.heap.size := h1; omega)
     replace hsb := hsb.upd1 hU11 (by intro h1; have h3 : B7 < w.heap.size := h1; omega)
     replace HU := HU.trans1 hU11 (by show (False) ∨ w.heap.size ≤ B7; omega)
     replace hb1 := hb1.upd1 hU11 (by omega)
     replace hb2 := hb2.upd1 hU11 (by omega)
     replace hb8 := hb8.upd1 hU11 (by omega)
     replace hO10 := hO10.upd1 hU11 (by intro h1; have h3 : ((w9.heap.size ≤ B7) ∧ B7 < w10.heap.size) := h1; omega)
     replace hP10 := hP10.upd1 hU11 (by intro h1; have h3 : ((w9.heap.size ≤ B7) ∧ B7 < w10.heap.size) := h1; omega)
     refine Wl_store (v := .slice e10 (nb l (wn b) (tbt b)) f10) (cs' := [.slice e10 (nb l (wn b) (tbt b)) f10]) Try.sizeOf22 rfl rfl rfl rfl hb8 rfl rfl ?_
     intro w12 hU12 hzz12 hb8n
     replace hb8 := hb8n; clear hb8n
     have hzw12 := hU12.size
     replace hs := hs.upd1 hU12 (by intro h1; have h3 : B8 < w.heap.size := h1; omega)
     replace hsb := hsb.upd1 hU12 (by intro h1; have h3 : B8 < w.heap.size := h1; omega)
     replace HU := HU.trans1 hU12 (by show (False) ∨ w.heap.size ≤ B8; omega)
     replace hb1 := hb1.upd1 hU12 (by omega)
     replace hb2 := hb2.upd1 hU12 (by omega)
     replace hb7 := hb7.upd1 hU12 (by omega)
     replace hO10 := hO10.upd1 hU12 (by intro h1; have h3 : ((w9.heap.size ≤ B8) ∧ B8 < w10.heap.size) := h1; omega)
     replace hP10 := hP10.upd1 hU12 (by intro h1; have h3 : ((w9.heap.size ≤ B8) ∧ B8 < w10.heap.size) := h1; omega)
     refine Wl_nil ?_
     refine W_seq ?_
     refine W_region ?_
     refine Wl_lit0 Try.underlying23 Try.sizeOf5 ?_
     intro B13 w13 hB13 hU13 hzz13 hs13
     have hzw13 := hU13.size
     replace hs := hs.upd0 hU13
     replace hsb := hsb.upd0 hU13
     replace HU := HU.trans0 hU13
     replace hb1 := hb1.upd0 hU13
     replace hb2 := hb2.upd0 hU13
     replace hb7 := hb7.upd0 hU13
     replace hb8 := hb8.upd0 hU13
     replace hO10 := hO10.upd0 hU13
     replace hP10 := hP10.upd0 hU13
     refine Wl_v (r_mv (v := .slice a2 m d) rfl) ?_
     refine Wl_appendi (xs := []) (ys := b) (zs := b) (k' := .u8) (tot := m) (by first | rfl | exact (rows_app _ _).symm | simp) Try.underlying23 (ti := Try.t5) (z := .int .u8 0) (sz := 1) (by' := 1) rfl rfl rfl rfl rfl (by decide) rfl hs13 rfl hsb  (by omega) (by simp only [maxLen]; omega) (by omega) ?_
     intro a14 c14 w14 hU14 hzz14 hO14
     clear hs13
     have hzw14 := hU14.size
     replace hs := hs.upd hU14 (by intro x h1 h2; have h3 : x < w.heap.size := h1; have h4 : x = B13 := h2; omega)
     replace HU := HU.trans hU14 (by intro x hx; have hx2 : x = B13 := hx; show (False) ∨ w.heap.size ≤ x; omega)
     replace hb1 := hb1.upd hU14 (by intro hx; have hx2 : B1 = B13 := hx; omega)
     replace hb2 := hb2.upd hU14 (by intro hx; have hx2 : B2 = B13 := hx; omega)
     replace hb7 := hb7.upd hU14 (by intro hx; have hx2 : B7 = B13 := hx; omega)
     replace hb8 := hb8.upd hU14 (by intro hx; have hx2 : B8 = B13 := hx; omega)
     replace hO10 := hO10.upd hU14 (by intro x h1 h2; have h3 : ((w9.heap.size ≤ x) ∧ x < w10.heap.size) := h1; have h4 : x = B13 := h2; omega)
     replace hP10 := hP10.upd hU14 (by intro x h1 h2; have h3 : ((w9.heap.size ≤ x) ∧ x < w10.heap.size) := h1; have h4 : x = B13 := h2; omega)
     replace hO14 := hO14.tight
     have hl_hO14 := ilen hO14.sl
     have hc_hO14 := hO14.sl.cap.1
     refine Wl_v (r_as (v := .slice a14 m c14) rfl) ?_
     refine Wl_nil ?_
     refine W_seq ?_
     refine W_region ?_
     refine Wl_v (r_mv (v := .slice a n c) rfl) ?_
     refine Wl_v (r_mv (v := .slice a14 m c14) rfl) ?_
     refine Wl_call (r_call2 rfl Try.call29 rfl rfl) (oall_spec _ hs.any (by omega) hO14.sl.any (by omega)) ?_
     rintro v w15 ⟨Bl15, Bb15, a15, c15, e15, f15, rfl, hBl15, hBb15, hO15, hP15, hb1_15, hU15⟩
     have hzw15 := hU15.size
     replace HU := HU.trans0 hU15
     replace hb1 := hb1.upd0 hU15
     replace hb2 := hb2.upd0 hU15
     replace hb7 := hb7.upd0 hU15
     replace hb8 := hb8.upd0 hU15
     replace hO10 := hO10.upd0 hU15
     replace hP10 := hP10.upd0 hU15
     replace hO14 := hO14.upd0 hU15
     have hbl_hBl15 := hBl15.lt
     have hbl_hBb15 := hBb15.lt
     replace hO15 := hO15.tight
     have hl_hO15 := ilen hO15.sl
     have hc_hO15 := hO15.sl.cap.1
     replace hP15 := hP15.tight
     have hl_hP15 := ilen hP15.sl
     have hc_hP15 := hP15.sl.cap.1
     refine Wl_v (r_as (v := .func (.func 61) #[] #[.pointer (some ⟨Bl15, 0, none⟩), .pointer (some ⟨Bb15, 0, none⟩)]) rfl) ?_
     refine Wl_nil ?_
     refine W_seq ?_
     refine W_seq ?_
     refine W_region ?_
     refine Wl_v (r_mv (v := .func (.func 61) #[] #[.pointer (some ⟨Bl15, 0, none⟩), .pointer (some ⟨Bb15, 0, none⟩)]) rfl) ?_
     refine Wl_v (r_eqfn_s Try.underlying46 rfl rfl) ?_
     refine Wl_nil ?_
     refine W_cond_f rfl ?_
     refine W_skip ?_
     refine W_seq ?_
     refine W_seq ?_
     refine W_region ?_
     refine Wl_v (r_as (v := .int .i64 0) rfl) ?_
     refine Wl_nil ?_
     refine W_block ?_
     refine W_loop (fun mu ρ ds w' => ∃ (k : Nat) (ys : List Int), m - k = mu ∧ ds = [] ∧ Liv ρ [(5, .pointer (some ⟨B1, 0, none⟩)), (6, .pointer (some ⟨B2, 0, none⟩)), (7, .pointer (some ⟨B7, 0, none⟩)), (8, .pointer (some ⟨B8, 0, none⟩)), (9, .slice a14 m c14), (10, .func (.func 61) #[] #[.pointer (some ⟨Bl15, 0, none⟩), .pointer (some ⟨Bb15, 0, none⟩)]), (11, .int .i64 ((k : Nat) : Int))] ∧ k ≤ m ∧ Own w' (fun g => ((((g = B13) ∨ g = w13.heap.size)) ∧ g < w14.heap.size)) 5 1 (.slice a14 m c14) m (ints .u8 ys) ∧ Upd (fun g => ((((g = B13) ∨ g = w13.heap.size)) ∧ g < w14.heap.size)) w15 w') _ ⟨0, b, rfl, rfl, ⟨rfl, rfl, rfl, rfl, rfl, rfl, (by first | rfl | exact vint (by omega) | exact vint (by simp)), trivial⟩, (by omega), hO14, Upd.refl _ _⟩ ?_
     rintro m16 ρ16 ds16 w16 ⟨k, ys, rfl, rfl, hl16, hk, hO14, hU16⟩
     obtain ⟨ρ16x, rfl⟩ : ∃ ρx, ρ16 = upds ρx [(5, .pointer (some ⟨B1, 0, none⟩)), (6, .pointer (some ⟨B2, 0, none⟩)), (7, .pointer (some ⟨B7, 0, none⟩)), (8, .pointer (some ⟨B8, 0, none⟩)), (9, .slice a14 m c14), (10, .func (.func 61) #[] #[.pointer (some ⟨Bl15, 0, none⟩), .pointer (some ⟨Bb15, 0, none⟩)]), (11, .int .i64 ((k : Nat) : Int))] := ⟨_, upds_self hl16⟩
     clear hl16
     have hzw16 := hU16.size
     replace HU := HU.trans hU16 (by intro x hx; have hx2 : ((((x = B13) ∨ x = w13.heap.size)) ∧ x < w14.heap.size) := hx; show (False) ∨ w.heap.size ≤ x; omega)
     replace hb1 := hb1.upd hU16 (by intro hx; have hx2 : ((((B1 = B13) ∨ B1 = w13.heap.size)) ∧ B1 < w14.heap.size) := hx; omega)
     replace hb2 := hb2.upd hU16 (by intro hx; have hx2 : ((((B2 = B13) ∨ B2 = w13.heap.size)) ∧ B2 < w14.heap.size) := hx; omega)
     replace hb7 := hb7.upd hU16 (by intro hx; have hx2 : ((((B7 = B13) ∨ B7 = w13.heap.size)) ∧ B7 < w14.heap.size) := hx; omega)
     replace hb8 := hb8.upd hU16 (by intro hx; have hx2 : ((((B8 = B13) ∨ B8 = w13.heap.size)) ∧ B8 < w14.heap.size) := hx; omega)
     replace hO10 := hO10.upd hU16 (by intro x h1 h2; have h3 : ((w9.heap.size ≤ x) ∧ x < w10.heap.size) := h1; have h4 : ((((x = B13) ∨ x = w13.heap.size)) ∧ x < w14.heap.size) := h2; omega)
     replace hP10 := hP10.upd hU16 (by intro x h1 h2; have h3 : ((w9.heap.size ≤ x) ∧ x < w10.heap.size) := h1; have h4 : ((((x = B13) ∨ x = w13.heap.size)) ∧ x < w14.heap.size) := h2; omega)
     replace hBl15 := hBl15.upd hU16 (by intro hx; have hx2 : ((((Bl15 = B13) ∨ Bl15 = w13.heap.size)) ∧ Bl15 < w14.heap.size) := hx; omega)
     replace hBb15 := hBb15.upd hU16 (by intro hx; have hx2 : ((((Bb15 = B13) ∨ Bb15 = w13.heap.size)) ∧ Bb15 < w14.heap.size) := hx; omega)
     replace hO15 := hO15.upd hU16 (by intro x h1 h2; have h3 : ((w14.heap.size ≤ x) ∧ x < w15.heap.size) := h1; have h4 : ((((x = B13) ∨ x = w13.heap.size)) ∧ x < w14.heap.size) := h2; omega)
     replace hP15 := hP15.upd hU16 (by intro x h1 h2; have h3 : ((w14.heap.size ≤ x) ∧ x < w15.heap.size) := h1; have h4 : ((((x = B13) ∨ x = w13.heap.size)) ∧ x < w14.heap.size) := h2; omega)
     have HL16 := hU16
     refine W_seq ?_
     refine W_seq ?_
     refine W_region ?_
     refine Wl_v (r_mv (v := .int .i64 ((k : Nat) : Int)) rfl) ?_
     refine Wl_v (r_mv (v := .slice a14 m c14) rfl) ?_
     refine Wl_v (r_len Try.underlying23 rfl) ?_
     refine Wl_v (r_lt rfl rfl) ?_
     refine Wl_nil ?_
     by_cases q5 : ((k : Nat) : Int) < ((m : Nat) : Int)
     ·rw [decide_eq_true q5]
      refine W_cond_t rfl ?_
      refine W_skip ?_
      refine W_seq ?_
      refine W_block ?_
      refine W_region ?_
      refine Wl_v (r_mv (v := .slice a14 m c14) rfl) ?_
      refine Wl_v (r_mv (v := .int .i64 ((k : Nat) : Int)) rfl) ?_
      refine Wl_idxi Try.underlying23 Try.sizeOf5 rfl rfl hO14.sl (by omega) (by omega) ?_
      intro ib17 io17 hc17
      rw [Int.toNat_natCast] at hc17
      refine Wl_loadc Try.isAgg5 rfl hc17 ?_
      refine Wl_v (r_add rfl rfl (mu8 _)) ?_
      obtain ⟨g18, rfl, hg18⟩ := hO14.addr (by omega)
      replace hg18 : ((((g18 = B13) ∨ g18 = w13.heap.size)) ∧ g18 < w14.heap.size) := hg18
      refine Wl_idxo (i' := k) Try.underlying23 Try.sizeOf5 rfl rfl hO14 (by omega) (by omega) ?_
      intro hc19
      refine Wl_storeo (i := k) Try.sizeOf5 rfl rfl hO14 (by omega) ?_
      intro w20 hU20 hzz20 hO20
      clear hO14
      have hzw20 := hU20.size
      replace HL16 := HL16.trans1 hU20 (by show (((((g18 = B13) ∨ g18 = w13.heap.size)) ∧ g18 < w14.heap.size)) ∨ w15.heap.size ≤ g18; omega)
      have hl_hO20 := ilen hO20.sl
      have hc_hO20 := hO20.sl.cap.1
      refine Wl_nil ?_
      refine W_region ?_
      refine Wl_v (r_mv (v := .int .i64 ((k : Nat) : Int)) rfl) ?_
      refine Wl_v (r_add rfl rfl (wi64 (by omega) (by omega))) ?_
      refine Wl_v (r_as (v := .int .i64 (((k : Nat) : Int) + 1)) rfl) ?_
      refine Wl_nil ?_
      refine ⟨_, ?_, (k + 1), ys.set k (((ys.getD k 0) + 1) % 256), rfl, rfl, ⟨rfl, rfl, rfl, rfl, rfl, rfl, (by first | rfl | exact vint (by omega) | exact vint (by simp)), trivial⟩, (by omega), hO20, HL16⟩
      omega
     ·rw [decide_eq_false q5]
      refine W_cond_f rfl ?_
      refine W_exit ?_
      refine W_seq ?_
      refine W_seq ?_
      refine W_region ?_
      refine Wl_alloc (cs := [.int .i64 0]) Try.zeroValue3 rfl ?_
      intro B21 w21 hB21 hU21 hzz21 hb21
      have hzw21 := hU21.size
      replace HU := HU.trans0 hU21
      replace hb1 := hb1.upd0 hU21
      replace hb2 := hb2.upd0 hU21
      replace hb7 := hb7.upd0 hU21
      replace hb8 := hb8.upd0 hU21
      replace hO10 := hO10.upd0 hU21
      replace hP10 := hP10.upd0 hU21
      replace hBl15 := hBl15.upd0 hU21
      replace hBb15 := hBb15.upd0 hU21
      replace hO15 := hO15.upd0 hU21
      replace hP15 := hP15.upd0 hU21
      refine Wl_store (v := .int .i64 0) (cs' := [.int .i64 0]) Try.sizeOf3 rfl rfl rfl rfl hb21 rfl rfl ?_
      intro w22 hU22 hzz22 hb21n
      replace hb21 := hb21n; clear hb21n
      have hzw22 := hU22.size
      replace HU := HU.trans1 hU22 (by show (False) ∨ w.heap.size ≤ B21; omega)
      replace hb1 := hb1.upd1 hU22 (by omega)
      replace hb2 := hb2.upd1 hU22 (by omega)
      replace hb7 := hb7.upd1 hU22 (by omega)
      replace hb8 := hb8.upd1 hU22 (by omega)
      replace hO10 := hO10.upd1 hU22 (by intro h1; have h3 : ((w9.heap.size ≤ B21) ∧ B21 < w10.heap.size) := h1; omega)
      replace hP10 := hP10.upd1 hU22 (by intro h1; have h3 : ((w9.heap.size ≤ B21) ∧ B21 < w10.heap.size) := h1; omega)
      replace hBl15 := hBl15.upd1 hU22 (by omega)
      replace hBb15 := hBb15.upd1 hU22 (by omega)
      replace hO15 := hO15.upd1 hU22 (by intro h1; have h3 : ((w14.heap.size ≤ B21) ∧ B21 < w15.heap.size) := h1; omega)
      replace hP15 := hP15.upd1 hU22 (by intro h1; have h3 : ((w14.heap.size ≤ B21) ∧ B21 < w15.heap.size) := h1; omega)
      refine Wl_nil ?_
      refine W_block ?_
      refine W_unroll2 ?_
      refine W_seq ?_
      refine W_seq ?_
      refine W_region ?_
      refine Wl_load (v := .int .i64 0) Try.isAgg3 rfl hb21 rfl ?_
      refine Wl_v (v := .bool true) (r_lt (a := 0) (b := 2) rfl rfl) ?_
      refine Wl_nil ?_
      refine W_cond_t rfl ?_
      refine W_skip ?_
      refine W_seq ?_
      refine W_block ?_
      refine W_seq ?_
      refine W_region ?_
      refine Wl_alloc (cs := [.int .i64 0]) Try.zeroValue3 rfl ?_
      intro B23 w23 hB23 hU23 hzz23 hb23
      have hzw23 := hU23.size
      replace HU := HU.trans0 hU23
      replace hb1 := hb1.upd0 hU23
      replace hb2 := hb2.upd0 hU23
      replace hb7 := hb7.upd0 hU23
      replace hb8 := hb8.upd0 hU23
      replace hO10 := hO10.upd0 hU23
      replace hP10 := hP10.upd0 hU23
      replace hBl15 := hBl15.upd0 hU23
      replace hBb15 := hBb15.upd0 hU23
      replace hO15 := hO15.upd0 hU23
      replace hP15 := hP15.upd0 hU23
      replace hb21 := hb21.upd0 hU23
      refine Wl_store (v := .int .i64 0) (cs' := [.int .i64 0]) Try.sizeOf3 rfl rfl rfl rfl hb23 rfl rfl ?_
      intro w24 hU24 hzz24 hb23n
      replace hb23 := hb23n; clear hb23n
      have hzw24 := hU24.size
      replace HU := HU.trans1 hU24 (by show (False) ∨ w.heap.size ≤ B23; omega)
      replace hb1 := hb1.upd1 hU24 (by omega)
      replace hb2 := hb2.upd1 hU24 (by omega)
      replace hb7 := hb7.upd1 hU24 (by omega)
      replace hb8 := hb8.upd1 hU24 (by omega)
      replace hO10 := hO10.upd1 hU24 (by intro h1; have h3 : ((w9.heap.size ≤ B23) ∧ B23 < w10.heap.size) := h1; omega)
      replace hP10 := hP10.upd1 hU24 (by intro h1; have h3 : ((w9.heap.size ≤ B23) ∧ B23 < w10.heap.size) := h1; omega)
      replace hBl15 := hBl15.upd1 hU24 (by omega)
      replace hBb15 := hBb15.upd1 hU24 (by omega)
      replace hO15 := hO15.upd1 hU24 (by intro h1; have h3 : ((w14.heap.size ≤ B23) ∧ B23 < w15.heap.size) := h1; omega)
      replace hP15 := hP15.upd1 hU24 (by intro h1; have h3 : ((w14.heap.size ≤ B23) ∧ B23 < w15.heap.size) := h1; omega)
      replace hb21 := hb21.upd1 hU24 (by omega)
      refine Wl_nil ?_
      refine W_seq ?_
      refine W_seq ?_
      refine W_region ?_
      refine Wl_v (r_mv (v := .func (.func 61) #[] #[.pointer (some ⟨Bl15, 0, none⟩), .pointer (some ⟨Bb15, 0, none⟩)]) rfl) ?_
      refine Wl_nil ?_
      refine W_block ?_
      refine W_range (gf := 61) (ar := fun y => #[y, .pointer (some ⟨Bl15, 0, none⟩), .pointer (some ⟨Bb15, 0, none⟩)]) rfl Try.call61 (fun y => by simp) ?_
      intro D25 fn25 w25 hD25 hU25 hzz25 hdf25 hrc250
      have hzw25 := hU25.size
      replace HU := HU.trans0 hU25
      replace hb1 := hb1.upd0 hU25
      replace hb2 := hb2.upd0 hU25
      replace hb7 := hb7.upd0 hU25
      replace hb8 := hb8.upd0 hU25
      replace hO10 := hO10.upd0 hU25
      replace hP10 := hP10.upd0 hU25
      replace hBl15 := hBl15.upd0 hU25
      replace hBb15 := hBb15.upd0 hU25
      replace hO15 := hO15.upd0 hU25
      replace hP15 := hP15.upd0 hU25
      replace hb21 := hb21.upd0 hU25
      replace hb23 := hb23.upd0 hU25
      obtain ⟨r25, hr25, hrc25⟩ : ∃ r, r = _ ∧ Rec w25 (D25 + 1) r := ⟨_, rfl, hrc250⟩
      clear hrc250
      obtain ⟨J25, hJ25⟩ : ∃ J : Nat → World → Prop, ∀ i w', J i w' ↔ (Rec w' (D25 + 1) r25 ∧ Dfr w' D25 ∧ Blk w' B23 [.int .i64 ((i : Nat) : Int)] ∧ Blk w' B1 [.int .i64 many] ∧ Blk w' B2 [.bool false] ∧ Blk w' B7 [.slice a10 (nb l (wn b) (tbt b)) c10] ∧ Blk w' B8 [.slice e10 (nb l (wn b) (tbt b)) f10] ∧ Own w' (fun g => ((w9.heap.size ≤ g) ∧ g < w10.heap.size)) 5 1 (.slice a10 (nb l (wn b) (tbt b)) c10) (nb l (wn b) (tbt b)) (ints .u8 (yms l (wn b) (tbt b) (nb l (wn b) (tbt b)))) ∧ Own w' (fun g => ((w9.heap.size ≤ g) ∧ g < w10.heap.size)) 3 1 (.slice e10 (nb l (wn b) (tbt b)) f10) (nb l (wn b) (tbt b)) (ints .i64 (sts l (wn b) (tbt b) (nb l (wn b) (tbt b)))) ∧ Blk w' Bl15 [.slice a15 n c15] ∧ Blk w' Bb15 [.slice e15 m f15] ∧ Own w' (fun g => ((w14.heap.size ≤ g) ∧ g < w15.heap.size)) 3 1 (.slice a15 n c15) n (ints .i64 l) ∧ Own w' (fun g => ((w14.heap.size ≤ g) ∧ g < w15.heap.size)) 5 1 (.slice e15 m f15) m (ints .u8 b) ∧ Blk w' B21 [.int .i64 0] ∧ Upd No w w' ∧ (i = 0 ∨ ((i : Nat) : Int) < many)) := ⟨_, fun _ _ => Iff.rfl⟩
      obtain ⟨Jx25, hJx25⟩ : ∃ Jx : World → Prop, ∀ w', Jx w' ↔ ((∃ ij : Nat, Rec w' (D25 + 1) { r25 with state := .done, pending := some (.exit 4) } ∧ Dfr w' D25 ∧ Blk w' B23 [.int .i64 (((ij : Nat) : Int) + 1)] ∧ Blk w' B1 [.int .i64 many] ∧ Blk w' B2 [.bool false] ∧ Blk w' B7 [.slice a10 (nb l (wn b) (tbt b)) c10] ∧ Blk w' B8 [.slice e10 (nb l (wn b) (tbt b)) f10] ∧ Own w' (fun g => ((w9.heap.size ≤ g) ∧ g < w10.heap.size)) 5 1 (.slice a10 (nb l (wn b) (tbt b)) c10) (nb l (wn b) (tbt b)) (ints .u8 (yms l (wn b) (tbt b) (nb l (wn b) (tbt b)))) ∧ Own w' (fun g => ((w9.heap.size ≤ g) ∧ g < w10.heap.size)) 3 1 (.slice e10 (nb l (wn b) (tbt b)) f10) (nb l (wn b) (tbt b)) (ints .i64 (sts l (wn b) (tbt b) (nb l (wn b) (tbt b)))) ∧ Blk w' Bl15 [.slice a15 n c15] ∧ Blk w' Bb15 [.slice e15 m f15] ∧ Own w' (fun g => ((w14.heap.size ≤ g) ∧ g < w15.heap.size)) 3 1 (.slice a15 n c15) n (ints .i64 l) ∧ Own w' (fun g => ((w14.heap.size ≤ g) ∧ g < w15.heap.size)) 5 1 (.slice e15 m f15) m (ints .u8 b) ∧ Blk w' B21 [.int .i64 0] ∧ Upd No w w' ∧ ij < nb l (wn b) (tbt b) ∧ many ≤ ((ij : Nat) : Int) + 1 ∧ (ij = 0 ∨ ((ij : Nat) : Int) < many))) := ⟨_, fun _ => Iff.rfl⟩
      refine (oall1_spec (ly := (D25 + 1)) (J := J25) (Jx := Jx25) (Sb := (fun g => g = B23 ∨ g = D25 + 1)) (l := l) (b := b) w25 hBl15 hBb15 hO15.sl hP15.sl (by omega) (by omega) hb q3 q4 (by intro g h1 h2; have h4 : g = B23 ∨ g = D25 + 1 := h2; omega) ?_ ?_ ?_).mono ?_
      ·exact (hJ25 _ _).2 ⟨hrc25, hdf25, hb23, hb1, hb2, hb7, hb8, hO10, hP10, hBl15, hBb15, hO15, hP15, hb21, HU, (.inl rfl)⟩
      ·intro i wa wb hh hUs
       obtain ⟨hrc25, hdf25, hb23, hb1, hb2, hb7, hb8, hO10, hP10, hBl15, hBb15, hO15, hP15, hb21, HU, hpm⟩ := (hJ25 _ _).1 hh
       replace hrc25 := hrc25.upd hUs (by show ¬ (_ ≤ _); omega)
       replace hdf25 := hdf25.upd hUs (by show ¬ (_ ≤ _); omega)
       replace hb23 := hb23.upd hUs (by show ¬ (_ ≤ _); omega)
       replace hb1 := hb1.upd hUs (by show ¬ (_ ≤ _); omega)
       replace hb2 := hb2.upd hUs (by show ¬ (_ ≤ _); omega)
       replace hb7 := hb7.upd hUs (by show ¬ (_ ≤ _); omega)
       replace hb8 := hb8.upd hUs (by show ¬ (_ ≤ _); omega)
       replace hO10 := hO10.upd hUs (by intro x h1 h2; have h3 : ((w9.heap.size ≤ x) ∧ x < w10.heap.size) := h1; have h4 : w25.heap.size ≤ x := h2; omega)
       replace hP10 := hP10.upd hUs (by intro x h1 h2; have h3 : ((w9.heap.size ≤ x) ∧ x < w10.heap.size) := h1; have h4 : w25.heap.size ≤ x := h2; omega)
       replace hBl15 := hBl15.upd hUs (by show ¬ (_ ≤ _); omega)
       replace hBb15 := hBb15.upd hUs (by show ¬ (_ ≤ _); omega)
       replace hO15 := hO15.upd hUs (by intro x h1 h2; have h3 : ((w14.heap.size ≤ x) ∧ x < w15.heap.size) := h1; have h4 : w25.heap.size ≤ x := h2; omega)
       replace hP15 := hP15.upd hUs (by intro x h1 h2; have h3 : ((w14.heap.size ≤ x) ∧ x < w15.heap.size) := h1; have h4 : w25.heap.size ≤ x := h2; omega)
       replace hb21 := hb21.upd hUs (by show ¬ (_ ≤ _); omega)
       replace HU := HU.trans hUs (by intro x hx; have hx2 : w25.heap.size ≤ x := hx; show (False) ∨ w.heap.size ≤ x; omega)
       exact (hJ25 _ _).2 ⟨hrc25, hdf25, hb23, hb1, hb2, hb7, hb8, hO10, hP10, hBl15, hBb15, hO15, hP15, hb21, HU, hpm⟩
      ·intro i26 w26 hi26 hh
       obtain ⟨hrc25, hdf25, hb23, hb1, hb2, hb7, hb8, hO10, hP10, hBl15, hBb15, hO15, hP15, hb21, HU, hpm⟩ := (hJ25 _ _).1 hh
       have hrl25 := hrc25.lt
       have hyg : (yms l (wn b) (tbt b) (nb l (wn b) (tbt b))).getD i26 0 = (nd l (wn b) (st l (wn b) (tbt b) i26)).1 := tabn_get _ _ hi26
       have hsg : (sts l (wn b) (tbt b) (nb l (wn b) (tbt b))).getD i26 0 = ((st l (wn b) (tbt b) (i26 + 1) : Nat) : Int) := tabn_get _ _ hi26
       have HB25 : Upd (fun g => g = B23 ∨ g = D25 + 1) w26 w26 := Upd.refl _ _
       refine yieldC_of_W (R := fun b c w' => (b = true ∧ Upd (fun g => g = B23 ∨ g = D25 + 1) w26 w' ∧ J25 (i26 + 1) w') ∨ (b = false ∧ Jx25 w')) hrc25 (by rw [hr25]; rfl) (by rw [hr25]; exact zip2 _ _ _ _ _ _) ?_ ?_
       ·rw [hr25]
        refine W_seq ?_
        refine W_region ?_
        refine Wl_v (r_as (v := .int .i64 ((st l (wn b) (tbt b) (i26 + 1) : Nat) : Int)) rfl) ?_
        refine Wl_nil ?_
        refine W_region ?_
        refine Wl_v (r_as (v := .int .u8 ((nd l (wn b) (st l (wn b) (tbt b) i26)).1)) rfl) ?_
        refine Wl_nil ?_
        refine ⟨rfl, _, hrc25, (by rw [hr25]), ?_⟩
        intro w27 hU27 hzz27 hrc25b
        have hzw27 := hU27.size
        replace hdf25 := hdf25.upd1 hU27 (by omega)
        replace hb23 := hb23.upd1 hU27 (by omega)
        replace hb1 := hb1.upd1 hU27 (by omega)
        replace hb2 := hb2.upd1 hU27 (by omega)
        replace hb7 := hb7.upd1 hU27 (by omega)
        replace hb8 := hb8.upd1 hU27 (by omega)
        replace hO10 := hO10.upd1 hU27 (by intro h1; have h3 : ((w9.heap.size ≤ (D25 + 1)) ∧ (D25 + 1) < w10.heap.size) := h1; omega)
        replace hP10 := hP10.upd1 hU27 (by intro h1; have h3 : ((w9.heap.size ≤ (D25 + 1)) ∧ (D25 + 1) < w10.heap.size) := h1; omega)
        replace hBl15 := hBl15.upd1 hU27 (by omega)
        replace hBb15 := hBb15.upd1 hU27 (by omega)
        replace hO15 := hO15.upd1 hU27 (by intro h1; have h3 : ((w14.heap.size ≤ (D25 + 1)) ∧ (D25 + 1) < w15.heap.size) := h1; omega)
        replace hP15 := hP15.upd1 hU27 (by intro h1; have h3 : ((w14.heap.size ≤ (D25 + 1)) ∧ (D25 + 1) < w15.heap.size) := h1; omega)
        replace hb21 := hb21.upd1 hU27 (by omega)
        replace HU := HU.trans1 hU27 (by show (False) ∨ w.heap.size ≤ (D25 + 1); omega)
        replace HB25 := HB25.trans1 hU27 (by show ((D25 + 1) = B23 ∨ (D25 + 1) = D25 + 1) ∨ w26.heap.size ≤ (D25 + 1); omega)
        clear hrc25
        have hrc25 := hrc25b
        clear hrc25b
        refine W_block ?_
        refine W_seq ?_
        refine W_seq ?_
        refine W_region ?_
        refine Wl_load (v := .int .i64 ((i26 : Nat) : Int)) Try.isAgg3 rfl hb23 rfl ?_
        refine Wl_load (v := .slice a10 (nb l (wn b) (tbt b)) c10) Try.isAgg23 rfl hb7 rfl ?_
        refine Wl_v (r_len Try.underlying23 rfl) ?_
        refine Wl_v (r_ge rfl rfl) ?_
        refine Wl_v (r_mv (v := .bool (decide ((((nb l (wn b) (tbt b)) : Nat) : Int) ≤ ((i26 : Nat) : Int)))) rfl) ?_
        have q6 : ¬ ((((nb l (wn b) (tbt b)) : Nat) : Int) ≤ ((i26 : Nat) : Int)) := (by omega)
        rw [decide_eq_false q6]
        refine Wl_guard_t rfl ?_
        refine Wl_v (r_mv (v := .int .u8 ((nd l (wn b) (st l (wn b) (tbt b) i26)).1)) rfl) ?_
        refine Wl_guard_t rfl ?_
        refine Wl_load (v := .slice a10 (nb l (wn b) (tbt b)) c10) Try.isAgg23 rfl hb7 rfl ?_
        refine Wl_guard_t rfl ?_
        refine Wl_load (v := .int .i64 ((i26 : Nat) : Int)) Try.isAgg3 rfl hb23 rfl ?_
        refine Wl_guard_t rfl ?_
        refine Wl_idxi Try.underlying23 Try.sizeOf5 rfl rfl hO10.sl (by omega) (by omega) ?_
        intro ib28 io28 hc28
        rw [Int.toNat_natCast] at hc28
        refine Wl_guard_t rfl ?_
        refine Wl_loadc Try.isAgg5 rfl hc28 ?_
        refine Wl_guard_t rfl ?_
        refine Wl_v (r_ne rfl rfl) ?_
        refine Wl_v (r_pick_f (v := .bool (decide (((nd l (wn b) (st l (wn b) (tbt b) i26)).1) ≠ ((yms l (wn b) (tbt b) (nb l (wn b) (tbt b))).getD i26 0)))) rfl rfl) ?_
        refine Wl_v (r_mv (v := .bool (decide (((nd l (wn b) (st l (wn b) (tbt b) i26)).1) ≠ ((yms l (wn b) (tbt b) (nb l (wn b) (tbt b))).getD i26 0)))) rfl) ?_
        have q7 : ¬ (((nd l (wn b) (st l (wn b) (tbt b) i26)).1) ≠ ((yms l (wn b) (tbt b) (nb l (wn b) (tbt b))).getD i26 0)) := (fun h => h hyg.symm)
        rw [decide_eq_false q7]
        refine Wl_guard_t rfl ?_
        refine Wl_v (r_mv (v := .int .i64 ((st l (wn b) (tbt b) (i26 + 1) : Nat) : Int)) rfl) ?_
        refine Wl_guard_t rfl ?_
        refine Wl_load (v := .slice e10 (nb l (wn b) (tbt b)) f10) Try.isAgg22 rfl hb8 rfl ?_
        refine Wl_guard_t rfl ?_
        refine Wl_load (v := .int .i64 ((i26 : Nat) : Int)) Try.isAgg3 rfl hb23 rfl ?_
        refine Wl_guard_t rfl ?_
        refine Wl_idxi Try.underlying22 Try.sizeOf3 rfl rfl hP10.sl (by omega) (by omega) ?_
        intro ib29 io29 hc29
        rw [Int.toNat_natCast] at hc29
        refine Wl_guard_t rfl ?_
        refine Wl_loadc Try.isAgg3 rfl hc29 ?_
        refine Wl_guard_t rfl ?_
        refine Wl_v (r_ne rfl rfl) ?_
        refine Wl_v (r_pick_f (v := .bool (decide (((st l (wn b) (tbt b) (i26 + 1) : Nat) : Int) ≠ ((sts l (wn b) (tbt b) (nb l (wn b) (tbt b))).getD i26 0)))) rfl rfl) ?_
        refine Wl_nil ?_
        have q8 : ¬ (((st l (wn b) (tbt b) (i26 + 1) : Nat) : Int) ≠ ((sts l (wn b) (tbt b) (nb l (wn b) (tbt b))).getD i26 0)) := (fun h => h hsg.symm)
        rw [decide_eq_false q8]
        refine W_cond_f rfl ?_
        refine W_skip ?_
        refine W_seq ?_
        refine W_region ?_
        refine Wl_load (v := .int .i64 ((i26 : Nat) : Int)) Try.isAgg3 rfl hb23 rfl ?_
        refine Wl_v (r_add rfl rfl (wi64 (by omega) (by omega))) ?_
        refine Wl_store (v := .int .i64 (((i26 : Nat) : Int) + 1)) (cs' := [.int .i64 (((i26 : Nat) : Int) + 1)]) Try.sizeOf3 rfl rfl rfl rfl hb23 rfl rfl ?_
        intro w30 hU30 hzz30 hb23n
        replace hb23 := hb23n; clear hb23n
        have hzw30 := hU30.size
        replace hrc25 := hrc25.upd1 hU30 (by omega)
        replace hdf25 := hdf25.upd1 hU30 (by omega)
        replace hb1 := hb1.upd1 hU30 (by omega)
        replace hb2 := hb2.upd1 hU30 (by omega)
        replace hb7 := hb7.upd1 hU30 (by omega)
        replace hb8 := hb8.upd1 hU30 (by omega)
        replace hO10 := hO10.upd1 hU30 (by intro h1; have h3 : ((w9.heap.size ≤ B23) ∧ B23 < w10.heap.size) := h1; omega)
        replace hP10 := hP10.upd1 hU30 (by intro h1; have h3 : ((w9.heap.size ≤ B23) ∧ B23 < w10.heap.size) := h1; omega)
        replace hBl15 := hBl15.upd1 hU30 (by omega)
        replace hBb15 := hBb15.upd1 hU30 (by omega)
        replace hO15 := hO15.upd1 hU30 (by intro h1; have h3 : ((w14.heap.size ≤ B23) ∧ B23 < w15.heap.size) := h1; omega)
        replace hP15 := hP15.upd1 hU30 (by intro h1; have h3 : ((w14.heap.size ≤ B23) ∧ B23 < w15.heap.size) := h1; omega)
        replace hb21 := hb21.upd1 hU30 (by omega)
        replace HU := HU.trans1 hU30 (by show (False) ∨ w.heap.size ≤ B23; omega)
        replace HB25 := HB25.trans1 hU30 (by show (B23 = B23 ∨ B23 = D25 + 1) ∨ w26.heap.size ≤ B23; omega)
        refine Wl_nil ?_
        refine W_seq ?_
        refine W_region ?_
        refine Wl_load (v := .int .i64 0) Try.isAgg3 rfl hb21 rfl ?_
        refine Wl_v (v := .bool true) (r_eq (a := 0) (b := 0) rfl rfl) ?_
        refine Wl_v (r_mv (v := .bool true) rfl) ?_
        refine Wl_guard_t rfl ?_
        refine Wl_load (v := .int .i64 (((i26 : Nat) : Int) + 1)) Try.isAgg3 rfl hb23 rfl ?_
        refine Wl_guard_t rfl ?_
        refine Wl_load (v := .int .i64 many) Try.isAgg3 rfl hb1 rfl ?_
        refine Wl_guard_t rfl ?_
        refine Wl_v (r_ge rfl rfl) ?_
        refine Wl_v (r_pick_t (v := .bool (decide (many ≤ (((i26 : Nat) : Int) + 1)))) rfl rfl) ?_
        refine Wl_nil ?_
        by_cases q9 : many ≤ (((i26 : Nat) : Int) + 1)
        ·rw [decide_eq_true q9]
         refine W_cond_t rfl ?_
         refine W_exit ?_
         refine ⟨rfl, _, hrc25, ?_⟩
         intro w31 hU31 hzz31 hrz
         have hzw31 := hU31.size
         replace hdf25 := hdf25.upd1 hU31 (by omega)
         replace hb23 := hb23.upd1 hU31 (by omega)
         replace hb1 := hb1.upd1 hU31 (by omega)
         replace hb2 := hb2.upd1 hU31 (by omega)
         replace hb7 := hb7.upd1 hU31 (by omega)
         replace hb8 := hb8.upd1 hU31 (by omega)
         replace hO10 := hO10.upd1 hU31 (by intro h1; have h3 : ((w9.heap.size ≤ (D25 + 1)) ∧ (D25 + 1) < w10.heap.size) := h1; omega)
         replace hP10 := hP10.upd1 hU31 (by intro h1; have h3 : ((w9.heap.size ≤ (D25 + 1)) ∧ (D25 + 1) < w10.heap.size) := h1; omega)
         replace hBl15 := hBl15.upd1 hU31 (by omega)
         replace hBb15 := hBb15.upd1 hU31 (by omega)
         replace hO15 := hO15.upd1 hU31 (by intro h1; have h3 : ((w14.heap.size ≤ (D25 + 1)) ∧ (D25 + 1) < w15.heap.size) := h1; omega)
         replace hP15 := hP15.upd1 hU31 (by intro h1; have h3 : ((w14.heap.size ≤ (D25 + 1)) ∧ (D25 + 1) < w15.heap.size) := h1; omega)
         replace hb21 := hb21.upd1 hU31 (by omega)
         replace HU := HU.trans1 hU31 (by show (False) ∨ w.heap.size ≤ (D25 + 1); omega)
         exact Or.inr ⟨rfl, (hJx25 _).2 (⟨i26, (by rw [hr25]; rw [hr25] at hrz; exact hrz), hdf25, hb23, hb1, hb2, hb7, hb8, hO10, hP10, hBl15, hBb15, hO15, hP15, hb21, HU, hi26, (by omega), (by omega)⟩)⟩
        ·rw [decide_eq_false q9]
         refine W_cond_f rfl ?_
         refine W_skip ?_
         refine ⟨rfl, _, hrc25, ?_⟩
         intro w32 hU32 hzz32 hrz
         have hzw32 := hU32.size
         replace hdf25 := hdf25.upd1 hU32 (by omega)
         replace hb23 := hb23.upd1 hU32 (by omega)
         replace hb1 := hb1.upd1 hU32 (by omega)
         replace hb2 := hb2.upd1 hU32 (by omega)
         replace hb7 := hb7.upd1 hU32 (by omega)
         replace hb8 := hb8.upd1 hU32 (by omega)
         replace hO10 := hO10.upd1 hU32 (by intro h1; have h3 : ((w9.heap.size ≤ (D25 + 1)) ∧ (D25 + 1) < w10.heap.size) := h1; omega)
         replace hP10 := hP10.upd1 hU32 (by intro h1; have h3 : ((w9.heap.size ≤ (D25 + 1)) ∧ (D25 + 1) < w10.heap.size) := h1; omega)
         replace hBl15 := hBl15.upd1 hU32 (by omega)
         replace hBb15 := hBb15.upd1 hU32 (by omega)
         replace hO15 := hO15.upd1 hU32 (by intro h1; have h3 : ((w14.heap.size ≤ (D25 + 1)) ∧ (D25 + 1) < w15.heap.size) := h1; omega)
         replace hP15 := hP15.upd1 hU32 (by intro h1; have h3 : ((w14.heap.size ≤ (D25 + 1)) ∧ (D25 + 1) < w15.heap.size) := h1; omega)
         replace hb21 := hb21.upd1 hU32 (by omega)
         replace HU := HU.trans1 hU32 (by show (False) ∨ w.heap.size ≤ (D25 + 1); omega)
         replace HB25 := HB25.trans1 hU32 (by show ((D25 + 1) = B23 ∨ (D25 + 1) = D25 + 1) ∨ w26.heap.size ≤ (D25 + 1); omega)
         exact Or.inl ⟨rfl, HB25, (hJ25 _ _).2 ⟨(by rw [hr25]; rw [hr25] at hrz; exact hrz), hdf25, hb23, hb1, hb2, hb7, hb8, hO10, hP10, hBl15, hBb15, hO15, hP15, hb21, HU, (by omega)⟩⟩
       ·rintro b c w9 (⟨rfl, h1, h2⟩ | ⟨rfl, h1⟩)
        ·exact Or.inl ⟨rfl, h1, h2⟩
        ·exact Or.inr ⟨rfl, h1⟩
      rintro e w33 ⟨v, rfl, hh | hh⟩
      ·obtain ⟨hrc25, hdf25, hb23, hb1, hb2, hb7, hb8, hO10, hP10, hBl15, hBb15, hO15, hP15, hb21, HU, hpm⟩ := (hJ25 _ _).1 hh
       have hrl25 := hrc25.lt
       refine ⟨r25, hrc25, (by rw [hr25]; simp), ?_⟩
       intro w34 hU34 hzz34
       have hzw34 := hU34.size
       replace hdf25 := hdf25.upd1 hU34 (by omega)
       replace hb23 := hb23.upd1 hU34 (by omega)
       replace hb1 := hb1.upd1 hU34 (by omega)
       replace hb2 := hb2.upd1 hU34 (by omega)
       replace hb7 := hb7.upd1 hU34 (by omega)
       replace hb8 := hb8.upd1 hU34 (by omega)
       replace hO10 := hO10.upd1 hU34 (by intro h1; have h3 : ((w9.heap.size ≤ (D25 + 1)) ∧ (D25 + 1) < w10.heap.size) := h1; omega)
       replace hP10 := hP10.upd1 hU34 (by intro h1; have h3 : ((w9.heap.size ≤ (D25 + 1)) ∧ (D25 + 1) < w10.heap.size) := h1; omega)
       replace hBl15 := hBl15.upd1 hU34 (by omega)
       replace hBb15 := hBb15.upd1 hU34 (by omega)
       replace hO15 := hO15.upd1 hU34 (by intro h1; have h3 : ((w14.heap.size ≤ (D25 + 1)) ∧ (D25 + 1) < w15.heap.size) := h1; omega)
       replace hP15 := hP15.upd1 hU34 (by intro h1; have h3 : ((w14.heap.size ≤ (D25 + 1)) ∧ (D25 + 1) < w15.heap.size) := h1; omega)
       replace hb21 := hb21.upd1 hU34 (by omega)
       replace HU := HU.trans1 hU34 (by show (False) ∨ w.heap.size ≤ (D25 + 1); omega)
       rw [hr25]
       skip
       refine W_seq ?_
       refine W_region ?_
       refine Wl_load (v := .int .i64 0) Try.isAgg3 rfl hb21 rfl ?_
       refine Wl_v (v := .bool true) (r_eq (a := 0) (b := 0) rfl rfl) ?_
       refine Wl_v (r_mv (v := .bool true) rfl) ?_
       refine Wl_guard_t rfl ?_
       refine Wl_load (v := .int .i64 ((nb l (wn b) (tbt b) : Nat) : Int)) Try.isAgg3 rfl hb23 rfl ?_
       refine Wl_guard_t rfl ?_
       refine Wl_load (v := .slice a10 (nb l (wn b) (tbt b)) c10) Try.isAgg23 rfl hb7 rfl ?_
       refine Wl_guard_t rfl ?_
       refine Wl_v (r_len Try.underlying23 rfl) ?_
       refine Wl_guard_t rfl ?_
       refine Wl_load (v := .int .i64 many) Try.isAgg3 rfl hb1 rfl ?_
       refine Wl_guard_t rfl ?_
       refine Wl_v (r_max rfl rfl) ?_
       refine Wl_guard_t rfl ?_
       refine Wl_v (r_min rfl rfl) ?_
       refine Wl_guard_t rfl ?_
       refine Wl_v (r_ne rfl rfl) ?_
       refine Wl_v (r_pick_t (v := .bool (decide (((nb l (wn b) (tbt b) : Nat) : Int) ≠ (min (((nb l (wn b) (tbt b)) : Nat) : Int) (max 1 many))))) rfl rfl) ?_
       refine Wl_v (r_mv (v := .bool (decide (((nb l (wn b) (tbt b) : Nat) : Int) ≠ (min (((nb l (wn b) (tbt b)) : Nat) : Int) (max 1 many))))) rfl) ?_
       have q10 : ¬ (((nb l (wn b) (tbt b) : Nat) : Int) ≠ (min (((nb l (wn b) (tbt b)) : Nat) : Int) (max 1 many))) := (by omega)
       rw [decide_eq_false q10]
       refine Wl_guard_t rfl ?_
       refine Wl_load (v := .int .i64 0) Try.isAgg3 rfl hb21 rfl ?_
       refine Wl_guard_t rfl ?_
       refine Wl_v (v := .bool false) (r_eq (a := 0) (b := 1) rfl rfl) ?_
       refine Wl_guard_t rfl ?_
       refine Wl_v (r_mv (v := .bool false) rfl) ?_
       refine Wl_guard_f rfl ?_
       refine Wl_guard_f rfl ?_
       refine Wl_guard_f rfl ?_
       refine Wl_guard_f rfl ?_
       refine Wl_guard_t rfl ?_
       refine Wl_v (r_pick_f (v := .bool false) rfl rfl) ?_
       refine Wl_v (r_pick_f (v := .bool false) rfl rfl) ?_
       refine Wl_nil ?_
       refine W_cond_f rfl ?_
       refine W_skip ?_
       refine W_seq ?_
       refine W_seq ?_
       refine W_region ?_
       refine Wl_load (v := .int .i64 0) Try.isAgg3 rfl hb21 rfl ?_
       refine Wl_nil ?_
       refine W_region ?_
       refine Wl_alloc (cs := [.int .i64 0]) Try.zeroValue3 rfl ?_
       intro B35 w35 hB35 hU35 hzz35 hb35
       have hzw35 := hU35.size
       replace hdf25 := hdf25.upd0 hU35
       replace hb23 := hb23.upd0 hU35
       replace hb1 := hb1.upd0 hU35
       replace hb2 := hb2.upd0 hU35
       replace hb7 := hb7.upd0 hU35
       replace hb8 := hb8.upd0 hU35
       replace hO10 := hO10.upd0 hU35
       replace hP10 := hP10.upd0 hU35
       replace hBl15 := hBl15.upd0 hU35
       replace hBb15 := hBb15.upd0 hU35
       replace hO15 := hO15.upd0 hU35
       replace hP15 := hP15.upd0 hU35
       replace hb21 := hb21.upd0 hU35
       replace HU := HU.trans0 hU35
       refine Wl_store (v := .int .i64 0) (cs' := [.int .i64 0]) Try.sizeOf3 rfl rfl rfl rfl hb35 rfl rfl ?_
       intro w36 hU36 hzz36 hb35n
       replace hb35 := hb35n; clear hb35n
       have hzw36 := hU36.size
       replace hdf25 := hdf25.upd1 hU36 (by omega)
       replace hb23 := hb23.upd1 hU36 (by omega)
       replace hb1 := hb1.upd1 hU36 (by omega)
       replace hb2 := hb2.upd1 hU36 (by omega)
       replace hb7 := hb7.upd1 hU36 (by omega)
       replace hb8 := hb8.upd1 hU36 (by omega)
       replace hO10 := hO10.upd1 hU36 (by intro h1; have h3 : ((w9.heap.size ≤ B35) ∧ B35 < w10.heap.size) := h1; omega)
       replace hP10 := hP10.upd1 hU36 (by intro h1; have h3 : ((w9.heap.size ≤ B35) ∧ B35 < w10.heap.size) := h1; omega)
       replace hBl15 := hBl15.upd1 hU36 (by omega)
       replace hBb15 := hBb15.upd1 hU36 (by omega)
       replace hO15 := hO15.upd1 hU36 (by intro h1; have h3 : ((w14.heap.size ≤ B35) ∧ B35 < w15.heap.size) := h1; omega)
       replace hP15 := hP15.upd1 hU36 (by intro h1; have h3 : ((w14.heap.size ≤ B35) ∧ B35 < w15.heap.size) := h1; omega)
       replace hb21 := hb21.upd1 hU36 (by omega)
       replace HU := HU.trans1 hU36 (by show (False) ∨ w.heap.size ≤ B35; omega)
       refine Wl_nil ?_
       refine W_region ?_
       refine Wl_load (v := .int .i64 0) Try.isAgg3 rfl hb35 rfl ?_
       refine Wl_v (r_add rfl rfl (show IntKind.i64.wrap (0 + 1) = 1 by decide)) ?_
       refine Wl_store (v := .int .i64 1) (cs' := [.int .i64 1]) Try.sizeOf3 rfl rfl rfl rfl hb35 rfl rfl ?_
       intro w37 hU37 hzz37 hb35n
       replace hb35 := hb35n; clear hb35n
       have hzw37 := hU37.size
       replace hdf25 := hdf25.upd1 hU37 (by omega)
       replace hb23 := hb23.upd1 hU37 (by omega)
       replace hb1 := hb1.upd1 hU37 (by omega)
       replace hb2 := hb2.upd1 hU37 (by omega)
       replace hb7 := hb7.upd1 hU37 (by omega)
       replace hb8 := hb8.upd1 hU37 (by omega)
       replace hO10 := hO10.upd1 hU37 (by intro h1; have h3 : ((w9.heap.size ≤ B35) ∧ B35 < w10.heap.size) := h1; omega)
       replace hP10 := hP10.upd1 hU37 (by intro h1; have h3 : ((w9.heap.size ≤ B35) ∧ B35 < w10.heap.size) := h1; omega)
       replace hBl15 := hBl15.upd1 hU37 (by omega)
       replace hBb15 := hBb15.upd1 hU37 (by omega)
       replace hO15 := hO15.upd1 hU37 (by intro h1; have h3 : ((w14.heap.size ≤ B35) ∧ B35 < w15.heap.size) := h1; omega)
       replace hP15 := hP15.upd1 hU37 (by intro h1; have h3 : ((w14.heap.size ≤ B35) ∧ B35 < w15.heap.size) := h1; omega)
       replace hb21 := hb21.upd1 hU37 (by omega)
       replace HU := HU.trans1 hU37 (by show (False) ∨ w.heap.size ≤ B35; omega)
       refine Wl_nil ?_
       refine W_seq ?_
       refine W_seq ?_
       refine W_region ?_
       refine Wl_load (v := .int .i64 1) Try.isAgg3 rfl hb35 rfl ?_
       refine Wl_v (v := .bool true) (r_lt (a := 1) (b := 2) rfl rfl) ?_
       refine Wl_nil ?_
       refine W_cond_t rfl ?_
       refine W_skip ?_
       refine W_seq ?_
       refine W_block ?_
       refine W_seq ?_
       refine W_region ?_
       refine Wl_alloc (cs := [.int .i64 0]) Try.zeroValue3 rfl ?_
       intro B38 w38 hB38 hU38 hzz38 hb38
       have hzw38 := hU38.size
       replace hdf25 := hdf25.upd0 hU38
       replace hb23 := hb23.upd0 hU38
       replace hb1 := hb1.upd0 hU38
       replace hb2 := hb2.upd0 hU38
       replace hb7 := hb7.upd0 hU38
       replace hb8 := hb8.upd0 hU38
       replace hO10 := hO10.upd0 hU38
       replace hP10 := hP10.upd0 hU38
       replace hBl15 := hBl15.upd0 hU38
       replace hBb15 := hBb15.upd0 hU38
       replace hO15 := hO15.upd0 hU38
       replace hP15 := hP15.upd0 hU38
       replace hb21 := hb21.upd0 hU38
       replace HU := HU.trans0 hU38
       replace hb35 := hb35.upd0 hU38
       refine Wl_store (v := .int .i64 0) (cs' := [.int .i64 0]) Try.sizeOf3 rfl rfl rfl rfl hb38 rfl rfl ?_
       intro w39 hU39 hzz39 hb38n
       replace hb38 := hb38n; clear hb38n
       have hzw39 := hU39.size
       replace hdf25 := hdf25.upd1 hU39 (by omega)
       replace hb23 := hb23.upd1 hU39 (by omega)
       replace hb1 := hb1.upd1 hU39 (by omega)
       replace hb2 := hb2.upd1 hU39 (by omega)
       replace hb7 := hb7.upd1 hU39 (by omega)
       replace hb8 := hb8.upd1 hU39 (by omega)
       replace hO10 := hO10.upd1 hU39 (by intro h1; have h3 : ((w9.heap.size ≤ B38) ∧ B38 < w10.heap.size) := h1; omega)
       replace hP10 := hP10.upd1 hU39 (by intro h1; have h3 : ((w9.heap.size ≤ B38) ∧ B38 < w10.heap.size) := h1; omega)
       replace hBl15 := hBl15.upd1 hU39 (by omega)
       replace hBb15 := hBb15.upd1 hU39 (by omega)
       replace hO15 := hO15.upd1 hU39 (by intro h1; have h3 : ((w14.heap.size ≤ B38) ∧ B38 < w15.heap.size) := h1; omega)
       replace hP15 := hP15.upd1 hU39 (by intro h1; have h3 : ((w14.heap.size ≤ B38) ∧ B38 < w15.heap.size) := h1; omega)
       replace hb21 := hb21.upd1 hU39 (by omega)
       replace HU := HU.trans1 hU39 (by show (False) ∨ w.heap.size ≤ B38; omega)
       replace hb35 := hb35.upd1 hU39 (by omega)
       refine Wl_nil ?_
       refine W_seq ?_
       refine W_seq ?_
       refine W_region ?_
       refine Wl_v (r_mv (v := .func (.func 61) #[] #[.pointer (some ⟨Bl15, 0, none⟩), .pointer (some ⟨Bb15, 0, none⟩)]) rfl) ?_
       refine Wl_nil ?_
       refine W_block ?_
       refine W_range (gf := 61) (ar := fun y => #[y, .pointer (some ⟨Bl15, 0, none⟩), .pointer (some ⟨Bb15, 0, none⟩)]) rfl Try.call61 (fun y => by simp) ?_
       intro D40 fn40 w40 hD40 hU40 hzz40 hdf40 hrc400
       have hzw40 := hU40.size
       replace hdf25 := hdf25.upd0 hU40
       replace hb23 := hb23.upd0 hU40
       replace hb1 := hb1.upd0 hU40
       replace hb2 := hb2.upd0 hU40
       replace hb7 := hb7.upd0 hU40
       replace hb8 := hb8.upd0 hU40
       replace hO10 := hO10.upd0 hU40
       replace hP10 := hP10.upd0 hU40
       replace hBl15 := hBl15.upd0 hU40
       replace hBb15 := hBb15.upd0 hU40
       replace hO15 := hO15.upd0 hU40
       replace hP15 := hP15.upd0 hU40
       replace hb21 := hb21.upd0 hU40
       replace HU := HU.trans0 hU40
       replace hb35 := hb35.upd0 hU40
       replace hb38 := hb38.upd0 hU40
       obtain ⟨r40, hr40, hrc40⟩ : ∃ r, r = _ ∧ Rec w40 (D40 + 1) r := ⟨_, rfl, hrc400⟩
       clear hrc400
       obtain ⟨J40, hJ40⟩ : ∃ J : Nat → World → Prop, ∀ i w', J i w' ↔ (Rec w' (D40 + 1) r40 ∧ Dfr w' D40 ∧ Blk w' B38 [.int .i64 ((i : Nat) : Int)] ∧ Dfr w' D25 ∧ Blk w' B23 [.int .i64 ((nb l (wn b) (tbt b) : Nat) : Int)] ∧ Blk w' B1 [.int .i64 many] ∧ Blk w' B2 [.bool false] ∧ Blk w' B7 [.slice a10 (nb l (wn b) (tbt b)) c10] ∧ Blk w' B8 [.slice e10 (nb l (wn b) (tbt b)) f10] ∧ Own w' (fun g => ((w9.heap.size ≤ g) ∧ g < w10.heap.size)) 5 1 (.slice a10 (nb l (wn b) (tbt b)) c10) (nb l (wn b) (tbt b)) (ints .u8 (yms l (wn b) (tbt b) (nb l (wn b) (tbt b)))) ∧ Own w' (fun g => ((w9.heap.size ≤ g) ∧ g < w10.heap.size)) 3 1 (.slice e10 (nb l (wn b) (tbt b)) f10) (nb l (wn b) (tbt b)) (ints .i64 (sts l (wn b) (tbt b) (nb l (wn b) (tbt b)))) ∧ Blk w' Bl15 [.slice a15 n c15] ∧ Blk w' Bb15 [.slice e15 m f15] ∧ Own w' (fun g => ((w14.heap.size ≤ g) ∧ g < w15.heap.size)) 3 1 (.slice a15 n c15) n (ints .i64 l) ∧ Own w' (fun g => ((w14.heap.size ≤ g) ∧ g < w15.heap.size)) 5 1 (.slice e15 m f15) m (ints .u8 b) ∧ Blk w' B21 [.int .i64 0] ∧ Blk w' B35 [.int .i64 1] ∧ Upd No w w') := ⟨_, fun _ _ => Iff.rfl⟩
       obtain ⟨Jx40, hJx40⟩ : ∃ Jx : World → Prop, ∀ w', Jx w' ↔ (False) := ⟨_, fun _ => Iff.rfl⟩
       refine (oall1_spec (ly := (D40 + 1)) (J := J40) (Jx := Jx40) (Sb := (fun g => g = B38 ∨ g = D40 + 1)) (l := l) (b := b) w40 hBl15 hBb15 hO15.sl hP15.sl (by omega) (by omega) hb q3 q4 (by intro g h1 h2; have h4 : g = B38 ∨ g = D40 + 1 := h2; omega) ?_ ?_ ?_).mono ?_
       ·exact (hJ40 _ _).2 ⟨hrc40, hdf40, hb38, hdf25, hb23, hb1, hb2, hb7, hb8, hO10, hP10, hBl15, hBb15, hO15, hP15, hb21, hb35, HU⟩
       ·intro i wa wb hh hUs
        obtain ⟨hrc40, hdf40, hb38, hdf25, hb23, hb1, hb2, hb7, hb8, hO10, hP10, hBl15, hBb15, hO15, hP15, hb21, hb35, HU⟩ := (hJ40 _ _).1 hh
        replace hrc40 := hrc40.upd hUs (by show ¬ (_ ≤ _); omega)
        replace hdf40 := hdf40.upd hUs (by show ¬ (_ ≤ _); omega)
        replace hb38 := hb38.upd hUs (by show ¬ (_ ≤ _); omega)
        replace hdf25 := hdf25.upd hUs (by show ¬ (_ ≤ _); omega)
        replace hb23 := hb23.upd hUs (by show ¬ (_ ≤ _); omega)
        replace hb1 := hb1.upd hUs (by show ¬ (_ ≤ _); omega)
        replace hb2 := hb2.upd hUs (by show ¬ (_ ≤ _); omega)
        replace hb7 := hb7.upd hUs (by show ¬ (_ ≤ _); omega)
        replace hb8 := hb8.upd hUs (by show ¬ (_ ≤ _); omega)
        replace hO10 := hO10.upd hUs (by intro x h1 h2; have h3 : ((w9.heap.size ≤ x) ∧ x < w10.heap.size) := h1; have h4 : w40.heap.size ≤ x := h2; omega)
        replace hP10 := hP10.upd hUs (by intro x h1 h2; have h3 : ((w9.heap.size ≤ x) ∧ x < w10.heap.size) := h1; have h4 : w40.heap.size ≤ x := h2; omega)
        replace hBl15 := hBl15.upd hUs (by show ¬ (_ ≤ _); omega)
        replace hBb15 := hBb15.upd hUs (by show ¬ (_ ≤ _); omega)
        replace hO15 := hO15.upd hUs (by intro x h1 h2; have h3 : ((w14.heap.size ≤ x) ∧ x < w15.heap.size) := h1; have h4 : w40.heap.size ≤ x := h2; omega)
        replace hP15 := hP15.upd hUs (by intro x h1 h2; have h3 : ((w14.heap.size ≤ x) ∧ x < w15.heap.size) := h1; have h4 : w40.heap.size ≤ x := h2; omega)
        replace hb21 := hb21.upd hUs (by show ¬ (_ ≤ _); omega)
        replace hb35 := hb35.upd hUs (by show ¬ (_ ≤ _); omega)
        replace HU := HU.trans hUs (by intro x hx; have hx2 : w40.heap.size ≤ x := hx; show (False) ∨ w.heap.size ≤ x; omega)
        exact (hJ40 _ _).2 ⟨hrc40, hdf40, hb38, hdf25, hb23, hb1, hb2, hb7, hb8, hO10, hP10, hBl15, hBb15, hO15, hP15, hb21, hb35, HU⟩
       ·intro i41 w41 hi41 hh
        obtain ⟨hrc40, hdf40, hb38, hdf25, hb23, hb1, hb2, hb7, hb8, hO10, hP10, hBl15, hBb15, hO15, hP15, hb21, hb35, HU⟩ := (hJ40 _ _).1 hh
        have hrl40 := hrc40.lt
        have hyg : (yms l (wn b) (tbt b) (nb l (wn b) (tbt b))).getD i41 0 = (nd l (wn b) (st l (wn b) (tbt b) i41)).1 := tabn_get _ _ hi41
        have hsg : (sts l (wn b) (tbt b) (nb l (wn b) (tbt b))).getD i41 0 = ((st l (wn b) (tbt b) (i41 + 1) : Nat) : Int) := tabn_get _ _ hi41
        have HB40 : Upd (fun g => g = B38 ∨ g = D40 + 1) w41 w41 := Upd.refl _ _
        refine yieldC_of_W (R := fun b c w' => (b = true ∧ Upd (fun g => g = B38 ∨ g = D40 + 1) w41 w' ∧ J40 (i41 + 1) w') ∨ (b = false ∧ Jx40 w')) hrc40 (by rw [hr40]; rfl) (by rw [hr40]; exact zip2 _ _ _ _ _ _) ?_ ?_
        ·rw [hr40]
         refine W_seq ?_
         refine W_region ?_
         refine Wl_v (r_as (v := .int .i64 ((st l (wn b) (tbt b) (i41 + 1) : Nat) : Int)) rfl) ?_
         refine Wl_nil ?_
         refine W_region ?_
         refine Wl_v (r_as (v := .int .u8 ((nd l (wn b) (st l (wn b) (tbt b) i41)).1)) rfl) ?_
         refine Wl_nil ?_
         refine ⟨rfl, _, hrc40, (by rw [hr40]), ?_⟩
         intro w42 hU42 hzz42 hrc40b
         have hzw42 := hU42.size
         replace hdf40 := hdf40.upd1 hU42 (by omega)
         replace hb38 := hb38.upd1 hU42 (by omega)
         replace hdf25 := hdf25.upd1 hU42 (by omega)
         replace hb23 := hb23.upd1 hU42 (by omega)
         replace hb1 := hb1.upd1 hU42 (by omega)
         replace hb2 := hb2.upd1 hU42 (by omega)
         replace hb7 := hb7.upd1 hU42 (by omega)
         replace hb8 := hb8.upd1 hU42 (by omega)
         replace hO10 := hO10.upd1 hU42 (by intro h1; have h3 : ((w9.heap.size ≤ (D40 + 1)) ∧ (D40 + 1) < w10.heap.size) := h1; omega)
         replace hP10 := hP10.upd1 hU42 (by intro h1; have h3 : ((w9.heap.size ≤ (D40 + 1)) ∧ (D40 + 1) < w10.heap.size) := h1; omega)
         replace hBl15 := hBl15.upd1 hU42 (by omega)
         replace hBb15 := hBb15.upd1 hU42 (by omega)
         replace hO15 := hO15.upd1 hU42 (by intro h1; have h3 : ((w14.heap.size ≤ (D40 + 1)) ∧ (D40 + 1) < w15.heap.size) := h1; omega)
         replace hP15 := hP15.upd1 hU42 (by intro h1; have h3 : ((w14.heap.size ≤ (D40 + 1)) ∧ (D40 + 1) < w15.heap.size) := h1; omega)
         replace hb21 := hb21.upd1 hU42 (by omega)
         replace hb35 := hb35.upd1 hU42 (by omega)
         replace HU := HU.trans1 hU42 (by show (False) ∨ w.heap.size ≤ (D40 + 1); omega)
         replace HB40 := HB40.trans1 hU42 (by show ((D40 + 1) = B38 ∨ (D40 + 1) = D40 + 1) ∨ w41.heap.size ≤ (D40 + 1); omega)
         clear hrc40
         have hrc40 := hrc40b
         clear hrc40b
         refine W_block ?_
         refine W_seq ?_
         refine W_seq ?_
         refine W_region ?_
         refine Wl_load (v := .int .i64 ((i41 : Nat) : Int)) Try.isAgg3 rfl hb38 rfl ?_
         refine Wl_load (v := .slice a10 (nb l (wn b) (tbt b)) c10) Try.isAgg23 rfl hb7 rfl ?_
         refine Wl_v (r_len Try.underlying23 rfl) ?_
         refine Wl_v (r_ge rfl rfl) ?_
         refine Wl_v (r_mv (v := .bool (decide ((((nb l (wn b) (tbt b)) : Nat) : Int) ≤ ((i41 : Nat) : Int)))) rfl) ?_
         have q11 : ¬ ((((nb l (wn b) (tbt b)) : Nat) : Int) ≤ ((i41 : Nat) : Int)) := (by omega)
         rw [decide_eq_false q11]
         refine Wl_guard_t rfl ?_
         refine Wl_v (r_mv (v := .int .u8 ((nd l (wn b) (st l (wn b) (tbt b) i41)).1)) rfl) ?_
         refine Wl_guard_t rfl ?_
         refine Wl_load (v := .slice a10 (nb l (wn b) (tbt b)) c10) Try.isAgg23 rfl hb7 rfl ?_
         refine Wl_guard_t rfl ?_
         refine Wl_load (v := .int .i64 ((i41 : Nat) : Int)) Try.isAgg3 rfl hb38 rfl ?_
         refine Wl_guard_t rfl ?_
         refine Wl_idxi Try.underlying23 Try.sizeOf5 rfl rfl hO10.sl (by omega) (by omega) ?_
         intro ib43 io43 hc43
         rw [Int.toNat_natCast] at hc43
         refine Wl_guard_t rfl ?_
         refine Wl_loadc Try.isAgg5 rfl hc43 ?_
         refine Wl_guard_t rfl ?_
         refine Wl_v (r_ne rfl rfl) ?_
         refine Wl_v (r_pick_f (v := .bool (decide (((nd l (wn b) (st l (wn b) (tbt b) i41)).1) ≠ ((yms l (wn b) (tbt b) (nb l (wn b) (tbt b))).getD i41 0)))) rfl rfl) ?_
         refine Wl_v (r_mv (v := .bool (decide (((nd l (wn b) (st l (wn b) (tbt b) i41)).1) ≠ ((yms l (wn b) (tbt b) (nb l (wn b) (tbt b))).getD i41 0)))) rfl) ?_
         have q12 : ¬ (((nd l (wn b) (st l (wn b) (tbt b) i41)).1) ≠ ((yms l (wn b) (tbt b) (nb l (wn b) (tbt b))).getD i41 0)) := (fun h => h hyg.symm)
         rw [decide_eq_false q12]
         refine Wl_guard_t rfl ?_
         refine Wl_v (r_mv (v := .int .i64 ((st l (wn b) (tbt b) (i41 + 1) : Nat) : Int)) rfl) ?_
         refine Wl_guard_t rfl ?_
         refine Wl_load (v := .slice e10 (nb l (wn b) (tbt b)) f10) Try.isAgg22 rfl hb8 rfl ?_
         refine Wl_guard_t rfl ?_
         refine Wl_load (v := .int .i64 ((i41 : Nat) : Int)) Try.isAgg3 rfl hb38 rfl ?_
         refine Wl_guard_t rfl ?_
         refine Wl_idxi Try.underlying22 Try.sizeOf3 rfl rfl hP10.sl (by omega) (by omega) ?_
         intro ib44 io44 hc44
         rw [Int.toNat_natCast] at hc44
         refine Wl_guard_t rfl ?_
         refine Wl_loadc Try.isAgg3 rfl hc44 ?_
         refine Wl_guard_t rfl ?_
         refine Wl_v (r_ne rfl rfl) ?_
         refine Wl_v (r_pick_f (v := .bool (decide (((st l (wn b) (tbt b) (i41 + 1) : Nat) : Int) ≠ ((sts l (wn b) (tbt b) (nb l (wn b) (tbt b))).getD i41 0)))) rfl rfl) ?_
         refine Wl_nil ?_
         have q13 : ¬ (((st l (wn b) (tbt b) (i41 + 1) : Nat) : Int) ≠ ((sts l (wn b) (tbt b) (nb l (wn b) (tbt b))).getD i41 0)) := (fun h => h hsg.symm)
         rw [decide_eq_false q13]
         refine W_cond_f rfl ?_
         refine W_skip ?_
         refine W_seq ?_
         refine W_region ?_
         refine Wl_load (v := .int .i64 ((i41 : Nat) : Int)) Try.isAgg3 rfl hb38 rfl ?_
         refine Wl_v (r_add rfl rfl (wi64 (by omega) (by omega))) ?_
         refine Wl_store (v := .int .i64 (((i41 : Nat) : Int) + 1)) (cs' := [.int .i64 (((i41 : Nat) : Int) + 1)]) Try.sizeOf3 rfl rfl rfl rfl hb38 rfl rfl ?_
         intro w45 hU45 hzz45 hb38n
         replace hb38 := hb38n; clear hb38n
         have hzw45 := hU45.size
         replace hrc40 := hrc40.upd1 hU45 (by omega)
         replace hdf40 := hdf40.upd1 hU45 (by omega)
         replace hdf25 := hdf25.upd1 hU45 (by omega)
         replace hb23 := hb23.upd1 hU45 (by omega)
         replace hb1 := hb1.upd1 hU45 (by omega)
         replace hb2 := hb2.upd1 hU45 (by omega)
         replace hb7 := hb7.upd1 hU45 (by omega)
         replace hb8 := hb8.upd1 hU45 (by omega)
         replace hO10 := hO10.upd1 hU45 (by intro h1; have h3 : ((w9.heap.size ≤ B38) ∧ B38 < w10.heap.size) := h1; omega)
         replace hP10 := hP10.upd1 hU45 (by intro h1; have h3 : ((w9.heap.size ≤ B38) ∧ B38 < w10.heap.size) := h1; omega)
         replace hBl15 := hBl15.upd1 hU45 (by omega)
         replace hBb15 := hBb15.upd1 hU45 (by omega)
         replace hO15 := hO15.upd1 hU45 (by intro h1; have h3 : ((w14.heap.size ≤ B38) ∧ B38 < w15.heap.size) := h1; omega)
         replace hP15 := hP15.upd1 hU45 (by intro h1; have h3 : ((w14.heap.size ≤ B38) ∧ B38 < w15.heap.size) := h1; omega)
         replace hb21 := hb21.upd1 hU45 (by omega)
         replace hb35 := hb35.upd1 hU45 (by omega)
         replace HU := HU.trans1 hU45 (by show (False) ∨ w.heap.size ≤ B38; omega)
         replace HB40 := HB40.trans1 hU45 (by show (B38 = B38 ∨ B38 = D40 + 1) ∨ w41.heap.size ≤ B38; omega)
         refine Wl_nil ?_
         refine W_seq ?_
         refine W_region ?_
         refine Wl_load (v := .int .i64 1) Try.isAgg3 rfl hb35 rfl ?_
         refine Wl_v (v := .bool false) (r_eq (a := 1) (b := 0) rfl rfl) ?_
         refine Wl_v (r_mv (v := .bool false) rfl) ?_
         refine Wl_guard_f rfl ?_
         refine Wl_guard_f rfl ?_
         refine Wl_guard_f rfl ?_
         refine Wl_v (r_pick_f (v := .bool false) rfl rfl) ?_
         refine Wl_nil ?_
         refine W_cond_f rfl ?_
         refine W_skip ?_
         refine ⟨rfl, _, hrc40, ?_⟩
         intro w46 hU46 hzz46 hrz
         have hzw46 := hU46.size
         replace hdf40 := hdf40.upd1 hU46 (by omega)
         replace hb38 := hb38.upd1 hU46 (by omega)
         replace hdf25 := hdf25.upd1 hU46 (by omega)
         replace hb23 := hb23.upd1 hU46 (by omega)
         replace hb1 := hb1.upd1 hU46 (by omega)
         replace hb2 := hb2.upd1 hU46 (by omega)
         replace hb7 := hb7.upd1 hU46 (by omega)
         replace hb8 := hb8.upd1 hU46 (by omega)
         replace hO10 := hO10.upd1 hU46 (by intro h1; have h3 : ((w9.heap.size ≤ (D40 + 1)) ∧ (D40 + 1) < w10.heap.size) := h1; omega)
         replace hP10 := hP10.upd1 hU46 (by intro h1; have h3 : ((w9.heap.size ≤ (D40 + 1)) ∧ (D40 + 1) < w10.heap.size) := h1; omega)
         replace hBl15 := hBl15.upd1 hU46 (by omega)
         replace hBb15 := hBb15.upd1 hU46 (by omega)
         replace hO15 := hO15.upd1 hU46 (by intro h1; have h3 : ((w14.heap.size ≤ (D40 + 1)) ∧ (D40 + 1) < w15.heap.size) := h1; omega)
         replace hP15 := hP15.upd1 hU46 (by intro h1; have h3 : ((w14.heap.size ≤ (D40 + 1)) ∧ (D40 + 1) < w15.heap.size) := h1; omega)
         replace hb21 := hb21.upd1 hU46 (by omega)
         replace hb35 := hb35.upd1 hU46 (by omega)
         replace HU := HU.trans1 hU46 (by show (False) ∨ w.heap.size ≤ (D40 + 1); omega)
         replace HB40 := HB40.trans1 hU46 (by show ((D40 + 1) = B38 ∨ (D40 + 1) = D40 + 1) ∨ w41.heap.size ≤ (D40 + 1); omega)
         exact Or.inl ⟨rfl, HB40, (hJ40 _ _).2 ⟨(by rw [hr40]; rw [hr40] at hrz; exact hrz), hdf40, hb38, hdf25, hb23, hb1, hb2, hb7, hb8, hO10, hP10, hBl15, hBb15, hO15, hP15, hb21, hb35, HU⟩⟩
        ·rintro b c w9 (⟨rfl, h1, h2⟩ | ⟨rfl, h1⟩)
         ·exact Or.inl ⟨rfl, h1, h2⟩
         ·exact Or.inr ⟨rfl, h1⟩
       rintro e w47 ⟨v, rfl, hh | hh⟩
       ·obtain ⟨hrc40, hdf40, hb38, hdf25, hb23, hb1, hb2, hb7, hb8, hO10, hP10, hBl15, hBb15, hO15, hP15, hb21, hb35, HU⟩ := (hJ40 _ _).1 hh
        have hrl40 := hrc40.lt
        refine ⟨r40, hrc40, (by rw [hr40]; simp), ?_⟩
        intro w48 hU48 hzz48
        have hzw48 := hU48.size
        replace hdf40 := hdf40.upd1 hU48 (by omega)
        replace hb38 := hb38.upd1 hU48 (by omega)
        replace hdf25 := hdf25.upd1 hU48 (by omega)
        replace hb2 := hb2.upd1 hU48 (by omega)
        replace hb7 := hb7.upd1 hU48 (by omega)
        replace hb35 := hb35.upd1 hU48 (by omega)
        replace HU := HU.trans1 hU48 (by show (False) ∨ w.heap.size ≤ (D40 + 1); omega)
        rw [hr40]
        skip
        refine W_seq ?_
        refine W_region ?_
        refine Wl_load (v := .int .i64 1) Try.isAgg3 rfl hb35 rfl ?_
        refine Wl_v (v := .bool false) (r_eq (a := 1) (b := 0) rfl rfl) ?_
        refine Wl_v (r_mv (v := .bool false) rfl) ?_
        refine Wl_guard_f rfl ?_
        refine Wl_guard_f rfl ?_
        refine Wl_guard_f rfl ?_
        refine Wl_guard_f rfl ?_
        refine Wl_guard_f rfl ?_
        refine Wl_guard_f rfl ?_
        refine Wl_guard_f rfl ?_
        refine Wl_v (r_pick_f (v := .bool false) rfl rfl) ?_
        refine Wl_v (r_mv (v := .bool false) rfl) ?_
        refine Wl_guard_t rfl ?_
        refine Wl_load (v := .int .i64 1) Try.isAgg3 rfl hb35 rfl ?_
        refine Wl_guard_t rfl ?_
        refine Wl_v (v := .bool true) (r_eq (a := 1) (b := 1) rfl rfl) ?_
        refine Wl_guard_t rfl ?_
        refine Wl_v (r_mv (v := .bool true) rfl) ?_
        refine Wl_guard_t rfl ?_
        refine Wl_load (v := .int .i64 ((nb l (wn b) (tbt b) : Nat) : Int)) Try.isAgg3 rfl hb38 rfl ?_
        refine Wl_guard_t rfl ?_
        refine Wl_load (v := .slice a10 (nb l (wn b) (tbt b)) c10) Try.isAgg23 rfl hb7 rfl ?_
        refine Wl_guard_t rfl ?_
        refine Wl_v (r_len Try.underlying23 rfl) ?_
        refine Wl_guard_t rfl ?_
        refine Wl_v (r_ne rfl rfl) ?_
        refine Wl_guard_t rfl ?_
        refine Wl_v (r_pick_t (v := .bool (decide (((nb l (wn b) (tbt b) : Nat) : Int) ≠ (((nb l (wn b) (tbt b)) : Nat) : Int)))) rfl rfl) ?_
        refine Wl_v (r_pick_f (v := .bool (decide (((nb l (wn b) (tbt b) : Nat) : Int) ≠ (((nb l (wn b) (tbt b)) : Nat) : Int)))) rfl rfl) ?_
        refine Wl_nil ?_
        have q14 : ¬ (((nb l (wn b) (tbt b) : Nat) : Int) ≠ (((nb l (wn b) (tbt b)) : Nat) : Int)) := (by omega)
        rw [decide_eq_false q14]
        refine W_cond_f rfl ?_
        refine W_skip ?_
        refine W_seq ?_
        refine W_seq ?_
        refine W_region ?_
        refine Wl_load (v := .int .i64 1) Try.isAgg3 rfl hb35 rfl ?_
        refine Wl_nil ?_
        refine W_region ?_
        refine Wl_alloc (cs := [.int .i64 0]) Try.zeroValue3 rfl ?_
        intro B49 w49 hB49 hU49 hzz49 hb49
        have hzw49 := hU49.size
        replace hdf40 := hdf40.upd0 hU49
        replace hdf25 := hdf25.upd0 hU49
        replace hb2 := hb2.upd0 hU49
        replace HU := HU.trans0 hU49
        refine Wl_store (v := .int .i64 1) (cs' := [.int .i64 1]) Try.sizeOf3 rfl rfl rfl rfl hb49 rfl rfl ?_
        intro w50 hU50 hzz50 hb49n
        replace hb49 := hb49n; clear hb49n
        have hzw50 := hU50.size
        replace hdf40 := hdf40.upd1 hU50 (by omega)
        replace hdf25 := hdf25.upd1 hU50 (by omega)
        replace hb2 := hb2.upd1 hU50 (by omega)
        replace HU := HU.trans1 hU50 (by show (False) ∨ w.heap.size ≤ B49; omega)
        refine Wl_nil ?_
        refine W_region ?_
        refine Wl_load (v := .int .i64 1) Try.isAgg3 rfl hb49 rfl ?_
        refine Wl_v (r_add rfl rfl (show IntKind.i64.wrap (1 + 1) = 2 by decide)) ?_
        refine Wl_store (v := .int .i64 2) (cs' := [.int .i64 2]) Try.sizeOf3 rfl rfl rfl rfl hb49 rfl rfl ?_
        intro w51 hU51 hzz51 hb49n
        replace hb49 := hb49n; clear hb49n
        have hzw51 := hU51.size
        replace hdf40 := hdf40.upd1 hU51 (by omega)
        replace hdf25 := hdf25.upd1 hU51 (by omega)
        replace hb2 := hb2.upd1 hU51 (by omega)
        replace HU := HU.trans1 hU51 (by show (False) ∨ w.heap.size ≤ B49; omega)
        refine Wl_nil ?_
        refine W_seq ?_
        refine W_seq ?_
        refine W_region ?_
        refine Wl_load (v := .int .i64 2) Try.isAgg3 rfl hb49 rfl ?_
        refine Wl_v (v := .bool false) (r_lt (a := 2) (b := 2) rfl rfl) ?_
        refine Wl_nil ?_
        refine W_cond_f rfl ?_
        refine W_exit ?_
        refine W_seq ?_
        refine W_region ?_
        refine Wl_call (r_call0 rfl Try.call11 ) (works17 _ ) ?_
        rintro v w52 ⟨rfl, hU52⟩
        have hzw52 := hU52.size
        replace hdf40 := hdf40.upd0 hU52
        replace hdf25 := hdf25.upd0 hU52
        replace hb2 := hb2.upd0 hU52
        replace HU := HU.trans0 hU52
        refine Wl_store (v := .bool true) (cs' := [.bool true]) Try.sizeOf4 rfl rfl rfl rfl hb2 rfl rfl ?_
        intro w53 hU53 hzz53 hb2n
        replace hb2 := hb2n; clear hb2n
        have hzw53 := hU53.size
        replace hdf40 := hdf40.upd1 hU53 (by omega)
        replace hdf25 := hdf25.upd1 hU53 (by omega)
        replace HU := HU.trans1 hU53 (by show (False) ∨ w.heap.size ≤ B2; omega)
        refine Wl_nil ?_
        refine W_ret ?_
        refine ret_ds rfl ?_
        refine lv_mark (by simp) hdf40 ?_
        intro w54 hU54 hzz54
        have hzw54 := hU54.size
        replace hdf25 := hdf25.upd1 hU54 (by omega)
        replace hb2 := hb2.upd1 hU54 (by omega)
        replace HU := HU.trans1 hU54 (by show (False) ∨ w.heap.size ≤ D40; omega)
        refine lv_mark (by simp) hdf25 ?_
        intro w55 hU55 hzz55
        have hzw55 := hU55.size
        replace hb2 := hb2.upd1 hU55 (by omega)
        replace HU := HU.trans1 hU55 (by show (False) ∨ w.heap.size ≤ D25; omega)
        refine lv_nil (v := .bool true) (rc1 Try.results9 rfl (cellIs Try.isAgg4 hb2)) ?_
        exact ⟨_, rfl, rfl, HU⟩
       ·exact ((hJx40 _).1 hh).elim
      ·obtain ⟨ij, hrc25, hdf25, hb23, hb1, hb2, hb7, hb8, hO10, hP10, hBl15, hBb15, hO15, hP15, hb21, HU, hq0, hq1, hq2⟩ := (hJx25 _).1 hh
       have hrl25 := hrc25.lt
       refine ⟨_, hrc25, (by simp), ?_⟩
       intro w56 hU56 hzz56
       have hzw56 := hU56.size
       replace hdf25 := hdf25.upd1 hU56 (by omega)
       replace hb23 := hb23.upd1 hU56 (by omega)
       replace hb1 := hb1.upd1 hU56 (by omega)
       replace hb2 := hb2.upd1 hU56 (by omega)
       replace hb7 := hb7.upd1 hU56 (by omega)
       replace hb8 := hb8.upd1 hU56 (by omega)
       replace hO10 := hO10.upd1 hU56 (by intro h1; have h3 : ((w9.heap.size ≤ (D25 + 1)) ∧ (D25 + 1) < w10.heap.size) := h1; omega)
       replace hP10 := hP10.upd1 hU56 (by intro h1; have h3 : ((w9.heap.size ≤ (D25 + 1)) ∧ (D25 + 1) < w10.heap.size) := h1; omega)
       replace hBl15 := hBl15.upd1 hU56 (by omega)
       replace hBb15 := hBb15.upd1 hU56 (by omega)
       replace hO15 := hO15.upd1 hU56 (by intro h1; have h3 : ((w14.heap.size ≤ (D25 + 1)) ∧ (D25 + 1) < w15.heap.size) := h1; omega)
       replace hP15 := hP15.upd1 hU56 (by intro h1; have h3 : ((w14.heap.size ≤ (D25 + 1)) ∧ (D25 + 1) < w15.heap.size) := h1; omega)
       replace hb21 := hb21.upd1 hU56 (by omega)
       replace HU := HU.trans1 hU56 (by show (False) ∨ w.heap.size ≤ (D25 + 1); omega)
       refine W_exit ?_
       refine W_seq ?_
       refine W_region ?_
       refine Wl_load (v := .int .i64 0) Try.isAgg3 rfl hb21 rfl ?_
       refine Wl_v (v := .bool true) (r_eq (a := 0) (b := 0) rfl rfl) ?_
       refine Wl_v (r_mv (v := .bool true) rfl) ?_
       refine Wl_guard_t rfl ?_
       refine Wl_load (v := .int .i64 (((ij : Nat) : Int) + 1)) Try.isAgg3 rfl hb23 rfl ?_
       refine Wl_guard_t rfl ?_
       refine Wl_load (v := .slice a10 (nb l (wn b) (tbt b)) c10) Try.isAgg23 rfl hb7 rfl ?_
       refine Wl_guard_t rfl ?_
       refine Wl_v (r_len Try.underlying23 rfl) ?_
       refine Wl_guard_t rfl ?_
       refine Wl_load (v := .int .i64 many) Try.isAgg3 rfl hb1 rfl ?_
       refine Wl_guard_t rfl ?_
       refine Wl_v (r_max rfl rfl) ?_
       refine Wl_guard_t rfl ?_
       refine Wl_v (r_min rfl rfl) ?_
       refine Wl_guard_t rfl ?_
       refine Wl_v (r_ne rfl rfl) ?_
       refine Wl_v (r_pick_t (v := .bool (decide ((((ij : Nat) : Int) + 1) ≠ (min (((nb l (wn b) (tbt b)) : Nat) : Int) (max 1 many))))) rfl rfl) ?_
       refine Wl_v (r_mv (v := .bool (decide ((((ij : Nat) : Int) + 1) ≠ (min (((nb l (wn b) (tbt b)) : Nat) : Int) (max 1 many))))) rfl) ?_
       have q15 : ¬ ((((ij : Nat) : Int) + 1) ≠ (min (((nb l (wn b) (tbt b)) : Nat) : Int) (max 1 many))) := (by omega)
       rw [decide_eq_false q15]
       refine Wl_guard_t rfl ?_
       refine Wl_load (v := .int .i64 0) Try.isAgg3 rfl hb21 rfl ?_
       refine Wl_guard_t rfl ?_
       refine Wl_v (v := .bool false) (r_eq (a := 0) (b := 1) rfl rfl) ?_
       refine Wl_guard_t rfl ?_
       refine Wl_v (r_mv (v := .bool false) rfl) ?_
       refine Wl_guard_f rfl ?_
       refine Wl_guard_f rfl ?_
       refine Wl_guard_f rfl ?_
       refine Wl_guard_f rfl ?_
       refine Wl_guard_t rfl ?_
       refine Wl_v (r_pick_f (v := .bool false) rfl rfl) ?_
       refine Wl_v (r_pick_f (v := .bool false) rfl rfl) ?_
       refine Wl_nil ?_
       refine W_cond_f rfl ?_
       refine W_skip ?_
       refine W_seq ?_
       refine W_seq ?_
       refine W_region ?_
       refine Wl_load (v := .int .i64 0) Try.isAgg3 rfl hb21 rfl ?_
       refine Wl_nil ?_
       refine W_region ?_
       refine Wl_alloc (cs := [.int .i64 0]) Try.zeroValue3 rfl ?_
       intro B57 w57 hB57 hU57 hzz57 hb57
       have hzw57 := hU57.size
       replace hdf25 := hdf25.upd0 hU57
       replace hb23 := hb23.upd0 hU57
       replace hb1 := hb1.upd0 hU57
       replace hb2 := hb2.upd0 hU57
       replace hb7 := hb7.upd0 hU57
       replace hb8 := hb8.upd0 hU57
       replace hO10 := hO10.upd0 hU57
       replace hP10 := hP10.upd0 hU57
       replace hBl15 := hBl15.upd0 hU57
       replace hBb15 := hBb15.upd0 hU57
       replace hO15 := hO15.upd0 hU57
       replace hP15 := hP15.upd0 hU57
       replace hb21 := hb21.upd0 hU57
       replace HU := HU.trans0 hU57
       refine Wl_store (v := .int .i64 0) (cs' := [.int .i64 0]) Try.sizeOf3 rfl rfl rfl rfl hb57 rfl rfl ?_
       intro w58 hU58 hzz58 hb57n
       replace hb57 := hb57n; clear hb57n
       have hzw58 := hU58.size
       replace hdf25 := hdf25.upd1 hU58 (by omega)
       replace hb23 := hb23.upd1 hU58 (by omega)
       replace hb1 := hb1.upd1 hU58 (by omega)
       replace hb2 := hb2.upd1 hU58 (by omega)
       replace hb7 := hb7.upd1 hU58 (by omega)
       replace hb8 := hb8.upd1 hU58 (by omega)
       replace hO10 := hO10.upd1 hU58 (by intro h1; have h3 : ((w9.heap.size ≤ B57) ∧ B57 < w10.heap.size) := h1; omega)
       replace hP10 := hP10.upd1 hU58 (by intro h1; have h3 : ((w9.heap.size ≤ B57) ∧ B57 < w10.heap.size) := h1; omega)
       replace hBl15 := hBl15.upd1 hU58 (by omega)
       replace hBb15 := hBb15.upd1 hU58 (by omega)
       replace hO15 := hO15.upd1 hU58 (by intro h1; have h3 : ((w14.heap.size ≤ B57) ∧ B57 < w15.heap.size) := h1; omega)
       replace hP15 := hP15.upd1 hU58 (by intro h1; have h3 : ((w14.heap.size ≤ B57) ∧ B57 < w15.heap.size) := h1; omega)
       replace hb21 := hb21.upd1 hU58 (by omega)
       replace HU := HU.trans1 hU58 (by show (False) ∨ w.heap.size ≤ B57; omega)
       refine Wl_nil ?_
       refine W_region ?_
       refine Wl_load (v := .int .i64 0) Try.isAgg3 rfl hb57 rfl ?_
       refine Wl_v (r_add rfl rfl (show IntKind.i64.wrap (0 + 1) = 1 by decide)) ?_
       refine Wl_store (v := .int .i64 1) (cs' := [.int .i64 1]) Try.sizeOf3 rfl rfl rfl rfl hb57 rfl rfl ?_
       intro w59 hU59 hzz59 hb57n
       replace hb57 := hb57n; clear hb57n
       have hzw59 := hU59.size
       replace hdf25 := hdf25.upd1 hU59 (by omega)
       replace hb23 := hb23.upd1 hU59 (by omega)
       replace hb1 := hb1.upd1 hU59 (by omega)
       replace hb2 := hb2.upd1 hU59 (by omega)
       replace hb7 := hb7.upd1 hU59 (by omega)
       replace hb8 := hb8.upd1 hU59 (by omega)
       replace hO10 := hO10.upd1 hU59 (by intro h1; have h3 : ((w9.heap.size ≤ B57) ∧ B57 < w10.heap.size) := h1; omega)
       replace hP10 := hP10.upd1 hU59 (by intro h1; have h3 : ((w9.heap.size ≤ B57) ∧ B57 < w10.heap.size) := h1; omega)
       replace hBl15 := hBl15.upd1 hU59 (by omega)
       replace hBb15 := hBb15.upd1 hU59 (by omega)
       replace hO15 := hO15.upd1 hU59 (by intro h1; have h3 : ((w14.heap.size ≤ B57) ∧ B57 < w15.heap.size) := h1; omega)
       replace hP15 := hP15.upd1 hU59 (by intro h1; have h3 : ((w14.heap.size ≤ B57) ∧ B57 < w15.heap.size) := h1; omega)
       replace hb21 := hb21.upd1 hU59 (by omega)
       replace HU := HU.trans1 hU59 (by show (False) ∨ w.heap.size ≤ B57; omega)
       refine Wl_nil ?_
       refine W_seq ?_
       refine W_seq ?_
       refine W_region ?_
       refine Wl_load (v := .int .i64 1) Try.isAgg3 rfl hb57 rfl ?_
       refine Wl_v (v := .bool true) (r_lt (a := 1) (b := 2) rfl rfl) ?_
       refine Wl_nil ?_
       refine W_cond_t rfl ?_
       refine W_skip ?_
       refine W_seq ?_
       refine W_block ?_
       refine W_seq ?_
       refine W_region ?_
       refine Wl_alloc (cs := [.int .i64 0]) Try.zeroValue3 rfl ?_
       intro B60 w60 hB60 hU60 hzz60 hb60
       have hzw60 := hU60.size
       replace hdf25 := hdf25.upd0 hU60
       replace hb23 := hb23.upd0 hU60
       replace hb1 := hb1.upd0 hU60
       replace hb2 := hb2.upd0 hU60
       replace hb7 := hb7.upd0 hU60
       replace hb8 := hb8.upd0 hU60
       replace hO10 := hO10.upd0 hU60
       replace hP10 := hP10.upd0 hU60
       replace hBl15 := hBl15.upd0 hU60
       replace hBb15 := hBb15.upd0 hU60
       replace hO15 := hO15.upd0 hU60
       replace hP15 := hP15.upd0 hU60
       replace hb21 := hb21.upd0 hU60
       replace HU := HU.trans0 hU60
       replace hb57 := hb57.upd0 hU60
       refine Wl_store (v := .int .i64 0) (cs' := [.int .i64 0]) Try.sizeOf3 rfl rfl rfl rfl hb60 rfl rfl ?_
       intro w61 hU61 hzz61 hb60n
       replace hb60 := hb60n; clear hb60n
       have hzw61 := hU61.size
       replace hdf25 := hdf25.upd1 hU61 (by omega)
       replace hb23 := hb23.upd1 hU61 (by omega)
       replace hb1 := hb1.upd1 hU61 (by omega)
       replace hb2 := hb2.upd1 hU61 (by omega)
       replace hb7 := hb7.upd1 hU61 (by omega)
       replace hb8 := hb8.upd1 hU61 (by omega)
       replace hO10 := hO10.upd1 hU61 (by intro h1; have h3 : ((w9.heap.size ≤ B60) ∧ B60 < w10.heap.size) := h1; omega)
       replace hP10 := hP10.upd1 hU61 (by intro h1; have h3 : ((w9.heap.size ≤ B60) ∧ B60 < w10.heap.size) := h1; omega)
       replace hBl15 := hBl15.upd1 hU61 (by omega)
       replace hBb15 := hBb15.upd1 hU61 (by omega)
       replace hO15 := hO15.upd1 hU61 (by intro h1; have h3 : ((w14.heap.size ≤ B60) ∧ B60 < w15.heap.size) := h1; omega)
       replace hP15 := hP15.upd1 hU61 (by intro h1; have h3 : ((w14.heap.size ≤ B60) ∧ B60 < w15.heap.size) := h1; omega)
       replace hb21 := hb21.upd1 hU61 (by omega)
       replace HU := HU.trans1 hU61 (by show (False) ∨ w.heap.size ≤ B60; omega)
       replace hb57 := hb57.upd1 hU61 (by omega)
       refine Wl_nil ?_
       refine W_seq ?_
       refine W_seq ?_
       refine W_region ?_
       refine Wl_v (r_mv (v := .func (.func 61) #[] #[.pointer (some ⟨Bl15, 0, none⟩), .pointer (some ⟨Bb15, 0, none⟩)]) rfl) ?_
       refine Wl_nil ?_
       refine W_block ?_
       refine W_range (gf := 61) (ar := fun y => #[y, .pointer (some ⟨Bl15, 0, none⟩), .pointer (some ⟨Bb15, 0, none⟩)]) rfl Try.call61 (fun y => by simp) ?_
       intro D62 fn62 w62 hD62 hU62 hzz62 hdf62 hrc620
       have hzw62 := hU62.size
       replace hdf25 := hdf25.upd0 hU62
       replace hb23 := hb23.upd0 hU62
       replace hb1 := hb1.upd0 hU62
       replace hb2 := hb2.upd0 hU62
       replace hb7 := hb7.upd0 hU62
       replace hb8 := hb8.upd0 hU62
       replace hO10 := hO10.upd0 hU62
       replace hP10 := hP10.upd0 hU62
       replace hBl15 := hBl15.upd0 hU62
       replace hBb15 := hBb15.upd0 hU62
       replace hO15 := hO15.upd0 hU62
       replace hP15 := hP15.upd0 hU62
       replace hb21 := hb21.upd0 hU62
       replace HU := HU.trans0 hU62
       replace hb57 := hb57.upd0 hU62
       replace hb60 := hb60.upd0 hU62
       obtain ⟨r62, hr62, hrc62⟩ : ∃ r, r = _ ∧ Rec w62 (D62 + 1) r := ⟨_, rfl, hrc620⟩
       clear hrc620
       obtain ⟨J62, hJ62⟩ : ∃ J : Nat → World → Prop, ∀ i w', J i w' ↔ (Rec w' (D62 + 1) r62 ∧ Dfr w' D62 ∧ Blk w' B60 [.int .i64 ((i : Nat) : Int)] ∧ Dfr w' D25 ∧ Blk w' B23 [.int .i64 (((ij : Nat) : Int) + 1)] ∧ Blk w' B1 [.int .i64 many] ∧ Blk w' B2 [.bool false] ∧ Blk w' B7 [.slice a10 (nb l (wn b) (tbt b)) c10] ∧ Blk w' B8 [.slice e10 (nb l (wn b) (tbt b)) f10] ∧ Own w' (fun g => ((w9.heap.size ≤ g) ∧ g < w10.heap.size)) 5 1 (.slice a10 (nb l (wn b) (tbt b)) c10) (nb l (wn b) (tbt b)) (ints .u8 (yms l (wn b) (tbt b) (nb l (wn b) (tbt b)))) ∧ Own w' (fun g => ((w9.heap.size ≤ g) ∧ g < w10.heap.size)) 3 1 (.slice e10 (nb l (wn b) (tbt b)) f10) (nb l (wn b) (tbt b)) (ints .i64 (sts l (wn b) (tbt b) (nb l (wn b) (tbt b)))) ∧ Blk w' Bl15 [.slice a15 n c15] ∧ Blk w' Bb15 [.slice e15 m f15] ∧ Own w' (fun g => ((w14.heap.size ≤ g) ∧ g < w15.heap.size)) 3 1 (.slice a15 n c15) n (ints .i64 l) ∧ Own w' (fun g => ((w14.heap.size ≤ g) ∧ g < w15.heap.size)) 5 1 (.slice e15 m f15) m (ints .u8 b) ∧ Blk w' B21 [.int .i64 0] ∧ Blk w' B57 [.int .i64 1] ∧ Upd No w w') := ⟨_, fun _ _ => Iff.rfl⟩
       obtain ⟨Jx62, hJx62⟩ : ∃ Jx : World → Prop, ∀ w', Jx w' ↔ (False) := ⟨_, fun _ => Iff.rfl⟩
       refine (oall1_spec (ly := (D62 + 1)) (J := J62) (Jx := Jx62) (Sb := (fun g => g = B60 ∨ g = D62 + 1)) (l := l) (b := b) w62 hBl15 hBb15 hO15.sl hP15.sl (by omega) (by omega) hb q3 q4 (by intro g h1 h2; have h4 : g = B60 ∨ g = D62 + 1 := h2; omega) ?_ ?_ ?_).mono ?_
       ·exact (hJ62 _ _).2 ⟨hrc62, hdf62, hb60, hdf25, hb23, hb1, hb2, hb7, hb8, hO10, hP10, hBl15, hBb15, hO15, hP15, hb21, hb57, HU⟩
       ·intro i wa wb hh hUs
        obtain ⟨hrc62, hdf62, hb60, hdf25, hb23, hb1, hb2, hb7, hb8, hO10, hP10, hBl15, hBb15, hO15, hP15, hb21, hb57, HU⟩ := (hJ62 _ _).1 hh
        replace hrc62 := hrc62.upd hUs (by show ¬ (_ ≤ _); omega)
        replace hdf62 := hdf62.upd hUs (by show ¬ (_ ≤ _); omega)
        replace hb60 := hb60.upd hUs (by show ¬ (_ ≤ _); omega)
        replace hdf25 := hdf25.upd hUs (by show ¬ (_ ≤ _); omega)
        replace hb23 := hb23.upd hUs (by show ¬ (_ ≤ _); omega)
        replace hb1 := hb1.upd hUs (by show ¬ (_ ≤ _); omega)
        replace hb2 := hb2.upd hUs (by show ¬ (_ ≤ _); omega)
        replace hb7 := hb7.upd hUs (by show ¬ (_ ≤ _); omega)
        replace hb8 := hb8.upd hUs (by show ¬ (_ ≤ _); omega)
        replace hO10 := hO10.upd hUs (by intro x h1 h2; have h3 : ((w9.heap.size ≤ x) ∧ x < w10.heap.size) := h1; have h4 : w62.heap.size ≤ x := h2; omega)
        replace hP10 := hP10.upd hUs (by intro x h1 h2; have h3 : ((w9.heap.size ≤ x) ∧ x < w10.heap.size) := h1; have h4 : w62.heap.size ≤ x := h2; omega)
        replace hBl15 := hBl15.upd hUs (by show ¬ (_ ≤ _); omega)
        replace hBb15 := hBb15.upd hUs (by show ¬ (_ ≤ _); omega)
        replace hO15 := hO15.upd hUs (by intro x h1 h2; have h3 : ((w14.heap.size ≤ x) ∧ x < w15.heap.size) := h1; have h4 : w62.heap.size ≤ x := h2; omega)
        replace hP15 := hP15.upd hUs (by intro x h1 h2; have h3 : ((w14.heap.size ≤ x) ∧ x < w15.heap.size) := h1; have h4 : w62.heap.size ≤ x := h2; omega)
        replace hb21 := hb21.upd hUs (by show ¬ (_ ≤ _); omega)
        replace hb57 := hb57.upd hUs (by show ¬ (_ ≤ _); omega)
        replace HU := HU.trans hUs (by intro x hx; have hx2 : w62.heap.size ≤ x := hx; show (False) ∨ w.heap.size ≤ x; omega)
        exact (hJ62 _ _).2 ⟨hrc62, hdf62, hb60, hdf25, hb23, hb1, hb2, hb7, hb8, hO10, hP10, hBl15, hBb15, hO15, hP15, hb21, hb57, HU⟩
       ·intro i63 w63 hi63 hh
        obtain ⟨hrc62, hdf62, hb60, hdf25, hb23, hb1, hb2, hb7, hb8, hO10, hP10, hBl15, hBb15, hO15, hP15, hb21, hb57, HU⟩ := (hJ62 _ _).1 hh
        have hrl62 := hrc62.lt
        have hyg : (yms l (wn b) (tbt b) (nb l (wn b) (tbt b))).getD i63 0 = (nd l (wn b) (st l (wn b) (tbt b) i63)).1 := tabn_get _ _ hi63
        have hsg : (sts l (wn b) (tbt b) (nb l (wn b) (tbt b))).getD i63 0 = ((st l (wn b) (tbt b) (i63 + 1) : Nat) : Int) := tabn_get _ _ hi63
        have HB62 : Upd (fun g => g = B60 ∨ g = D62 + 1) w63 w63 := Upd.refl _ _
        refine yieldC_of_W (R := fun b c w' => (b = true ∧ Upd (fun g => g = B60 ∨ g = D62 + 1) w63 w' ∧ J62 (i63 + 1) w') ∨ (b = false ∧ Jx62 w')) hrc62 (by rw [hr62]; rfl) (by rw [hr62]; exact zip2 _ _ _ _ _ _) ?_ ?_
        ·rw [hr62]
         refine W_seq ?_
         refine W_region ?_
         refine Wl_v (r_as (v := .int .i64 ((st l (wn b) (tbt b) (i63 + 1) : Nat) : Int)) rfl) ?_
         refine Wl_nil ?_
         refine W_region ?_
         refine Wl_v (r_as (v := .int .u8 ((nd l (wn b) (st l (wn b) (tbt b) i63)).1)) rfl) ?_
         refine Wl_nil ?_
         refine ⟨rfl, _, hrc62, (by rw [hr62]), ?_⟩
         intro w64 hU64 hzz64 hrc62b
         have hzw64 := hU64.size
         replace hdf62 := hdf62.upd1 hU64 (by omega)
         replace hb60 := hb60.upd1 hU64 (by omega)
         replace hdf25 := hdf25.upd1 hU64 (by omega)
         replace hb23 := hb23.upd1 hU64 (by omega)
         replace hb1 := hb1.upd1 hU64 (by omega)
         replace hb2 := hb2.upd1 hU64 (by omega)
         replace hb7 := hb7.upd1 hU64 (by omega)
         replace hb8 := hb8.upd1 hU64 (by omega)
         replace hO10 := hO10.upd1 hU64 (by intro h1; have h3 : ((w9.heap.size ≤ (D62 + 1)) ∧ (D62 + 1) < w10.heap.size) := h1; omega)
         replace hP10 := hP10.upd1 hU64 (by intro h1; have h3 : ((w9.heap.size ≤ (D62 + 1)) ∧ (D62 + 1) < w10.heap.size) := h1; omega)
         replace hBl15 := hBl15.upd1 hU64 (by omega)
         replace hBb15 := hBb15.upd1 hU64 (by omega)
         replace hO15 := hO15.upd1 hU64 (by intro h1; have h3 : ((w14.heap.size ≤ (D62 + 1)) ∧ (D62 + 1) < w15.heap.size) := h1; omega)
         replace hP15 := hP15.upd1 hU64 (by intro h1; have h3 : ((w14.heap.size ≤ (D62 + 1)) ∧ (D62 + 1) < w15.heap.size) := h1; omega)
         replace hb21 := hb21.upd1 hU64 (by omega)
         replace hb57 := hb57.upd1 hU64 (by omega)
         replace HU := HU.trans1 hU64 (by show (False) ∨ w.heap.size ≤ (D62 + 1); omega)
         replace HB62 := HB62.trans1 hU64 (by show ((D62 + 1) = B60 ∨ (D62 + 1) = D62 + 1) ∨ w63.heap.size ≤ (D62 + 1); omega)
         clear hrc62
         have hrc62 := hrc62b
         clear hrc62b
         refine W_block ?_
         refine W_seq ?_
         refine W_seq ?_
         refine W_region ?_
         refine Wl_load (v := .int .i64 ((i63 : Nat) : Int)) Try.isAgg3 rfl hb60 rfl ?_
         refine Wl_load (v := .slice a10 (nb l (wn b) (tbt b)) c10) Try.isAgg23 rfl hb7 rfl ?_
         refine Wl_v (r_len Try.underlying23 rfl) ?_
         refine Wl_v (r_ge rfl rfl) ?_
         refine Wl_v (r_mv (v := .bool (decide ((((nb l (wn b) (tbt b)) : Nat) : Int) ≤ ((i63 : Nat) : Int)))) rfl) ?_
         have q16 : ¬ ((((nb l (wn b) (tbt b)) : Nat) : Int) ≤ ((i63 : Nat) : Int)) := (by omega)
         rw [decide_eq_false q16]
         refine Wl_guard_t rfl ?_
         refine Wl_v (r_mv (v := .int .u8 ((nd l (wn b) (st l (wn b) (tbt b) i63)).1)) rfl) ?_
         refine Wl_guard_t rfl ?_
         refine Wl_load (v := .slice a10 (nb l (wn b) (tbt b)) c10) Try.isAgg23 rfl hb7 rfl ?_
         refine Wl_guard_t rfl ?_
         refine Wl_load (v := .int .i64 ((i63 : Nat) : Int)) Try.isAgg3 rfl hb60 rfl ?_
         refine Wl_guard_t rfl ?_
         refine Wl_idxi Try.underlying23 Try.sizeOf5 rfl rfl hO10.sl (by omega) (by omega) ?_
         intro ib65 io65 hc65
         rw [Int.toNat_natCast] at hc65
         refine Wl_guard_t rfl ?_
         refine Wl_loadc Try.isAgg5 rfl hc65 ?_
         refine Wl_guard_t rfl ?_
         refine Wl_v (r_ne rfl rfl) ?_
         refine Wl_v (r_pick_f (v := .bool (decide (((nd l (wn b) (st l (wn b) (tbt b) i63)).1) ≠ ((yms l (wn b) (tbt b) (nb l (wn b) (tbt b))).getD i63 0)))) rfl rfl) ?_
         refine Wl_v (r_mv (v := .bool (decide (((nd l (wn b) (st l (wn b) (tbt b) i63)).1) ≠ ((yms l (wn b) (tbt b) (nb l (wn b) (tbt b))).getD i63 0)))) rfl) ?_
         have q17 : ¬ (((nd l (wn b) (st l (wn b) (tbt b) i63)).1) ≠ ((yms l (wn b) (tbt b) (nb l (wn b) (tbt b))).getD i63 0)) := (fun h => h hyg.symm)
         rw [decide_eq_false q17]
         refine Wl_guard_t rfl ?_
         refine Wl_v (r_mv (v := .int .i64 ((st l (wn b) (tbt b) (i63 + 1) : Nat) : Int)) rfl) ?_
         refine Wl_guard_t rfl ?_
         refine Wl_load (v := .slice e10 (nb l (wn b) (tbt b)) f10) Try.isAgg22 rfl hb8 rfl ?_
         refine Wl_guard_t rfl ?_
         refine Wl_load (v := .int .i64 ((i63 : Nat) : Int)) Try.isAgg3 rfl hb60 rfl ?_
         refine Wl_guard_t rfl ?_
         refine Wl_idxi Try.underlying22 Try.sizeOf3 rfl rfl hP10.sl (by omega) (by omega) ?_
         intro ib66 io66 hc66
         rw [Int.toNat_natCast] at hc66
         refine Wl_guard_t rfl ?_
         refine Wl_loadc Try.isAgg3 rfl hc66 ?_
         refine Wl_guard_t rfl ?_
         refine Wl_v (r_ne rfl rfl) ?_
         refine Wl_v (r_pick_f (v := .bool (decide (((st l (wn b) (tbt b) (i63 + 1) : Nat) : Int) ≠ ((sts l (wn b) (tbt b) (nb l (wn b) (tbt b))).getD i63 0)))) rfl rfl) ?_
         refine Wl_nil ?_
         have q18 : ¬ (((st l (wn b) (tbt b) (i63 + 1) : Nat) : Int) ≠ ((sts l (wn b) (tbt b) (nb l (wn b) (tbt b))).getD i63 0)) := (fun h => h hsg.symm)
         rw [decide_eq_false q18]
         refine W_cond_f rfl ?_
         refine W_skip ?_
         refine W_seq ?_
         refine W_region ?_
         refine Wl_load (v := .int .i64 ((i63 : Nat) : Int)) Try.isAgg3 rfl hb60 rfl ?_
         refine Wl_v (r_add rfl rfl (wi64 (by omega) (by omega))) ?_
         refine Wl_store (v := .int .i64 (((i63 : Nat) : Int) + 1)) (cs' := [.int .i64 (((i63 : Nat) : Int) + 1)]) Try.sizeOf3 rfl rfl rfl rfl hb60 rfl rfl ?_
         intro w67 hU67 hzz67 hb60n
         replace hb60 := hb60n; clear hb60n
         have hzw67 := hU67.size
         replace hrc62 := hrc62.upd1 hU67 (by omega)
         replace hdf62 := hdf62.upd1 hU67 (by omega)
         replace hdf25 := hdf25.upd1 hU67 (by omega)
         replace hb23 := hb23.upd1 hU67 (by omega)
         replace hb1 := hb1.upd1 hU67 (by omega)
         replace hb2 := hb2.upd1 hU67 (by omega)
         replace hb7 := hb7.upd1 hU67 (by omega)
         replace hb8 := hb8.upd1 hU67 (by omega)
         replace hO10 := hO10.upd1 hU67 (by intro h1; have h3 : ((w9.heap.size ≤ B60) ∧ B60 < w10.heap.size) := h1; omega)
         replace hP10 := hP10.upd1 hU67 (by intro h1; have h3 : ((w9.heap.size ≤ B60) ∧ B60 < w10.heap.size) := h1; omega)
         replace hBl15 := hBl15.upd1 hU67 (by omega)
         replace hBb15 := hBb15.upd1 hU67 (by omega)
         replace hO15 := hO15.upd1 hU67 (by intro h1; have h3 : ((w14.heap.size ≤ B60) ∧ B60 < w15.heap.size) := h1; omega)
         replace hP15 := hP15.upd1 hU67 (by intro h1; have h3 : ((w14.heap.size ≤ B60) ∧ B60 < w15.heap.size) := h1; omega)
         replace hb21 := hb21.upd1 hU67 (by omega)
         replace hb57 := hb57.upd1 hU67 (by omega)
         replace HU := HU.trans1 hU67 (by show (False) ∨ w.heap.size ≤ B60; omega)
         replace HB62 := HB62.trans1 hU67 (by show (B60 = B60 ∨ B60 = D62 + 1) ∨ w63.heap.size ≤ B60; omega)
         refine Wl_nil ?_
         refine W_seq ?_
         refine W_region ?_
         refine Wl_load (v := .int .i64 1) Try.isAgg3 rfl hb57 rfl ?_
         refine Wl_v (v := .bool false) (r_eq (a := 1) (b := 0) rfl rfl) ?_
         refine Wl_v (r_mv (v := .bool false) rfl) ?_
         refine Wl_guard_f rfl ?_
         refine Wl_guard_f rfl ?_
         refine Wl_guard_f rfl ?_
         refine Wl_v (r_pick_f (v := .bool false) rfl rfl) ?_
         refine Wl_nil ?_
         refine W_cond_f rfl ?_
         refine W_skip ?_
         refine ⟨rfl, _, hrc62, ?_⟩
         intro w68 hU68 hzz68 hrz
         have hzw68 := hU68.size
         replace hdf62 := hdf62.upd1 hU68 (by omega)
         replace hb60 := hb60.upd1 hU68 (by omega)
         replace hdf25 := hdf25.upd1 hU68 (by omega)
         replace hb23 := hb23.upd1 hU68 (by omega)
         replace hb1 := hb1.upd1 hU68 (by omega)
         replace hb2 := hb2.upd1 hU68 (by omega)
         replace hb7 := hb7.upd1 hU68 (by omega)
         replace hb8 := hb8.upd1 hU68 (by omega)
         replace hO10 := hO10.upd1 hU68 (by intro h1; have h3 : ((w9.heap.size ≤ (D62 + 1)) ∧ (D62 + 1) < w10.heap.size) := h1; omega)
         replace hP10 := hP10.upd1 hU68 (by intro h1; have h3 : ((w9.heap.size ≤ (D62 + 1)) ∧ (D62 + 1) < w10.heap.size) := h1; omega)
         replace hBl15 := hBl15.upd1 hU68 (by omega)
         replace hBb15 := hBb15.upd1 hU68 (by omega)
         replace hO15 := hO15.upd1 hU68 (by intro h1; have h3 : ((w14.heap.size ≤ (D62 + 1)) ∧ (D62 + 1) < w15.heap.size) := h1; omega)
         replace hP15 := hP15.upd1 hU68 (by intro h1; have h3 : ((w14.heap.size ≤ (D62 + 1)) ∧ (D62 + 1) < w15.heap.size) := h1; omega)
         replace hb21 := hb21.upd1 hU68 (by omega)
         replace hb57 := hb57.upd1 hU68 (by omega)
         replace HU := HU.trans1 hU68 (by show (False) ∨ w.heap.size ≤ (D62 + 1); omega)
         replace HB62 := HB62.trans1 hU68 (by show ((D62 + 1) = B60 ∨ (D62 + 1) = D62 + 1) ∨ w63.heap.size ≤ (D62 + 1); omega)
         exact Or.inl ⟨rfl, HB62, (hJ62 _ _).2 ⟨(by rw [hr62]; rw [hr62] at hrz; exact hrz), hdf62, hb60, hdf25, hb23, hb1, hb2, hb7, hb8, hO10, hP10, hBl15, hBb15, hO15, hP15, hb21, hb57, HU⟩⟩
        ·rintro b c w9 (⟨rfl, h1, h2⟩ | ⟨rfl, h1⟩)
         ·exact Or.inl ⟨rfl, h1, h2⟩
         ·exact Or.inr ⟨rfl, h1⟩
       rintro e w69 ⟨v, rfl, hh | hh⟩
       ·obtain ⟨hrc62, hdf62, hb60, hdf25, hb23, hb1, hb2, hb7, hb8, hO10, hP10, hBl15, hBb15, hO15, hP15, hb21, hb57, HU⟩ := (hJ62 _ _).1 hh
        have hrl62 := hrc62.lt
        refine ⟨r62, hrc62, (by rw [hr62]; simp), ?_⟩
        intro w70 hU70 hzz70
        have hzw70 := hU70.size
        replace hdf62 := hdf62.upd1 hU70 (by omega)
        replace hb60 := hb60.upd1 hU70 (by omega)
        replace hdf25 := hdf25.upd1 hU70 (by omega)
        replace hb2 := hb2.upd1 hU70 (by omega)
        replace hb7 := hb7.upd1 hU70 (by omega)
        replace hb57 := hb57.upd1 hU70 (by omega)
        replace HU := HU.trans1 hU70 (by show (False) ∨ w.heap.size ≤ (D62 + 1); omega)
        rw [hr62]
        skip
        refine W_seq ?_
        refine W_region ?_
        refine Wl_load (v := .int .i64 1) Try.isAgg3 rfl hb57 rfl ?_
        refine Wl_v (v := .bool false) (r_eq (a := 1) (b := 0) rfl rfl) ?_
        refine Wl_v (r_mv (v := .bool false) rfl) ?_
        refine Wl_guard_f rfl ?_
        refine Wl_guard_f rfl ?_
        refine Wl_guard_f rfl ?_
        refine Wl_guard_f rfl ?_
        refine Wl_guard_f rfl ?_
        refine Wl_guard_f rfl ?_
        refine Wl_guard_f rfl ?_
        refine Wl_v (r_pick_f (v := .bool false) rfl rfl) ?_
        refine Wl_v (r_mv (v := .bool false) rfl) ?_
        refine Wl_guard_t rfl ?_
        refine Wl_load (v := .int .i64 1) Try.isAgg3 rfl hb57 rfl ?_
        refine Wl_guard_t rfl ?_
        refine Wl_v (v := .bool true) (r_eq (a := 1) (b := 1) rfl rfl) ?_
        refine Wl_guard_t rfl ?_
        refine Wl_v (r_mv (v := .bool true) rfl) ?_
        refine Wl_guard_t rfl ?_
        refine Wl_load (v := .int .i64 ((nb l (wn b) (tbt b) : Nat) : Int)) Try.isAgg3 rfl hb60 rfl ?_
        refine Wl_guard_t rfl ?_
        refine Wl_load (v := .slice a10 (nb l (wn b) (tbt b)) c10) Try.isAgg23 rfl hb7 rfl ?_
        refine Wl_guard_t rfl ?_
        refine Wl_v (r_len Try.underlying23 rfl) ?_
        refine Wl_guard_t rfl ?_
        refine Wl_v (r_ne rfl rfl) ?_
        refine Wl_guard_t rfl ?_
        refine Wl_v (r_pick_t (v := .bool (decide (((nb l (wn b) (tbt b) : Nat) : Int) ≠ (((nb l (wn b) (tbt b)) : Nat) : Int)))) rfl rfl) ?_
        refine Wl_v (r_pick_f (v := .bool (decide (((nb l (wn b) (tbt b) : Nat) : Int) ≠ (((nb l (wn b) (tbt b)) : Nat) : Int)))) rfl rfl) ?_
        refine Wl_nil ?_
        have q19 : ¬ (((nb l (wn b) (tbt b) : Nat) : Int) ≠ (((nb l (wn b) (tbt b)) : Nat) : Int)) := (by omega)
        rw [decide_eq_false q19]
        refine W_cond_f rfl ?_
        refine W_skip ?_
        refine W_seq ?_
        refine W_seq ?_
        refine W_region ?_
        refine Wl_load (v := .int .i64 1) Try.isAgg3 rfl hb57 rfl ?_
        refine Wl_nil ?_
        refine W_region ?_
        refine Wl_alloc (cs := [.int .i64 0]) Try.zeroValue3 rfl ?_
        intro B71 w71 hB71 hU71 hzz71 hb71
        have hzw71 := hU71.size
        replace hdf62 := hdf62.upd0 hU71
        replace hdf25 := hdf25.upd0 hU71
        replace hb2 := hb2.upd0 hU71
        replace HU := HU.trans0 hU71
        refine Wl_store (v := .int .i64 1) (cs' := [.int .i64 1]) Try.sizeOf3 rfl rfl rfl rfl hb71 rfl rfl ?_
        intro w72 hU72 hzz72 hb71n
        replace hb71 := hb71n; clear hb71n
        have hzw72 := hU72.size
        replace hdf62 := hdf62.upd1 hU72 (by omega)
        replace hdf25 := hdf25.upd1 hU72 (by omega)
        replace hb2 := hb2.upd1 hU72 (by omega)
        replace HU := HU.trans1 hU72 (by show (False) ∨ w.heap.size ≤ B71; omega)
        refine Wl_nil ?_
        refine W_region ?_
        refine Wl_load (v := .int .i64 1) Try.isAgg3 rfl hb71 rfl ?_
        refine Wl_v (r_add rfl rfl (show IntKind.i64.wrap (1 + 1) = 2 by decide)) ?_
        refine Wl_store (v := .int .i64 2) (cs' := [.int .i64 2]) Try.sizeOf3 rfl rfl rfl rfl hb71 rfl rfl ?_
        intro w73 hU73 hzz73 hb71n
        replace hb71 := hb71n; clear hb71n
        have hzw73 := hU73.size
        replace hdf62 := hdf62.upd1 hU73 (by omega)
        replace hdf25 := hdf25.upd1 hU73 (by omega)
        replace hb2 := hb2.upd1 hU73 (by omega)
        replace HU := HU.trans1 hU73 (by show (False) ∨ w.heap.size ≤ B71; omega)
        refine Wl_nil ?_
        refine W_seq ?_
        refine W_seq ?_
        refine W_region ?_
        refine Wl_load (v := .int .i64 2) Try.isAgg3 rfl hb71 rfl ?_
        refine Wl_v (v := .bool false) (r_lt (a := 2) (b := 2) rfl rfl) ?_
        refine Wl_nil ?_
        refine W_cond_f rfl ?_
        refine W_exit ?_
        refine W_seq ?_
        refine W_region ?_
        refine Wl_call (r_call0 rfl Try.call11 ) (works17 _ ) ?_
        rintro v w74 ⟨rfl, hU74⟩
        have hzw74 := hU74.size
        replace hdf62 := hdf62.upd0 hU74
        replace hdf25 := hdf25.upd0 hU74
        replace hb2 := hb2.upd0 hU74
        replace HU := HU.trans0 hU74
        refine Wl_store (v := .bool true) (cs' := [.bool true]) Try.sizeOf4 rfl rfl rfl rfl hb2 rfl rfl ?_
        intro w75 hU75 hzz75 hb2n
        replace hb2 := hb2n; clear hb2n
        have hzw75 := hU75.size
        replace hdf62 := hdf62.upd1 hU75 (by omega)
        replace hdf25 := hdf25.upd1 hU75 (by omega)
        replace HU := HU.trans1 hU75 (by show (False) ∨ w.heap.size ≤ B2; omega)
        refine Wl_nil ?_
        refine W_ret ?_
        refine ret_ds rfl ?_
        refine lv_mark (by simp) hdf62 ?_
        intro w76 hU76 hzz76
        have hzw76 := hU76.size
        replace hdf25 := hdf25.upd1 hU76 (by omega)
        replace hb2 := hb2.upd1 hU76 (by omega)
        replace HU := HU.trans1 hU76 (by show (False) ∨ w.heap.size ≤ D62; omega)
        refine lv_mark (by simp) hdf25 ?_
        intro w77 hU77 hzz77
        have hzw77 := hU77.size
        replace hb2 := hb2.upd1 hU77 (by omega)
        replace HU := HU.trans1 hU77 (by show (False) ∨ w.heap.size ≤ D25; omega)
        refine lv_nil (v := .bool true) (rc1 Try.results9 rfl (cellIs Try.isAgg4 hb2)) ?_
        exact ⟨_, rfl, rfl, HU⟩
       ·exact ((hJx62 _).1 hh).elim
    ·refine Wl_call (r_call2 rfl Try.call28 rfl rfl) (reach_no _ hs (by omega) hsb.any hb (by omega) q4) ?_
     rintro v w78 ⟨rfl, hU78⟩
     have hzw78 := hU78.size
     replace hs := hs.upd0 hU78
     replace hsb := hsb.upd0 hU78
     replace HU := HU.trans0 hU78
     replace hb1 := hb1.upd0 hU78
     replace hb2 := hb2.upd0 hU78
     replace hb7 := hb7.upd0 hU78
     replace hb8 := hb8.upd0 hU78
     refine Wl_v (r_mv (v := .tuple #[.slice none 0 0, .slice none 0 0, .bool false]) rfl) ?_
     refine Wl_v (r_ext (v := .slice none 0 0) rfl rfl) ?_
     refine Wl_v (r_ext (v := .slice none 0 0) rfl rfl) ?_
     refine Wl_v (r_ext (v := .bool false) rfl rfl) ?_
     refine Wl_store (v := .slice none 0 0) (cs' := [.slice none 0 0]) Try.sizeOf23 rfl rfl rfl rfl hb7 rfl rfl ?_
     intro w79 hU79 hzz79 hb7n
     replace hb7 := hb7n; clear hb7n
     have hzw79 := hU79.size
     replace hs := hs.upd1 hU79 (by intro h1; have h3 : B7 < w.heap.size := h1; omega)
     replace hsb := hsb.upd1 hU79 (by intro h1; have h3 : B7 < w.heap.size := h1; omega)
     replace HU := HU.trans1 hU79 (by show (False) ∨ w.heap.size ≤ B7; omega)
     replace hb1 := hb1.upd1 hU79 (by omega)
     replace hb2 := hb2.upd1 hU79 (by omega)
     replace hb8 := hb8.upd1 hU79 (by omega)
     refine Wl_store (v := .slice none 0 0) (cs' := [.slice none 0 0]) Try.sizeOf22 rfl rfl rfl rfl hb8 rfl rfl ?_
     intro w80 hU80 hzz80 hb8n
     replace hb8 := hb8n; clear hb8n
     have hzw80 := hU80.size
     replace hs := hs.upd1 hU80 (by intro h1; have h3 : B8 < w.heap.size := h1; omega)
     replace hsb := hsb.upd1 hU80 (by intro h1; have h3 : B8 < w.heap.size := h1; omega)
     replace HU := HU.trans1 hU80 (by show (False) ∨ w.heap.size ≤ B8; omega)
     replace hb1 := hb1.upd1 hU80 (by omega)
     replace hb2 := hb2.upd1 hU80 (by omega)
     replace hb7 := hb7.upd1 hU80 (by omega)
     refine Wl_nil ?_
     refine W_seq ?_
     refine W_region ?_
     refine Wl_lit0 Try.underlying23 Try.sizeOf5 ?_
     intro B81 w81 hB81 hU81 hzz81 hs81
     have hzw81 := hU81.size
     replace hs := hs.upd0 hU81
     replace hsb := hsb.upd0 hU81
     replace HU := HU.trans0 hU81
     replace hb1 := hb1.upd0 hU81
     replace hb2 := hb2.upd0 hU81
     replace hb7 := hb7.upd0 hU81
     replace hb8 := hb8.upd0 hU81
     refine Wl_v (r_mv (v := .slice a2 m d) rfl) ?_
     refine Wl_appendi (xs := []) (ys := b) (zs := b) (k' := .u8) (tot := m) (by first | rfl | exact (rows_app _ _).symm | simp) Try.underlying23 (ti := Try.t5) (z := .int .u8 0) (sz := 1) (by' := 1) rfl rfl rfl rfl rfl (by decide) rfl hs81 rfl hsb  (by omega) (by simp only [maxLen]; omega) (by omega) ?_
     intro a82 c82 w82 hU82 hzz82 hO82
     clear hs81
     have hzw82 := hU82.size
     replace hs := hs.upd hU82 (by intro x h1 h2; have h3 : x < w.heap.size := h1; have h4 : x = B81 := h2; omega)
     replace HU := HU.trans hU82 (by intro x hx; have hx2 : x = B81 := hx; show (False) ∨ w.heap.size ≤ x; omega)
     replace hb1 := hb1.upd hU82 (by intro hx; have hx2 : B1 = B81 := hx; omega)
     replace hb2 := hb2.upd hU82 (by intro hx; have hx2 : B2 = B81 := hx; omega)
     replace hb7 := hb7.upd hU82 (by intro hx; have hx2 : B7 = B81 := hx; omega)
     replace hb8 := hb8.upd hU82 (by intro hx; have hx2 : B8 = B81 := hx; omega)
     replace hO82 := hO82.tight
     have hl_hO82 := ilen hO82.sl
     have hc_hO82 := hO82.sl.cap.1
     refine Wl_v (r_as (v := .slice a82 m c82) rfl) ?_
     refine Wl_nil ?_
     refine W_seq ?_
     refine W_region ?_
     refine Wl_v (r_mv (v := .slice a n c) rfl) ?_
     refine Wl_v (r_mv (v := .slice a82 m c82) rfl) ?_
     refine Wl_call (r_call2 rfl Try.call29 rfl rfl) (oall_spec _ hs.any (by omega) hO82.sl.any (by omega)) ?_
     rintro v w83 ⟨Bl83, Bb83, a83, c83, e83, f83, rfl, hBl83, hBb83, hO83, hP83, hb1_83, hU83⟩
     have hzw83 := hU83.size
     replace HU := HU.trans0 hU83
     replace hb1 := hb1.upd0 hU83
     replace hb2 := hb2.upd0 hU83
     replace hb7 := hb7.upd0 hU83
     replace hb8 := hb8.upd0 hU83
     replace hO82 := hO82.upd0 hU83
     have hbl_hBl83 := hBl83.lt
     have hbl_hBb83 := hBb83.lt
     replace hO83 := hO83.tight
     have hl_hO83 := ilen hO83.sl
     have hc_hO83 := hO83.sl.cap.1
     replace hP83 := hP83.tight
     have hl_hP83 := ilen hP83.sl
     have hc_hP83 := hP83.sl.cap.1
     refine Wl_v (r_as (v := .func (.func 61) #[] #[.pointer (some ⟨Bl83, 0, none⟩), .pointer (some ⟨Bb83, 0, none⟩)]) rfl) ?_
     refine Wl_nil ?_
     refine W_seq ?_
     refine W_seq ?_
     refine W_region ?_
     refine Wl_v (r_mv (v := .func (.func 61) #[] #[.pointer (some ⟨Bl83, 0, none⟩), .pointer (some ⟨Bb83, 0, none⟩)]) rfl) ?_
     refine Wl_v (r_eqfn_s Try.underlying46 rfl rfl) ?_
     refine Wl_nil ?_
     refine W_cond_f rfl ?_
     refine W_skip ?_
     refine W_seq ?_
     refine W_seq ?_
     refine W_region ?_
     refine Wl_v (r_as (v := .int .i64 0) rfl) ?_
     refine Wl_nil ?_
     refine W_block ?_
     refine W_loop (fun mu ρ ds w' => ∃ (k : Nat) (ys : List Int), m - k = mu ∧ ds = [] ∧ Liv ρ [(5, .pointer (some ⟨B1, 0, none⟩)), (6, .pointer (some ⟨B2, 0, none⟩)), (7, .pointer (some ⟨B7, 0, none⟩)), (8, .pointer (some ⟨B8, 0, none⟩)), (9, .slice a82 m c82), (10, .func (.func 61) #[] #[.pointer (some ⟨Bl83, 0, none⟩), .pointer (some ⟨Bb83, 0, none⟩)]), (11, .int .i64 ((k : Nat) : Int))] ∧ k ≤ m ∧ Own w' (fun g => ((((g = B81) ∨ g = w81.heap.size)) ∧ g < w82.heap.size)) 5 1 (.slice a82 m c82) m (ints .u8 ys) ∧ Upd (fun g => ((((g = B81) ∨ g = w81.heap.size)) ∧ g < w82.heap.size)) w83 w') _ ⟨0, b, rfl, rfl, ⟨rfl, rfl, rfl, rfl, rfl, rfl, (by first | rfl | exact vint (by omega) | exact vint (by simp)), trivial⟩, (by omega), hO82, Upd.refl _ _⟩ ?_
     rintro m84 ρ84 ds84 w84 ⟨k, ys, rfl, rfl, hl84, hk, hO82, hU84⟩
     obtain ⟨ρ84x, rfl⟩ : ∃ ρx, ρ84 = upds ρx [(5, .pointer (some ⟨B1, 0, none⟩)), (6, .pointer (some ⟨B2, 0, none⟩)), (7, .pointer (some ⟨B7, 0, none⟩)), (8, .pointer (some ⟨B8, 0, none⟩)), (9, .slice a82 m c82), (10, .func (.func 61) #[] #[.pointer (some ⟨Bl83, 0, none⟩), .pointer (some ⟨Bb83, 0, none⟩)]), (11, .int .i64 ((k : Nat) : Int))] := ⟨_, upds_self hl84⟩
     clear hl84
     have hzw84 := hU84.size
     replace HU := HU.trans hU84 (by intro x hx; have hx2 : ((((x = B81) ∨ x = w81.heap.size)) ∧ x < w82.heap.size) := hx; show (False) ∨ w.heap.size ≤ x; omega)
     replace hb1 := hb1.upd hU84 (by intro hx; have hx2 : ((((B1 = B81) ∨ B1 = w81.heap.size)) ∧ B1 < w82.heap.size) := hx; omega)
     replace hb2 := hb2.upd hU84 (by intro hx; have hx2 : ((((B2 = B81) ∨ B2 = w81.heap.size)) ∧ B2 < w82.heap.size) := hx; omega)
     replace hb7 := hb7.upd hU84 (by intro hx; have hx2 : ((((B7 = B81) ∨ B7 = w81.heap.size)) ∧ B7 < w82.heap.size) := hx; omega)
     replace hb8 := hb8.upd hU84 (by intro hx; have hx2 : ((((B8 = B81) ∨ B8 = w81.heap.size)) ∧ B8 < w82.heap.size) := hx; omega)
     replace hBl83 := hBl83.upd hU84 (by intro hx; have hx2 : ((((Bl83 = B81) ∨ Bl83 = w81.heap.size)) ∧ Bl83 < w82.heap.size) := hx; omega)
     replace hBb83 := hBb83.upd hU84 (by intro hx; have hx2 : ((((Bb83 = B81) ∨ Bb83 = w81.heap.size)) ∧ Bb83 < w82.heap.size) := hx; omega)
     replace hO83 := hO83.upd hU84 (by intro x h1 h2; have h3 : ((w82.heap.size ≤ x) ∧ x < w83.heap.size) := h1; have h4 : ((((x = B81) ∨ x = w81.heap.size)) ∧ x < w82.heap.size) := h2; omega)
     replace hP83 := hP83.upd hU84 (by intro x h1 h2; have h3 : ((w82.heap.size ≤ x) ∧ x < w83.heap.size) := h1; have h4 : ((((x = B81) ∨ x = w81.heap.size)) ∧ x < w82.heap.size) := h2; omega)
     have HL84 := hU84
     refine W_seq ?_
     refine W_seq ?_
     refine W_region ?_
     refine Wl_v (r_mv (v := .int .i64 ((k : Nat) : Int)) rfl) ?_
     refine Wl_v (r_mv (v := .slice a82 m c82) rfl) ?_
     refine Wl_v (r_len Try.underlying23 rfl) ?_
     refine Wl_v (r_lt rfl rfl) ?_
     refine Wl_nil ?_
     by_cases q20 : ((k : Nat) : Int) < ((m : Nat) : Int)
     ·rw [decide_eq_true q20]
      refine W_cond_t rfl ?_
      refine W_skip ?_
      refine W_seq ?_
      refine W_block ?_
      refine W_region ?_
      refine Wl_v (r_mv (v := .slice a82 m c82) rfl) ?_
      refine Wl_v (r_mv (v := .int .i64 ((k : Nat) : Int)) rfl) ?_
      refine Wl_idxi Try.underlying23 Try.sizeOf5 rfl rfl hO82.sl (by omega) (by omega) ?_
      intro ib85 io85 hc85
      rw [Int.toNat_natCast] at hc85
      refine Wl_loadc Try.isAgg5 rfl hc85 ?_
      refine Wl_v (r_add rfl rfl (mu8 _)) ?_
      obtain ⟨g86, rfl, hg86⟩ := hO82.addr (by omega)
      replace hg86 : ((((g86 = B81) ∨ g86 = w81.heap.size)) ∧ g86 < w82.heap.size) := hg86
      refine Wl_idxo (i' := k) Try.underlying23 Try.sizeOf5 rfl rfl hO82 (by omega) (by omega) ?_
      intro hc87
      refine Wl_storeo (i := k) Try.sizeOf5 rfl rfl hO82 (by omega) ?_
      intro w88 hU88 hzz88 hO88
      clear hO82
      have hzw88 := hU88.size
      replace HL84 := HL84.trans1 hU88 (by show (((((g86 = B81) ∨ g86 = w81.heap.size)) ∧ g86 < w82.heap.size)) ∨ w83.heap.size ≤ g86; omega)
      have hl_hO88 := ilen hO88.sl
      have hc_hO88 := hO88.sl.cap.1
      refine Wl_nil ?_
      refine W_region ?_
      refine Wl_v (r_mv (v := .int .i64 ((k : Nat) : Int)) rfl) ?_
      refine Wl_v (r_add rfl rfl (wi64 (by omega) (by omega))) ?_
      refine Wl_v (r_as (v := .int .i64 (((k : Nat) : Int) + 1)) rfl) ?_
      refine Wl_nil ?_
      refine ⟨_, ?_, (k + 1), ys.set k (((ys.getD k 0) + 1) % 256), rfl, rfl, ⟨rfl, rfl, rfl, rfl, rfl, rfl, (by first | rfl | exact vint (by omega) | exact vint (by simp)), trivial⟩, (by omega), hO88, HL84⟩
      omega
     ·rw [decide_eq_false q20]
      refine W_cond_f rfl ?_
      refine W_exit ?_
      refine W_seq ?_
      refine W_seq ?_
      refine W_region ?_
      refine Wl_alloc (cs := [.int .i64 0]) Try.zeroValue3 rfl ?_
      intro B89 w89 hB89 hU89 hzz89 hb89
      have hzw89 := hU89.size
      replace HU := HU.trans0 hU89
      replace hb1 := hb1.upd0 hU89
      replace hb2 := hb2.upd0 hU89
      replace hb7 := hb7.upd0 hU89
      replace hb8 := hb8.upd0 hU89
      replace hBl83 := hBl83.upd0 hU89
      replace hBb83 := hBb83.upd0 hU89
      replace hO83 := hO83.upd0 hU89
      replace hP83 := hP83.upd0 hU89
      refine Wl_store (v := .int .i64 0) (cs' := [.int .i64 0]) Try.sizeOf3 rfl rfl rfl rfl hb89 rfl rfl ?_
      intro w90 hU90 hzz90 hb89n
      replace hb89 := hb89n; clear hb89n
      have hzw90 := hU90.size
      replace HU := HU.trans1 hU90 (by show (False) ∨ w.heap.size ≤ B89; omega)
      replace hb1 := hb1.upd1 hU90 (by omega)
      replace hb2 := hb2.upd1 hU90 (by omega)
      replace hb7 := hb7.upd1 hU90 (by omega)
      replace hb8 := hb8.upd1 hU90 (by omega)
      replace hBl83 := hBl83.upd1 hU90 (by omega)
      replace hBb83 := hBb83.upd1 hU90 (by omega)
      replace hO83 := hO83.upd1 hU90 (by intro h1; have h3 : ((w82.heap.size ≤ B89) ∧ B89 < w83.heap.size) := h1; omega)
      replace hP83 := hP83.upd1 hU90 (by intro h1; have h3 : ((w82.heap.size ≤ B89) ∧ B89 < w83.heap.size) := h1; omega)
      refine Wl_nil ?_
      refine W_block ?_
      refine W_unroll2 ?_
      refine W_seq ?_
      refine W_seq ?_
      refine W_region ?_
      refine Wl_load (v := .int .i64 0) Try.isAgg3 rfl hb89 rfl ?_
      refine Wl_v (v := .bool true) (r_lt (a := 0) (b := 2) rfl rfl) ?_
      refine Wl_nil ?_
      refine W_cond_t rfl ?_
      refine W_skip ?_
      refine W_seq ?_
      refine W_block ?_
      refine W_seq ?_
      refine W_region ?_
      refine Wl_alloc (cs := [.int .i64 0]) Try.zeroValue3 rfl ?_
      intro B91 w91 hB91 hU91 hzz91 hb91
      have hzw91 := hU91.size
      replace HU := HU.trans0 hU91
      replace hb1 := hb1.upd0 hU91
      replace hb2 := hb2.upd0 hU91
      replace hb7 := hb7.upd0 hU91
      replace hb8 := hb8.upd0 hU91
      replace hBl83 := hBl83.upd0 hU91
      replace hBb83 := hBb83.upd0 hU91
      replace hO83 := hO83.upd0 hU91
      replace hP83 := hP83.upd0 hU91
      replace hb89 := hb89.upd0 hU91
      refine Wl_store (v := .int .i64 0) (cs' := [.int .i64 0]) Try.sizeOf3 rfl rfl rfl rfl hb91 rfl rfl ?_
      intro w92 hU92 hzz92 hb91n
      replace hb91 := hb91n; clear hb91n
      have hzw92 := hU92.size
      replace HU := HU.trans1 hU92 (by show (False) ∨ w.heap.size ≤ B91; omega)
      replace hb1 := hb1.upd1 hU92 (by omega)
      replace hb2 := hb2.upd1 hU92 (by omega)
      replace hb7 := hb7.upd1 hU92 (by omega)
      replace hb8 := hb8.upd1 hU92 (by omega)
      replace hBl83 := hBl83.upd1 hU92 (by omega)
      replace hBb83 := hBb83.upd1 hU92 (by omega)
      replace hO83 := hO83.upd1 hU92 (by intro h1; have h3 : ((w82.heap.size ≤ B91) ∧ B91 < w83.heap.size) := h1; omega)
      replace hP83 := hP83.upd1 hU92 (by intro h1; have h3 : ((w82.heap.size ≤ B91) ∧ B91 < w83.heap.size) := h1; omega)
      replace hb89 := hb89.upd1 hU92 (by omega)
      refine Wl_nil ?_
      refine W_seq ?_
      refine W_seq ?_
      refine W_region ?_
      refine Wl_v (r_mv (v := .func (.func 61) #[] #[.pointer (some ⟨Bl83, 0, none⟩), .pointer (some ⟨Bb83, 0, none⟩)]) rfl) ?_
      refine Wl_nil ?_
      refine W_block ?_
      refine W_range (gf := 61) (ar := fun y => #[y, .pointer (some ⟨Bl83, 0, none⟩), .pointer (some ⟨Bb83, 0, none⟩)]) rfl Try.call61 (fun y => by simp) ?_
      intro D93 fn93 w93 hD93 hU93 hzz93 hdf93 hrc930
      have hzw93 := hU93.size
      replace HU := HU.trans0 hU93
      replace hb1 := hb1.upd0 hU93
      replace hb2 := hb2.upd0 hU93
      replace hb7 := hb7.upd0 hU93
      replace hb8 := hb8.upd0 hU93
      replace hBl83 := hBl83.upd0 hU93
      replace hBb83 := hBb83.upd0 hU93
      replace hO83 := hO83.upd0 hU93
      replace hP83 := hP83.upd0 hU93
      replace hb89 := hb89.upd0 hU93
      replace hb91 := hb91.upd0 hU93
      obtain ⟨r93, hr93, hrc93⟩ : ∃ r, r = _ ∧ Rec w93 (D93 + 1) r := ⟨_, rfl, hrc930⟩
      clear hrc930
      obtain ⟨J93, hJ93⟩ : ∃ J : Nat → World → Prop, ∀ i w', J i w' ↔ (Rec w' (D93 + 1) r93 ∧ Dfr w' D93 ∧ Blk w' B91 [.int .i64 0] ∧ Blk w' B1 [.int .i64 many] ∧ Blk w' B2 [.bool false] ∧ Blk w' B7 [.slice none 0 0] ∧ Blk w' B8 [.slice none 0 0] ∧ Blk w' Bl83 [.slice a83 n c83] ∧ Blk w' Bb83 [.slice e83 m f83] ∧ Own w' (fun g => ((w82.heap.size ≤ g) ∧ g < w83.heap.size)) 3 1 (.slice a83 n c83) n (ints .i64 l) ∧ Own w' (fun g => ((w82.heap.size ≤ g) ∧ g < w83.heap.size)) 5 1 (.slice e83 m f83) m (ints .u8 b) ∧ Blk w' B89 [.int .i64 0] ∧ Upd No w w') := ⟨_, fun _ _ => Iff.rfl⟩
      obtain ⟨Jx93, hJx93⟩ : ∃ Jx : World → Prop, ∀ w', Jx w' ↔ (False) := ⟨_, fun _ => Iff.rfl⟩
      refine (oall1_emp (J := J93) (Jx := Jx93) w93 (oall1_bits w93 hBl83 hBb83 hO83.sl hP83.sl (by omega) (by omega) hb q3 q4) ?_ ?_ ?_).mono ?_
      ·exact (hJ93 _ _).2 ⟨hrc93, hdf93, hb91, hb1, hb2, hb7, hb8, hBl83, hBb83, hO83, hP83, hb89, HU⟩
      ·intro i wa wb hh hUs
       obtain ⟨hrc93, hdf93, hb91, hb1, hb2, hb7, hb8, hBl83, hBb83, hO83, hP83, hb89, HU⟩ := (hJ93 _ _).1 hh
       replace hrc93 := hrc93.upd0 hUs
       replace hdf93 := hdf93.upd0 hUs
       replace hb91 := hb91.upd0 hUs
       replace hb1 := hb1.upd0 hUs
       replace hb2 := hb2.upd0 hUs
       replace hb7 := hb7.upd0 hUs
       replace hb8 := hb8.upd0 hUs
       replace hBl83 := hBl83.upd0 hUs
       replace hBb83 := hBb83.upd0 hUs
       replace hO83 := hO83.upd0 hUs
       replace hP83 := hP83.upd0 hUs
       replace hb89 := hb89.upd0 hUs
       replace HU := HU.trans0 hUs
       exact (hJ93 _ _).2 ⟨hrc93, hdf93, hb91, hb1, hb2, hb7, hb8, hBl83, hBb83, hO83, hP83, hb89, HU⟩
      ·intro i94 w94 hi94 hh
       obtain ⟨hrc93, hdf93, hb91, hb1, hb2, hb7, hb8, hBl83, hBb83, hO83, hP83, hb89, HU⟩ := (hJ93 _ _).1 hh
       have hrl93 := hrc93.lt
       omega
      rintro e w95 ⟨v, rfl, hh | hh⟩
      ·obtain ⟨hrc93, hdf93, hb91, hb1, hb2, hb7, hb8, hBl83, hBb83, hO83, hP83, hb89, HU⟩ := (hJ93 _ _).1 hh
       have hrl93 := hrc93.lt
       refine ⟨r93, hrc93, (by rw [hr93]; simp), ?_⟩
       intro w96 hU96 hzz96
       have hzw96 := hU96.size
       replace hdf93 := hdf93.upd1 hU96 (by omega)
       replace hb91 := hb91.upd1 hU96 (by omega)
       replace hb1 := hb1.upd1 hU96 (by omega)
       replace hb2 := hb2.upd1 hU96 (by omega)
       replace hb7 := hb7.upd1 hU96 (by omega)
       replace hb8 := hb8.upd1 hU96 (by omega)
       replace hBl83 := hBl83.upd1 hU96 (by omega)
       replace hBb83 := hBb83.upd1 hU96 (by omega)
       replace hO83 := hO83.upd1 hU96 (by intro h1; have h3 : ((w82.heap.size ≤ (D93 + 1)) ∧ (D93 + 1) < w83.heap.size) := h1; omega)
       replace hP83 := hP83.upd1 hU96 (by intro h1; have h3 : ((w82.heap.size ≤ (D93 + 1)) ∧ (D93 + 1) < w83.heap.size) := h1; omega)
       replace hb89 := hb89.upd1 hU96 (by omega)
       replace HU := HU.trans1 hU96 (by show (False) ∨ w.heap.size ≤ (D93 + 1); omega)
       rw [hr93]
       refine W_seq ?_
       refine W_region ?_
       refine Wl_load (v := .int .i64 0) Try.isAgg3 rfl hb89 rfl ?_
       refine Wl_v (v := .bool true) (r_eq (a := 0) (b := 0) rfl rfl) ?_
       refine Wl_v (r_mv (v := .bool true) rfl) ?_
       refine Wl_guard_t rfl ?_
       refine Wl_load (v := .int .i64 0) Try.isAgg3 rfl hb91 rfl ?_
       refine Wl_guard_t rfl ?_
       refine Wl_load (v := .slice none 0 0) Try.isAgg23 rfl hb7 rfl ?_
       refine Wl_guard_t rfl ?_
       refine Wl_v (r_len Try.underlying23 rfl) ?_
       refine Wl_guard_t rfl ?_
       refine Wl_load (v := .int .i64 many) Try.isAgg3 rfl hb1 rfl ?_
       refine Wl_guard_t rfl ?_
       refine Wl_v (r_max rfl rfl) ?_
       refine Wl_guard_t rfl ?_
       refine Wl_v (r_min rfl rfl) ?_
       refine Wl_guard_t rfl ?_
       refine Wl_v (r_ne rfl rfl) ?_
       refine Wl_v (r_pick_t (v := .bool (decide (0 ≠ (min 0 (max 1 many))))) rfl rfl) ?_
       refine Wl_v (r_mv (v := .bool (decide (0 ≠ (min 0 (max 1 many))))) rfl) ?_
       have q21 : ¬ (0 ≠ (min 0 (max 1 many))) := (by omega)
       rw [decide_eq_false q21]
       refine Wl_guard_t rfl ?_
       refine Wl_load (v := .int .i64 0) Try.isAgg3 rfl hb89 rfl ?_
       refine Wl_guard_t rfl ?_
       refine Wl_v (v := .bool false) (r_eq (a := 0) (b := 1) rfl rfl) ?_
       refine Wl_guard_t rfl ?_
       refine Wl_v (r_mv (v := .bool false) rfl) ?_
       refine Wl_guard_f rfl ?_
       refine Wl_guard_f rfl ?_
       refine Wl_guard_f rfl ?_
       refine Wl_guard_f rfl ?_
       refine Wl_guard_t rfl ?_
       refine Wl_v (r_pick_f (v := .bool false) rfl rfl) ?_
       refine Wl_v (r_pick_f (v := .bool false) rfl rfl) ?_
       refine Wl_nil ?_
       refine W_cond_f rfl ?_
       refine W_skip ?_
       refine W_seq ?_
       refine W_seq ?_
       refine W_region ?_
       refine Wl_load (v := .int .i64 0) Try.isAgg3 rfl hb89 rfl ?_
       refine Wl_nil ?_
       refine W_region ?_
       refine Wl_alloc (cs := [.int .i64 0]) Try.zeroValue3 rfl ?_
       intro B97 w97 hB97 hU97 hzz97 hb97
       have hzw97 := hU97.size
       replace hdf93 := hdf93.upd0 hU97
       replace hb91 := hb91.upd0 hU97
       replace hb1 := hb1.upd0 hU97
       replace hb2 := hb2.upd0 hU97
       replace hb7 := hb7.upd0 hU97
       replace hb8 := hb8.upd0 hU97
       replace hBl83 := hBl83.upd0 hU97
       replace hBb83 := hBb83.upd0 hU97
       replace hO83 := hO83.upd0 hU97
       replace hP83 := hP83.upd0 hU97
       replace hb89 := hb89.upd0 hU97
       replace HU := HU.trans0 hU97
       refine Wl_store (v := .int .i64 0) (cs' := [.int .i64 0]) Try.sizeOf3 rfl rfl rfl rfl hb97 rfl rfl ?_
       intro w98 hU98 hzz98 hb97n
       replace hb97 := hb97n; clear hb97n
       have hzw98 := hU98.size
       replace hdf93 := hdf93.upd1 hU98 (by omega)
       replace hb91 := hb91.upd1 hU98 (by omega)
       replace hb1 := hb1.upd1 hU98 (by omega)
       replace hb2 := hb2.upd1 hU98 (by omega)
       replace hb7 := hb7.upd1 hU98 (by omega)
       replace hb8 := hb8.upd1 hU98 (by omega)
       replace hBl83 := hBl83.upd1 hU98 (by omega)
       replace hBb83 := hBb83.upd1 hU98 (by omega)
       replace hO83 := hO83.upd1 hU98 (by intro h1; have h3 : ((w82.heap.size ≤ B97) ∧ B97 < w83.heap.size) := h1; omega)
       replace hP83 := hP83.upd1 hU98 (by intro h1; have h3 : ((w82.heap.size ≤ B97) ∧ B97 < w83.heap.size) := h1; omega)
       replace hb89 := hb89.upd1 hU98 (by omega)
       replace HU := HU.trans1 hU98 (by show (False) ∨ w.heap.size ≤ B97; omega)
       refine Wl_nil ?_
       refine W_region ?_
       refine Wl_load (v := .int .i64 0) Try.isAgg3 rfl hb97 rfl ?_
       refine Wl_v (r_add rfl rfl (show IntKind.i64.wrap (0 + 1) = 1 by decide)) ?_
       refine Wl_store (v := .int .i64 1) (cs' := [.int .i64 1]) Try.sizeOf3 rfl rfl rfl rfl hb97 rfl rfl ?_
       intro w99 hU99 hzz99 hb97n
       replace hb97 := hb97n; clear hb97n
       have hzw99 := hU99.size
       replace hdf93 := hdf93.upd1 hU99 (by omega)
       replace hb91 := hb91.upd1 hU99 (by omega)
       replace hb1 := hb1.upd1 hU99 (by omega)
       replace hb2 := hb2.upd1 hU99 (by omega)
       replace hb7 := hb7.upd1 hU99 (by omega)
       replace hb8 := hb8.upd1 hU99 (by omega)
       replace hBl83 := hBl83.upd1 hU99 (by omega)
       replace hBb83 := hBb83.upd1 hU99 (by omega)
       replace hO83 := hO83.upd1 hU99 (by intro h1; have h3 : ((w82.heap.size ≤ B97) ∧ B97 < w83.heap.size) := h1; omega)
       replace hP83 := hP83.upd1 hU99 (by intro h1; have h3 : ((w82.heap.size ≤ B97) ∧ B97 < w83.heap.size) := h1; omega)
       replace hb89 := hb89.upd1 hU99 (by omega)
       replace HU := HU.trans1 hU99 (by show (False) ∨ w.heap.size ≤ B97; omega)
       refine Wl_nil ?_
       refine W_seq ?_
       refine W_seq ?_
       refine W_region ?_
       refine Wl_load (v := .int .i64 1) Try.isAgg3 rfl hb97 rfl ?_
       refine Wl_v (v := .bool true) (r_lt (a := 1) (b := 2) rfl rfl) ?_
       refine Wl_nil ?_
       refine W_cond_t rfl ?_
       refine W_skip ?_
       refine W_seq ?_
       refine W_block ?_
       refine W_seq ?_
       refine W_region ?_
       refine Wl_alloc (cs := [.int .i64 0]) Try.zeroValue3 rfl ?_
       intro B100 w100 hB100 hU100 hzz100 hb100
       have hzw100 := hU100.size
       replace hdf93 := hdf93.upd0 hU100
       replace hb91 := hb91.upd0 hU100
       replace hb1 := hb1.upd0 hU100
       replace hb2 := hb2.upd0 hU100
       replace hb7 := hb7.upd0 hU100
       replace hb8 := hb8.upd0 hU100
       replace hBl83 := hBl83.upd0 hU100
       replace hBb83 := hBb83.upd0 hU100
       replace hO83 := hO83.upd0 hU100
       replace hP83 := hP83.upd0 hU100
       replace hb89 := hb89.upd0 hU100
       replace HU := HU.trans0 hU100
       replace hb97 := hb97.upd0 hU100
       refine Wl_store (v := .int .i64 0) (cs' := [.int .i64 0]) Try.sizeOf3 rfl rfl rfl rfl hb100 rfl rfl ?_
       intro w101 hU101 hzz101 hb100n
       replace hb100 := hb100n; clear hb100n
       have hzw101 := hU101.size
       replace hdf93 := hdf93.upd1 hU101 (by omega)
       replace hb91 := hb91.upd1 hU101 (by omega)
       replace hb1 := hb1.upd1 hU101 (by omega)
       replace hb2 := hb2.upd1 hU101 (by omega)
       replace hb7 := hb7.upd1 hU101 (by omega)
       replace hb8 := hb8.upd1 hU101 (by omega)
       replace hBl83 := hBl83.upd1 hU101 (by omega)
       replace hBb83 := hBb83.upd1 hU101 (by omega)
       replace hO83 := hO83.upd1 hU101 (by intro h1; have h3 : ((w82.heap.size ≤ B100) ∧ B100 < w83.heap.size) := h1; omega)
       replace hP83 := hP83.upd1 hU101 (by intro h1; have h3 : ((w82.heap.size ≤ B100) ∧ B100 < w83.heap.size) := h1; omega)
       replace hb89 := hb89.upd1 hU101 (by omega)
       replace HU := HU.trans1 hU101 (by show (False) ∨ w.heap.size ≤ B100; omega)
       replace hb97 := hb97.upd1 hU101 (by omega)
       refine Wl_nil ?_
       refine W_seq ?_
       refine W_seq ?_
       refine W_region ?_
       refine Wl_v (r_mv (v := .func (.func 61) #[] #[.pointer (some ⟨Bl83, 0, none⟩), .pointer (some ⟨Bb83, 0, none⟩)]) rfl) ?_
       refine Wl_nil ?_
       refine W_block ?_
       refine W_range (gf := 61) (ar := fun y => #[y, .pointer (some ⟨Bl83, 0, none⟩), .pointer (some ⟨Bb83, 0, none⟩)]) rfl Try.call61 (fun y => by simp) ?_
       intro D102 fn102 w102 hD102 hU102 hzz102 hdf102 hrc1020
       have hzw102 := hU102.size
       replace hdf93 := hdf93.upd0 hU102
       replace hb91 := hb91.upd0 hU102
       replace hb1 := hb1.upd0 hU102
       replace hb2 := hb2.upd0 hU102
       replace hb7 := hb7.upd0 hU102
       replace hb8 := hb8.upd0 hU102
       replace hBl83 := hBl83.upd0 hU102
       replace hBb83 := hBb83.upd0 hU102
       replace hO83 := hO83.upd0 hU102
       replace hP83 := hP83.upd0 hU102
       replace hb89 := hb89.upd0 hU102
       replace HU := HU.trans0 hU102
       replace hb97 := hb97.upd0 hU102
       replace hb100 := hb100.upd0 hU102
       obtain ⟨r102, hr102, hrc102⟩ : ∃ r, r = _ ∧ Rec w102 (D102 + 1) r := ⟨_, rfl, hrc1020⟩
       clear hrc1020
       obtain ⟨J102, hJ102⟩ : ∃ J : Nat → World → Prop, ∀ i w', J i w' ↔ (Rec w' (D102 + 1) r102 ∧ Dfr w' D102 ∧ Blk w' B100 [.int .i64 0] ∧ Dfr w' D93 ∧ Blk w' B91 [.int .i64 0] ∧ Blk w' B1 [.int .i64 many] ∧ Blk w' B2 [.bool false] ∧ Blk w' B7 [.slice none 0 0] ∧ Blk w' B8 [.slice none 0 0] ∧ Blk w' Bl83 [.slice a83 n c83] ∧ Blk w' Bb83 [.slice e83 m f83] ∧ Own w' (fun g => ((w82.heap.size ≤ g) ∧ g < w83.heap.size)) 3 1 (.slice a83 n c83) n (ints .i64 l) ∧ Own w' (fun g => ((w82.heap.size ≤ g) ∧ g < w83.heap.size)) 5 1 (.slice e83 m f83) m (ints .u8 b) ∧ Blk w' B89 [.int .i64 0] ∧ Blk w' B97 [.int .i64 1] ∧ Upd No w w') := ⟨_, fun _ _ => Iff.rfl⟩
       obtain ⟨Jx102, hJx102⟩ : ∃ Jx : World → Prop, ∀ w', Jx w' ↔ (False) := ⟨_, fun _ => Iff.rfl⟩
       refine (oall1_emp (J := J102) (Jx := Jx102) w102 (oall1_bits w102 hBl83 hBb83 hO83.sl hP83.sl (by omega) (by omega) hb q3 q4) ?_ ?_ ?_).mono ?_
       ·exact (hJ102 _ _).2 ⟨hrc102, hdf102, hb100, hdf93, hb91, hb1, hb2, hb7, hb8, hBl83, hBb83, hO83, hP83, hb89, hb97, HU⟩
       ·intro i wa wb hh hUs
        obtain ⟨hrc102, hdf102, hb100, hdf93, hb91, hb1, hb2, hb7, hb8, hBl83, hBb83, hO83, hP83, hb89, hb97, HU⟩ := (hJ102 _ _).1 hh
        replace hrc102 := hrc102.upd0 hUs
        replace hdf102 := hdf102.upd0 hUs
        replace hb100 := hb100.upd0 hUs
        replace hdf93 := hdf93.upd0 hUs
        replace hb91 := hb91.upd0 hUs
        replace hb1 := hb1.upd0 hUs
        replace hb2 := hb2.upd0 hUs
        replace hb7 := hb7.upd0 hUs
        replace hb8 := hb8.upd0 hUs
        replace hBl83 := hBl83.upd0 hUs
        replace hBb83 := hBb83.upd0 hUs
        replace hO83 := hO83.upd0 hUs
        replace hP83 := hP83.upd0 hUs
        replace hb89 := hb89.upd0 hUs
        replace hb97 := hb97.upd0 hUs
        replace HU := HU.trans0 hUs
        exact (hJ102 _ _).2 ⟨hrc102, hdf102, hb100, hdf93, hb91, hb1, hb2, hb7, hb8, hBl83, hBb83, hO83, hP83, hb89, hb97, HU⟩
       ·intro i103 w103 hi103 hh
        obtain ⟨hrc102, hdf102, hb100, hdf93, hb91, hb1, hb2, hb7, hb8, hBl83, hBb83, hO83, hP83, hb89, hb97, HU⟩ := (hJ102 _ _).1 hh
        have hrl102 := hrc102.lt
        omega
       rintro e w104 ⟨v, rfl, hh | hh⟩
       ·obtain ⟨hrc102, hdf102, hb100, hdf93, hb91, hb1, hb2, hb7, hb8, hBl83, hBb83, hO83, hP83, hb89, hb97, HU⟩ := (hJ102 _ _).1 hh
        have hrl102 := hrc102.lt
        refine ⟨r102, hrc102, (by rw [hr102]; simp), ?_⟩
        intro w105 hU105 hzz105
        have hzw105 := hU105.size
        replace hdf102 := hdf102.upd1 hU105 (by omega)
        replace hb100 := hb100.upd1 hU105 (by omega)
        replace hdf93 := hdf93.upd1 hU105 (by omega)
        replace hb2 := hb2.upd1 hU105 (by omega)
        replace hb7 := hb7.upd1 hU105 (by omega)
        replace hb97 := hb97.upd1 hU105 (by omega)
        replace HU := HU.trans1 hU105 (by show (False) ∨ w.heap.size ≤ (D102 + 1); omega)
        rw [hr102]
        refine W_seq ?_
        refine W_region ?_
        refine Wl_load (v := .int .i64 1) Try.isAgg3 rfl hb97 rfl ?_
        refine Wl_v (v := .bool false) (r_eq (a := 1) (b := 0) rfl rfl) ?_
        refine Wl_v (r_mv (v := .bool false) rfl) ?_
        refine Wl_guard_f rfl ?_
        refine Wl_guard_f rfl ?_
        refine Wl_guard_f rfl ?_
        refine Wl_guard_f rfl ?_
        refine Wl_guard_f rfl ?_
        refine Wl_guard_f rfl ?_
        refine Wl_guard_f rfl ?_
        refine Wl_v (r_pick_f (v := .bool false) rfl rfl) ?_
        refine Wl_v (r_mv (v := .bool false) rfl) ?_
        refine Wl_guard_t rfl ?_
        refine Wl_load (v := .int .i64 1) Try.isAgg3 rfl hb97 rfl ?_
        refine Wl_guard_t rfl ?_
        refine Wl_v (v := .bool true) (r_eq (a := 1) (b := 1) rfl rfl) ?_
        refine Wl_guard_t rfl ?_
        refine Wl_v (r_mv (v := .bool true) rfl) ?_
        refine Wl_guard_t rfl ?_
        refine Wl_load (v := .int .i64 0) Try.isAgg3 rfl hb100 rfl ?_
        refine Wl_guard_t rfl ?_
        refine Wl_load (v := .slice none 0 0) Try.isAgg23 rfl hb7 rfl ?_
        refine Wl_guard_t rfl ?_
        refine Wl_v (r_len Try.underlying23 rfl) ?_
        refine Wl_guard_t rfl ?_
        refine Wl_v (v := .bool false) (r_ne (a := 0) (b := 0) rfl rfl) ?_
        refine Wl_guard_t rfl ?_
        refine Wl_v (r_pick_t (v := .bool false) rfl rfl) ?_
        refine Wl_v (r_pick_f (v := .bool false) rfl rfl) ?_
        refine Wl_nil ?_
        refine W_cond_f rfl ?_
        refine W_skip ?_
        refine W_seq ?_
        refine W_seq ?_
        refine W_region ?_
        refine Wl_load (v := .int .i64 1) Try.isAgg3 rfl hb97 rfl ?_
        refine Wl_nil ?_
        refine W_region ?_
        refine Wl_alloc (cs := [.int .i64 0]) Try.zeroValue3 rfl ?_
        intro B106 w106 hB106 hU106 hzz106 hb106
        have hzw106 := hU106.size
        replace hdf102 := hdf102.upd0 hU106
        replace hdf93 := hdf93.upd0 hU106
        replace hb2 := hb2.upd0 hU106
        replace HU := HU.trans0 hU106
        refine Wl_store (v := .int .i64 1) (cs' := [.int .i64 1]) Try.sizeOf3 rfl rfl rfl rfl hb106 rfl rfl ?_
        intro w107 hU107 hzz107 hb106n
        replace hb106 := hb106n; clear hb106n
        have hzw107 := hU107.size
        replace hdf102 := hdf102.upd1 hU107 (by omega)
        replace hdf93 := hdf93.upd1 hU107 (by omega)
        replace hb2 := hb2.upd1 hU107 (by omega)
        replace HU := HU.trans1 hU107 (by show (False) ∨ w.heap.size ≤ B106; omega)
        refine Wl_nil ?_
        refine W_region ?_
        refine Wl_load (v := .int .i64 1) Try.isAgg3 rfl hb106 rfl ?_
        refine Wl_v (r_add rfl rfl (show IntKind.i64.wrap (1 + 1) = 2 by decide)) ?_
        refine Wl_store (v := .int .i64 2) (cs' := [.int .i64 2]) Try.sizeOf3 rfl rfl rfl rfl hb106 rfl rfl ?_
        intro w108 hU108 hzz108 hb106n
        replace hb106 := hb106n; clear hb106n
        have hzw108 := hU108.size
        replace hdf102 := hdf102.upd1 hU108 (by omega)
        replace hdf93 := hdf93.upd1 hU108 (by omega)
        replace hb2 := hb2.upd1 hU108 (by omega)
        replace HU := HU.trans1 hU108 (by show (False) ∨ w.heap.size ≤ B106; omega)
        refine Wl_nil ?_
        refine W_seq ?_
        refine W_seq ?_
        refine W_region ?_
        refine Wl_load (v := .int .i64 2) Try.isAgg3 rfl hb106 rfl ?_
        refine Wl_v (v := .bool false) (r_lt (a := 2) (b := 2) rfl rfl) ?_
        refine Wl_nil ?_
        refine W_cond_f rfl ?_
        refine W_exit ?_
        refine W_seq ?_
        refine W_region ?_
        refine Wl_call (r_call0 rfl Try.call11 ) (works17 _ ) ?_
        rintro v w109 ⟨rfl, hU109⟩
        have hzw109 := hU109.size
        replace hdf102 := hdf102.upd0 hU109
        replace hdf93 := hdf93.upd0 hU109
        replace hb2 := hb2.upd0 hU109
        replace HU := HU.trans0 hU109
        refine Wl_store (v := .bool true) (cs' := [.bool true]) Try.sizeOf4 rfl rfl rfl rfl hb2 rfl rfl ?_
        intro w110 hU110 hzz110 hb2n
        replace hb2 := hb2n; clear hb2n
        have hzw110 := hU110.size
        replace hdf102 := hdf102.upd1 hU110 (by omega)
        replace hdf93 := hdf93.upd1 hU110 (by omega)
        replace HU := HU.trans1 hU110 (by show (False) ∨ w.heap.size ≤ B2; omega)
        refine Wl_nil ?_
        refine W_ret ?_
        refine ret_ds rfl ?_
        refine lv_mark (by simp) hdf102 ?_
        intro w111 hU111 hzz111
        have hzw111 := hU111.size
        replace hdf93 := hdf93.upd1 hU111 (by omega)
        replace hb2 := hb2.upd1 hU111 (by omega)
        replace HU := HU.trans1 hU111 (by show (False) ∨ w.heap.size ≤ D102; omega)
        refine lv_mark (by simp) hdf93 ?_
        intro w112 hU112 hzz112
        have hzw112 := hU112.size
        replace hb2 := hb2.upd1 hU112 (by omega)
        replace HU := HU.trans1 hU112 (by show (False) ∨ w.heap.size ≤ D93; omega)
        refine lv_nil (v := .bool true) (rc1 Try.results9 rfl (cellIs Try.isAgg4 hb2)) ?_
        exact ⟨_, rfl, rfl, HU⟩
       ·exact ((hJx102 _).1 hh).elim
      ·exact ((hJx93 _).1 hh).elim
   ·rw [decide_eq_false q3]
    refine W_cond_f rfl ?_
    refine W_skip ?_
    refine W_seq ?_
    refine W_region ?_
    refine Wl_lit0 Try.underlying23 Try.sizeOf5 ?_
    intro B113 w113 hB113 hU113 hzz113 hs113
    have hzw113 := hU113.size
    replace hs := hs.upd0 hU113
    replace hsb := hsb.upd0 hU113
    replace HU := HU.trans0 hU113
    replace hb1 := hb1.upd0 hU113
    replace hb2 := hb2.upd0 hU113
    replace hb7 := hb7.upd0 hU113
    replace hb8 := hb8.upd0 hU113
    refine Wl_v (r_mv (v := .slice a2 m d) rfl) ?_
    refine Wl_appendi (xs := []) (ys := b) (zs := b) (k' := .u8) (tot := m) (by first | rfl | exact (rows_app _ _).symm | simp) Try.underlying23 (ti := Try.t5) (z := .int .u8 0) (sz := 1) (by' := 1) rfl rfl rfl rfl rfl (by decide) rfl hs113 rfl hsb  (by omega) (by simp only [maxLen]; omega) (by omega) ?_
    intro a114 c114 w114 hU114 hzz114 hO114
    clear hs113
    have hzw114 := hU114.size
    replace hs := hs.upd hU114 (by intro x h1 h2; have h3 : x < w.heap.size := h1; have h4 : x = B113 := h2; omega)
    replace HU := HU.trans hU114 (by intro x hx; have hx2 : x = B113 := hx; show (False) ∨ w.heap.size ≤ x; omega)
    replace hb1 := hb1.upd hU114 (by intro hx; have hx2 : B1 = B113 := hx; omega)
    replace hb2 := hb2.upd hU114 (by intro hx; have hx2 : B2 = B113 := hx; omega)
    replace hb7 := hb7.upd hU114 (by intro hx; have hx2 : B7 = B113 := hx; omega)
    replace hb8 := hb8.upd hU114 (by intro hx; have hx2 : B8 = B113 := hx; omega)
    replace hO114 := hO114.tight
    have hl_hO114 := ilen hO114.sl
    have hc_hO114 := hO114.sl.cap.1
    refine Wl_v (r_as (v := .slice a114 m c114) rfl) ?_
    refine Wl_nil ?_
    refine W_seq ?_
    refine W_region ?_
    refine Wl_v (r_mv (v := .slice a n c) rfl) ?_
    refine Wl_v (r_mv (v := .slice a114 m c114) rfl) ?_
    refine Wl_call (r_call2 rfl Try.call29 rfl rfl) (oall_spec _ hs.any (by omega) hO114.sl.any (by omega)) ?_
    rintro v w115 ⟨Bl115, Bb115, a115, c115, e115, f115, rfl, hBl115, hBb115, hO115, hP115, hb1_115, hU115⟩
    have hzw115 := hU115.size
    replace HU := HU.trans0 hU115
    replace hb1 := hb1.upd0 hU115
    replace hb2 := hb2.upd0 hU115
    replace hb7 := hb7.upd0 hU115
    replace hb8 := hb8.upd0 hU115
    replace hO114 := hO114.upd0 hU115
    have hbl_hBl115 := hBl115.lt
    have hbl_hBb115 := hBb115.lt
    replace hO115 := hO115.tight
    have hl_hO115 := ilen hO115.sl
    have hc_hO115 := hO115.sl.cap.1
    replace hP115 := hP115.tight
    have hl_hP115 := ilen hP115.sl
    have hc_hP115 := hP115.sl.cap.1
    refine Wl_v (r_as (v := .func (.func 61) #[] #[.pointer (some ⟨Bl115, 0, none⟩), .pointer (some ⟨Bb115, 0, none⟩)]) rfl) ?_
    refine Wl_nil ?_
    refine W_seq ?_
    refine W_seq ?_
    refine W_region ?_
    refine Wl_v (r_mv (v := .func (.func 61) #[] #[.pointer (some ⟨Bl115, 0, none⟩), .pointer (some ⟨Bb115, 0, none⟩)]) rfl) ?_
    refine Wl_v (r_eqfn_s Try.underlying46 rfl rfl) ?_
    refine Wl_nil ?_
    refine W_cond_f rfl ?_
    refine W_skip ?_
    refine W_seq ?_
    refine W_seq ?_
    refine W_region ?_
    refine Wl_v (r_as (v := .int .i64 0) rfl) ?_
    refine Wl_nil ?_
    refine W_block ?_
    refine W_loop (fun mu ρ ds w' => ∃ (k : Nat) (ys : List Int), m - k = mu ∧ ds = [] ∧ Liv ρ [(5, .pointer (some ⟨B1, 0, none⟩)), (6, .pointer (some ⟨B2, 0, none⟩)), (7, .pointer (some ⟨B7, 0, none⟩)), (8, .pointer (some ⟨B8, 0, none⟩)), (9, .slice a114 m c114), (10, .func (.func 61) #[] #[.pointer (some ⟨Bl115, 0, none⟩), .pointer (some ⟨Bb115, 0, none⟩)]), (11, .int .i64 ((k : Nat) : Int))] ∧ k ≤ m ∧ Own w' (fun g => ((((g = B113) ∨ g = w113.heap.size)) ∧ g < w114.heap.size)) 5 1 (.slice a114 m c114) m (ints .u8 ys) ∧ Upd (fun g => ((((g = B113) ∨ g = w113.heap.size)) ∧ g < w114.heap.size)) w115 w') _ ⟨0, b, rfl, rfl, ⟨rfl, rfl, rfl, rfl, rfl, rfl, (by first | rfl | exact vint (by omega) | exact vint (by simp)), trivial⟩, (by omega), hO114, Upd.refl _ _⟩ ?_
    rintro m116 ρ116 ds116 w116 ⟨k, ys, rfl, rfl, hl116, hk, hO114, hU116⟩
    obtain ⟨ρ116x, rfl⟩ : ∃ ρx, ρ116 = upds ρx [(5, .pointer (some ⟨B1, 0, none⟩)), (6, .pointer (some ⟨B2, 0, none⟩)), (7, .pointer (some ⟨B7, 0, none⟩)), (8, .pointer (some ⟨B8, 0, none⟩)), (9, .slice a114 m c114), (10, .func (.func 61) #[] #[.pointer (some ⟨Bl115, 0, none⟩), .pointer (some ⟨Bb115, 0, none⟩)]), (11, .int .i64 ((k : Nat) : Int))] := ⟨_, upds_self hl116⟩
    clear hl116
    have hzw116 := hU116.size
    replace HU := HU.trans hU116 (by intro x hx; have hx2 : ((((x = B113) ∨ x = w113.heap.size)) ∧ x < w114.heap.size) := hx; show (False) ∨ w.heap.size ≤ x; omega)
    replace hb1 := hb1.upd hU116 (by intro hx; have hx2 : ((((B1 = B113) ∨ B1 = w113.heap.size)) ∧ B1 < w114.heap.size) := hx; omega)
    replace hb2 := hb2.upd hU116 (by intro hx; have hx2 : ((((B2 = B113) ∨ B2 = w113.heap.size)) ∧ B2 < w114.heap.size) := hx; omega)
    replace hb7 := hb7.upd hU116 (by intro hx; have hx2 : ((((B7 = B113) ∨ B7 = w113.heap.size)) ∧ B7 < w114.heap.size) := hx; omega)
    replace hb8 := hb8.upd hU116 (by intro hx; have hx2 : ((((B8 = B113) ∨ B8 = w113.heap.size)) ∧ B8 < w114.heap.size) := hx; omega)
    replace hBl115 := hBl115.upd hU116 (by intro hx; have hx2 : ((((Bl115 = B113) ∨ Bl115 = w113.heap.size)) ∧ Bl115 < w114.heap.size) := hx; omega)
    replace hBb115 := hBb115.upd hU116 (by intro hx; have hx2 : ((((Bb115 = B113) ∨ Bb115 = w113.heap.size)) ∧ Bb115 < w114.heap.size) := hx; omega)
    replace hO115 := hO115.upd hU116 (by intro x h1 h2; have h3 : ((w114.heap.size ≤ x) ∧ x < w115.heap.size) := h1; have h4 : ((((x = B113) ∨ x = w113.heap.size)) ∧ x < w114.heap.size) := h2; omega)
    replace hP115 := hP115.upd hU116 (by intro x h1 h2; have h3 : ((w114.heap.size ≤ x) ∧ x < w115.heap.size) := h1; have h4 : ((((x = B113) ∨ x = w113.heap.size)) ∧ x < w114.heap.size) := h2; omega)
    have HL116 := hU116
    refine W_seq ?_
    refine W_seq ?_
    refine W_region ?_
    refine Wl_v (r_mv (v := .int .i64 ((k : Nat) : Int)) rfl) ?_
    refine Wl_v (r_mv (v := .slice a114 m c114) rfl) ?_
    refine Wl_v (r_len Try.underlying23 rfl) ?_
    refine Wl_v (r_lt rfl rfl) ?_
    refine Wl_nil ?_
    by_cases q22 : ((k : Nat) : Int) < ((m : Nat) : Int)
    ·rw [decide_eq_true q22]
     refine W_cond_t rfl ?_
     refine W_skip ?_
     refine W_seq ?_
     refine W_block ?_
     refine W_region ?_
     refine Wl_v (r_mv (v := .slice a114 m c114) rfl) ?_
     refine Wl_v (r_mv (v := .int .i64 ((k : Nat) : Int)) rfl) ?_
     refine Wl_idxi Try.underlying23 Try.sizeOf5 rfl rfl hO114.sl (by omega) (by omega) ?_
     intro ib117 io117 hc117
     rw [Int.toNat_natCast] at hc117
     refine Wl_loadc Try.isAgg5 rfl hc117 ?_
     refine Wl_v (r_add rfl rfl (mu8 _)) ?_
     obtain ⟨g118, rfl, hg118⟩ := hO114.addr (by omega)
     replace hg118 : ((((g118 = B113) ∨ g118 = w113.heap.size)) ∧ g118 < w114.heap.size) := hg118
     refine Wl_idxo (i' := k) Try.underlying23 Try.sizeOf5 rfl rfl hO114 (by omega) (by omega) ?_
     intro hc119
     refine Wl_storeo (i := k) Try.sizeOf5 rfl rfl hO114 (by omega) ?_
     intro w120 hU120 hzz120 hO120
     clear hO114
     have hzw120 := hU120.size
     replace HL116 := HL116.trans1 hU120 (by show (((((g118 = B113) ∨ g118 = w113.heap.size)) ∧ g118 < w114.heap.size)) ∨ w115.heap.size ≤ g118; omega)
     have hl_hO120 := ilen hO120.sl
     have hc_hO120 := hO120.sl.cap.1
     refine Wl_nil ?_
     refine W_region ?_
     refine Wl_v (r_mv (v := .int .i64 ((k : Nat) : Int)) rfl) ?_
     refine Wl_v (r_add rfl rfl (wi64 (by omega) (by omega))) ?_
     refine Wl_v (r_as (v := .int .i64 (((k : Nat) : Int) + 1)) rfl) ?_
     refine Wl_nil ?_
     refine ⟨_, ?_, (k + 1), ys.set k (((ys.getD k 0) + 1) % 256), rfl, rfl, ⟨rfl, rfl, rfl, rfl, rfl, rfl, (by first | rfl | exact vint (by omega) | exact vint (by simp)), trivial⟩, (by omega), hO120, HL116⟩
     omega
    ·rw [decide_eq_false q22]
     refine W_cond_f rfl ?_
     refine W_exit ?_
     refine W_seq ?_
     refine W_seq ?_
     refine W_region ?_
     refine Wl_alloc (cs := [.int .i64 0]) Try.zeroValue3 rfl ?_
     intro B121 w121 hB121 hU121 hzz121 hb121
     have hzw121 := hU121.size
     replace HU := HU.trans0 hU121
     replace hb1 := hb1.upd0 hU121
     replace hb2 := hb2.upd0 hU121
     replace hb7 := hb7.upd0 hU121
     replace hb8 := hb8.upd0 hU121
     replace hBl115 := hBl115.upd0 hU121
     replace hBb115 := hBb115.upd0 hU121
     replace hO115 := hO115.upd0 hU121
     replace hP115 := hP115.upd0 hU121
     refine Wl_store (v := .int .i64 0) (cs' := [.int .i64 0]) Try.sizeOf3 rfl rfl rfl rfl hb121 rfl rfl ?_
     intro w122 hU122 hzz122 hb121n
     replace hb121 := hb121n; clear hb121n
     have hzw122 := hU122.size
     replace HU := HU.trans1 hU122 (by show (False) ∨ w.heap.size ≤ B121; omega)
     replace hb1 := hb1.upd1 hU122 (by omega)
     replace hb2 := hb2.upd1 hU122 (by omega)
     replace hb7 := hb7.upd1 hU122 (by omega)
     replace hb8 := hb8.upd1 hU122 (by omega)
     replace hBl115 := hBl115.upd1 hU122 (by omega)
     replace hBb115 := hBb115.upd1 hU122 (by omega)
     replace hO115 := hO115.upd1 hU122 (by intro h1; have h3 : ((w114.heap.size ≤ B121) ∧ B121 < w115.heap.size) := h1; omega)
     replace hP115 := hP115.upd1 hU122 (by intro h1; have h3 : ((w114.heap.size ≤ B121) ∧ B121 < w115.heap.size) := h1; omega)
     refine Wl_nil ?_
     refine W_block ?_
     refine W_unroll2 ?_
     refine W_seq ?_
     refine W_seq ?_
     refine W_region ?_
     refine Wl_load (v := .int .i64 0) Try.isAgg3 rfl hb121 rfl ?_
     refine Wl_v (v := .bool true) (r_lt (a := 0) (b := 2) rfl rfl) ?_
     refine Wl_nil ?_
     refine W_cond_t rfl ?_
     refine W_skip ?_
     refine W_seq ?_
     refine W_block ?_
     refine W_seq ?_
     refine W_region ?_
     refine Wl_alloc (cs := [.int .i64 0]) Try.zeroValue3 rfl ?_
     intro B123 w123 hB123 hU123 hzz123 hb123
     have hzw123 := hU123.size
     replace HU := HU.trans0 hU123
     replace hb1 := hb1.upd0 hU123
     replace hb2 := hb2.upd0 hU123
     replace hb7 := hb7.upd0 hU123
     replace hb8 := hb8.upd0 hU123
     replace hBl115 := hBl115.upd0 hU123
     replace hBb115 := hBb115.upd0 hU123
     replace hO115 := hO115.upd0 hU123
     replace hP115 := hP115.upd0 hU123
     replace hb121 := hb121.upd0 hU123
     refine Wl_store (v := .int .i64 0) (cs' := [.int .i64 0]) Try.sizeOf3 rfl rfl rfl rfl hb123 rfl rfl ?_
     intro w124 hU124 hzz124 hb123n
     replace hb123 := hb123n; clear hb123n
     have hzw124 := hU124.size
     replace HU := HU.trans1 hU124 (by show (False) ∨ w.heap.size ≤ B123; omega)
     replace hb1 := hb1.upd1 hU124 (by omega)
     replace hb2 := hb2.upd1 hU124 (by omega)
     replace hb7 := hb7.upd1 hU124 (by omega)
     replace hb8 := hb8.upd1 hU124 (by omega)
     replace hBl115 := hBl115.upd1 hU124 (by omega)
     replace hBb115 := hBb115.upd1 hU124 (by omega)
     replace hO115 := hO115.upd1 hU124 (by intro h1; have h3 : ((w114.heap.size ≤ B123) ∧ B123 < w115.heap.size) := h1; omega)
     replace hP115 := hP115.upd1 hU124 (by intro h1; have h3 : ((w114.heap.size ≤ B123) ∧ B123 < w115.heap.size) := h1; omega)
     replace hb121 := hb121.upd1 hU124 (by omega)
     refine Wl_nil ?_
     refine W_seq ?_
     refine W_seq ?_
     refine W_region ?_
     refine Wl_v (r_mv (v := .func (.func 61) #[] #[.pointer (some ⟨Bl115, 0, none⟩), .pointer (some ⟨Bb115, 0, none⟩)]) rfl) ?_
     refine Wl_nil ?_
     refine W_block ?_
     refine W_range (gf := 61) (ar := fun y => #[y, .pointer (some ⟨Bl115, 0, none⟩), .pointer (some ⟨Bb115, 0, none⟩)]) rfl Try.call61 (fun y => by simp) ?_
     intro D125 fn125 w125 hD125 hU125 hzz125 hdf125 hrc1250
     have hzw125 := hU125.size
     replace HU := HU.trans0 hU125
     replace hb1 := hb1.upd0 hU125
     replace hb2 := hb2.upd0 hU125
     replace hb7 := hb7.upd0 hU125
     replace hb8 := hb8.upd0 hU125
     replace hBl115 := hBl115.upd0 hU125
     replace hBb115 := hBb115.upd0 hU125
     replace hO115 := hO115.upd0 hU125
     replace hP115 := hP115.upd0 hU125
     replace hb121 := hb121.upd0 hU125
     replace hb123 := hb123.upd0 hU125
     obtain ⟨r125, hr125, hrc125⟩ : ∃ r, r = _ ∧ Rec w125 (D125 + 1) r := ⟨_, rfl, hrc1250⟩
     clear hrc1250
     obtain ⟨J125, hJ125⟩ : ∃ J : Nat → World → Prop, ∀ i w', J i w' ↔ (Rec w' (D125 + 1) r125 ∧ Dfr w' D125 ∧ Blk w' B123 [.int .i64 0] ∧ Blk w' B1 [.int .i64 many] ∧ Blk w' B2 [.bool false] ∧ Blk w' B7 [.slice none 0 0] ∧ Blk w' B8 [.slice none 0 0] ∧ Blk w' Bl115 [.slice a115 n c115] ∧ Blk w' Bb115 [.slice e115 m f115] ∧ Own w' (fun g => ((w114.heap.size ≤ g) ∧ g < w115.heap.size)) 3 1 (.slice a115 n c115) n (ints .i64 l) ∧ Own w' (fun g => ((w114.heap.size ≤ g) ∧ g < w115.heap.size)) 5 1 (.slice e115 m f115) m (ints .u8 b) ∧ Blk w' B121 [.int .i64 0] ∧ Upd No w w') := ⟨_, fun _ _ => Iff.rfl⟩
     obtain ⟨Jx125, hJx125⟩ : ∃ Jx : World → Prop, ∀ w', Jx w' ↔ (False) := ⟨_, fun _ => Iff.rfl⟩
     refine (oall1_emp (J := J125) (Jx := Jx125) w125 (oall1_tree w125 hBl115 hBb115 hO115.sl hP115.sl (by omega) (by omega) hb q3) ?_ ?_ ?_).mono ?_
     ·exact (hJ125 _ _).2 ⟨hrc125, hdf125, hb123, hb1, hb2, hb7, hb8, hBl115, hBb115, hO115, hP115, hb121, HU⟩
     ·intro i wa wb hh hUs
      obtain ⟨hrc125, hdf125, hb123, hb1, hb2, hb7, hb8, hBl115, hBb115, hO115, hP115, hb121, HU⟩ := (hJ125 _ _).1 hh
      replace hrc125 := hrc125.upd0 hUs
      replace hdf125 := hdf125.upd0 hUs
      replace hb123 := hb123.upd0 hUs
      replace hb1 := hb1.upd0 hUs
      replace hb2 := hb2.upd0 hUs
      replace hb7 := hb7.upd0 hUs
      replace hb8 := hb8.upd0 hUs
      replace hBl115 := hBl115.upd0 hUs
      replace hBb115 := hBb115.upd0 hUs
      replace hO115 := hO115.upd0 hUs
      replace hP115 := hP115.upd0 hUs
      replace hb121 := hb121.upd0 hUs
      replace HU := HU.trans0 hUs
      exact (hJ125 _ _).2 ⟨hrc125, hdf125, hb123, hb1, hb2, hb7, hb8, hBl115, hBb115, hO115, hP115, hb121, HU⟩
     ·intro i126 w126 hi126 hh
      obtain ⟨hrc125, hdf125, hb123, hb1, hb2, hb7, hb8, hBl115, hBb115, hO115, hP115, hb121, HU⟩ := (hJ125 _ _).1 hh
      have hrl125 := hrc125.lt
      omega
     rintro e w127 ⟨v, rfl, hh | hh⟩
     ·obtain ⟨hrc125, hdf125, hb123, hb1, hb2, hb7, hb8, hBl115, hBb115, hO115, hP115, hb121, HU⟩ := (hJ125 _ _).1 hh
      have hrl125 := hrc125.lt
      refine ⟨r125, hrc125, (by rw [hr125]; simp), ?_⟩
      intro w128 hU128 hzz128
      have hzw128 := hU128.size
      replace hdf125 := hdf125.upd1 hU128 (by omega)
      replace hb123 := hb123.upd1 hU128 (by omega)
      replace hb1 := hb1.upd1 hU128 (by omega)
      replace hb2 := hb2.upd1 hU128 (by omega)
      replace hb7 := hb7.upd1 hU128 (by omega)
      replace hb8 := hb8.upd1 hU128 (by omega)
      replace hBl115 := hBl115.upd1 hU128 (by omega)
      replace hBb115 := hBb115.upd1 hU128 (by omega)
      replace hO115 := hO115.upd1 hU128 (by intro h1; have h3 : ((w114.heap.size ≤ (D125 + 1)) ∧ (D125 + 1) < w115.heap.size) := h1; omega)
      replace hP115 := hP115.upd1 hU128 (by intro h1; have h3 : ((w114.heap.size ≤ (D125 + 1)) ∧ (D125 + 1) < w115.heap.size) := h1; omega)
      replace hb121 := hb121.upd1 hU128 (by omega)
      replace HU := HU.trans1 hU128 (by show (False) ∨ w.heap.size ≤ (D125 + 1); omega)
      rw [hr125]
      refine W_seq ?_
      refine W_region ?_
      refine Wl_load (v := .int .i64 0) Try.isAgg3 rfl hb121 rfl ?_
      refine Wl_v (v := .bool true) (r_eq (a := 0) (b := 0) rfl rfl) ?_
      refine Wl_v (r_mv (v := .bool true) rfl) ?_
      refine Wl_guard_t rfl ?_
      refine Wl_load (v := .int .i64 0) Try.isAgg3 rfl hb123 rfl ?_
      refine Wl_guard_t rfl ?_
      refine Wl_load (v := .slice none 0 0) Try.isAgg23 rfl hb7 rfl ?_
      refine Wl_guard_t rfl ?_
      refine Wl_v (r_len Try.underlying23 rfl) ?_
      refine Wl_guard_t rfl ?_
      refine Wl_load (v := .int .i64 many) Try.isAgg3 rfl hb1 rfl ?_
      refine Wl_guard_t rfl ?_
      refine Wl_v (r_max rfl rfl) ?_
      refine Wl_guard_t rfl ?_
      refine Wl_v (r_min rfl rfl) ?_
      refine Wl_guard_t rfl ?_
      refine Wl_v (r_ne rfl rfl) ?_
      refine Wl_v (r_pick_t (v := .bool (decide (0 ≠ (min 0 (max 1 many))))) rfl rfl) ?_
      refine Wl_v (r_mv (v := .bool (decide (0 ≠ (min 0 (max 1 many))))) rfl) ?_
      have q23 : ¬ (0 ≠ (min 0 (max 1 many))) := (by omega)
      rw [decide_eq_false q23]
      refine Wl_guard_t rfl ?_
      refine Wl_load (v := .int .i64 0) Try.isAgg3 rfl hb121 rfl ?_
      refine Wl_guard_t rfl ?_
      refine Wl_v (v := .bool false) (r_eq (a := 0) (b := 1) rfl rfl) ?_
      refine Wl_guard_t rfl ?_
      refine Wl_v (r_mv (v := .bool false) rfl) ?_
      refine Wl_guard_f rfl ?_
      refine Wl_guard_f rfl ?_
      refine Wl_guard_f rfl ?_
      refine Wl_guard_f rfl ?_
      refine Wl_guard_t rfl ?_
      refine Wl_v (r_pick_f (v := .bool false) rfl rfl) ?_
      refine Wl_v (r_pick_f (v := .bool false) rfl rfl) ?_
      refine Wl_nil ?_
      refine W_cond_f rfl ?_
      refine W_skip ?_
      refine W_seq ?_
      refine W_seq ?_
      refine W_region ?_
      refine Wl_load (v := .int .i64 0) Try.isAgg3 rfl hb121 rfl ?_
      refine Wl_nil ?_
      refine W_region ?_
      refine Wl_alloc (cs := [.int .i64 0]) Try.zeroValue3 rfl ?_
      intro B129 w129 hB129 hU129 hzz129 hb129
      have hzw129 := hU129.size
      replace hdf125 := hdf125.upd0 hU129
      replace hb123 := hb123.upd0 hU129
      replace hb1 := hb1.upd0 hU129
      replace hb2 := hb2.upd0 hU129
      replace hb7 := hb7.upd0 hU129
      replace hb8 := hb8.upd0 hU129
      replace hBl115 := hBl115.upd0 hU129
      replace hBb115 := hBb115.upd0 hU129
      replace hO115 := hO115.upd0 hU129
      replace hP115 := hP115.upd0 hU129
      replace hb121 := hb121.upd0 hU129
      replace HU := HU.trans0 hU129
      refine Wl_store (v := .int .i64 0) (cs' := [.int .i64 0]) Try.sizeOf3 rfl rfl rfl rfl hb129 rfl rfl ?_
      intro w130 hU130 hzz130 hb129n
      replace hb129 := hb129n; clear hb129n
      have hzw130 := hU130.size
      replace hdf125 := hdf125.upd1 hU130 (by omega)
      replace hb123 := hb123.upd1 hU130 (by omega)
      replace hb1 := hb1.upd1 hU130 (by omega)
      replace hb2 := hb2.upd1 hU130 (by omega)
      replace hb7 := hb7.upd1 hU130 (by omega)
      replace hb8 := hb8.upd1 hU130 (by omega)
      replace hBl115 := hBl115.upd1 hU130 (by omega)
      replace hBb115 := hBb115.upd1 hU130 (by omega)
      replace hO115 := hO115.upd1 hU130 (by intro h1; have h3 : ((w114.heap.size ≤ B129) ∧ B129 < w115.heap.size) := h1; omega)
      replace hP115 := hP115.upd1 hU130 (by intro h1; have h3 : ((w114.heap.size ≤ B129) ∧ B129 < w115.heap.size) := h1; omega)
      replace hb121 := hb121.upd1 hU130 (by omega)
      replace HU := HU.trans1 hU130 (by show (False) ∨ w.heap.size ≤ B129; omega)
      refine Wl_nil ?_
      refine W_region ?_
      refine Wl_load (v := .int .i64 0) Try.isAgg3 rfl hb129 rfl ?_
      refine Wl_v (r_add rfl rfl (show IntKind.i64.wrap (0 + 1) = 1 by decide)) ?_
      refine Wl_store (v := .int .i64 1) (cs' := [.int .i64 1]) Try.sizeOf3 rfl rfl rfl rfl hb129 rfl rfl ?_
      intro w131 hU131 hzz131 hb129n
      replace hb129 := hb129n; clear hb129n
      have hzw131 := hU131.size
      replace hdf125 := hdf125.upd1 hU131 (by omega)
      replace hb123 := hb123.upd1 hU131 (by omega)
      replace hb1 := hb1.upd1 hU131 (by omega)
      replace hb2 := hb2.upd1 hU131 (by omega)
      replace hb7 := hb7.upd1 hU131 (by omega)
      replace hb8 := hb8.upd1 hU131 (by omega)
      replace hBl115 := hBl115.upd1 hU131 (by omega)
      replace hBb115 := hBb115.upd1 hU131 (by omega)
      replace hO115 := hO115.upd1 hU131 (by intro h1; have h3 : ((w114.heap.size ≤ B129) ∧ B129 < w115.heap.size) := h1; omega)
      replace hP115 := hP115.upd1 hU131 (by intro h1; have h3 : ((w114.heap.size ≤ B129) ∧ B129 < w115.heap.size) := h1; omega)
      replace hb121 := hb121.upd1 hU131 (by omega)
      replace HU := HU.trans1 hU131 (by show (False) ∨ w.heap.size ≤ B129; omega)
      refine Wl_nil ?_
      refine W_seq ?_
      refine W_seq ?_
      refine W_region ?_
      refine Wl_load (v := .int .i64 1) Try.isAgg3 rfl hb129 rfl ?_
      refine Wl_v (v := .bool true) (r_lt (a := 1) (b := 2) rfl rfl) ?_
      refine Wl_nil ?_
      refine W_cond_t rfl ?_
      refine W_skip ?_
      refine W_seq ?_
      refine W_block ?_
      refine W_seq ?_
      refine W_region ?_
      refine Wl_alloc (cs := [.int .i64 0]) Try.zeroValue3 rfl ?_
      intro B132 w132 hB132 hU132 hzz132 hb132
      have hzw132 := hU132.size
      replace hdf125 := hdf125.upd0 hU132
      replace hb123 := hb123.upd0 hU132
      replace hb1 := hb1.upd0 hU132
      replace hb2 := hb2.upd0 hU132
      replace hb7 := hb7.upd0 hU132
      replace hb8 := hb8.upd0 hU132
      replace hBl115 := hBl115.upd0 hU132
      replace hBb115 := hBb115.upd0 hU132
      replace hO115 := hO115.upd0 hU132
      replace hP115 := hP115.upd0 hU132
      replace hb121 := hb121.upd0 hU132
      replace HU := HU.trans0 hU132
      replace hb129 := hb129.upd0 hU132
      refine Wl_store (v := .int .i64 0) (cs' := [.int .i64 0]) Try.sizeOf3 rfl rfl rfl rfl hb132 rfl rfl ?_
      intro w133 hU133 hzz133 hb132n
      replace hb132 := hb132n; clear hb132n
      have hzw133 := hU133.size
      replace hdf125 := hdf125.upd1 hU133 (by omega)
      replace hb123 := hb123.upd1 hU133 (by omega)
      replace hb1 := hb1.upd1 hU133 (by omega)
      replace hb2 := hb2.upd1 hU133 (by omega)
      replace hb7 := hb7.upd1 hU133 (by omega)
      replace hb8 := hb8.upd1 hU133 (by omega)
      replace hBl115 := hBl115.upd1 hU133 (by omega)
      replace hBb115 := hBb115.upd1 hU133 (by omega)
      replace hO115 := hO115.upd1 hU133 (by intro h1; have h3 : ((w114.heap.size ≤ B132) ∧ B132 < w115.heap.size) := h1; omega)
      replace hP115 := hP115.upd1 hU133 (by intro h1; have h3 : ((w114.heap.size ≤ B132) ∧ B132 < w115.heap.size) := h1; omega)
      replace hb121 := hb121.upd1 hU133 (by omega)
      replace HU := HU.trans1 hU133 (by show (False) ∨ w.heap.size ≤ B132; omega)
      replace hb129 := hb129.upd1 hU133 (by omega)
      refine Wl_nil ?_
      refine W_seq ?_
      refine W_seq ?_
      refine W_region ?_
      refine Wl_v (r_mv (v := .func (.func 61) #[] #[.pointer (some ⟨Bl115, 0, none⟩), .pointer (some ⟨Bb115, 0, none⟩)]) rfl) ?_
      refine Wl_nil ?_
      refine W_block ?_
      refine W_range (gf := 61) (ar := fun y => #[y, .pointer (some ⟨Bl115, 0, none⟩), .pointer (some ⟨Bb115, 0, none⟩)]) rfl Try.call61 (fun y => by simp) ?_
      intro D134 fn134 w134 hD134 hU134 hzz134 hdf134 hrc1340
      have hzw134 := hU134.size
      replace hdf125 := hdf125.upd0 hU134
      replace hb123 := hb123.upd0 hU134
      replace hb1 := hb1.upd0 hU134
      replace hb2 := hb2.upd0 hU134
      replace hb7 := hb7.upd0 hU134
      replace hb8 := hb8.upd0 hU134
      replace hBl115 := hBl115.upd0 hU134
      replace hBb115 := hBb115.upd0 hU134
      replace hO115 := hO115.upd0 hU134
      replace hP115 := hP115.upd0 hU134
      replace hb121 := hb121.upd0 hU134
      replace HU := HU.trans0 hU134
      replace hb129 := hb129.upd0 hU134
      replace hb132 := hb132.upd0 hU134
      obtain ⟨r134, hr134, hrc134⟩ : ∃ r, r = _ ∧ Rec w134 (D134 + 1) r := ⟨_, rfl, hrc1340⟩
      clear hrc1340
      obtain ⟨J134, hJ134⟩ : ∃ J : Nat → World → Prop, ∀ i w', J i w' ↔ (Rec w' (D134 + 1) r134 ∧ Dfr w' D134 ∧ Blk w' B132 [.int .i64 0] ∧ Dfr w' D125 ∧ Blk w' B123 [.int .i64 0] ∧ Blk w' B1 [.int .i64 many] ∧ Blk w' B2 [.bool false] ∧ Blk w' B7 [.slice none 0 0] ∧ Blk w' B8 [.slice none 0 0] ∧ Blk w' Bl115 [.slice a115 n c115] ∧ Blk w' Bb115 [.slice e115 m f115] ∧ Own w' (fun g => ((w114.heap.size ≤ g) ∧ g < w115.heap.size)) 3 1 (.slice a115 n c115) n (ints .i64 l) ∧ Own w' (fun g => ((w114.heap.size ≤ g) ∧ g < w115.heap.size)) 5 1 (.slice e115 m f115) m (ints .u8 b) ∧ Blk w' B121 [.int .i64 0] ∧ Blk w' B129 [.int .i64 1] ∧ Upd No w w') := ⟨_, fun _ _ => Iff.rfl⟩
      obtain ⟨Jx134, hJx134⟩ : ∃ Jx : World → Prop, ∀ w', Jx w' ↔ (False) := ⟨_, fun _ => Iff.rfl⟩
      refine (oall1_emp (J := J134) (Jx := Jx134) w134 (oall1_tree w134 hBl115 hBb115 hO115.sl hP115.sl (by omega) (by omega) hb q3) ?_ ?_ ?_).mono ?_
      ·exact (hJ134 _ _).2 ⟨hrc134, hdf134, hb132, hdf125, hb123, hb1, hb2, hb7, hb8, hBl115, hBb115, hO115, hP115, hb121, hb129, HU⟩
      ·intro i wa wb hh hUs
       obtain ⟨hrc134, hdf134, hb132, hdf125, hb123, hb1, hb2, hb7, hb8, hBl115, hBb115, hO115, hP115, hb121, hb129, HU⟩ := (hJ134 _ _).1 hh
       replace hrc134 := hrc134.upd0 hUs
       replace hdf134 := hdf134.upd0 hUs
       replace hb132 := hb132.upd0 hUs
       replace hdf125 := hdf125.upd0 hUs
       replace hb123 := hb123.upd0 hUs
       replace hb1 := hb1.upd0 hUs
       replace hb2 := hb2.upd0 hUs
       replace hb7 := hb7.upd0 hUs
       replace hb8 := hb8.upd0 hUs
       replace hBl115 := hBl115.upd0 hUs
       replace hBb115 := hBb115.upd0 hUs
       replace hO115 := hO115.upd0 hUs
       replace hP115 := hP115.upd0 hUs
       replace hb121 := hb121.upd0 hUs
       replace hb129 := hb129.upd0 hUs
       replace HU := HU.trans0 hUs
       exact (hJ134 _ _).2 ⟨hrc134, hdf134, hb132, hdf125, hb123, hb1, hb2, hb7, hb8, hBl115, hBb115, hO115, hP115, hb121, hb129, HU⟩
      ·intro i135 w135 hi135 hh
       obtain ⟨hrc134, hdf134, hb132, hdf125, hb123, hb1, hb2, hb7, hb8, hBl115, hBb115, hO115, hP115, hb121, hb129, HU⟩ := (hJ134 _ _).1 hh
       have hrl134 := hrc134.lt
       omega
      rintro e w136 ⟨v, rfl, hh | hh⟩
      ·obtain ⟨hrc134, hdf134, hb132, hdf125, hb123, hb1, hb2, hb7, hb8, hBl115, hBb115, hO115, hP115, hb121, hb129, HU⟩ := (hJ134 _ _).1 hh
       have hrl134 := hrc134.lt
       refine ⟨r134, hrc134, (by rw [hr134]; simp), ?_⟩
       intro w137 hU137 hzz137
       have hzw137 := hU137.size
       replace hdf134 := hdf134.upd1 hU137 (by omega)
       replace hb132 := hb132.upd1 hU137 (by omega)
       replace hdf125 := hdf125.upd1 hU137 (by omega)
       replace hb2 := hb2.upd1 hU137 (by omega)
       replace hb7 := hb7.upd1 hU137 (by omega)
       replace hb129 := hb129.upd1 hU137 (by omega)
       replace HU := HU.trans1 hU137 (by show (False) ∨ w.heap.size ≤ (D134 + 1); omega)
       rw [hr134]
       refine W_seq ?_
       refine W_region ?_
       refine Wl_load (v := .int .i64 1) Try.isAgg3 rfl hb129 rfl ?_
       refine Wl_v (v := .bool false) (r_eq (a := 1) (b := 0) rfl rfl) ?_
       refine Wl_v (r_mv (v := .bool false) rfl) ?_
       refine Wl_guard_f rfl ?_
       refine Wl_guard_f rfl ?_
       refine Wl_guard_f rfl ?_
       refine Wl_guard_f rfl ?_
       refine Wl_guard_f rfl ?_
       refine Wl_guard_f rfl ?_
       refine Wl_guard_f rfl ?_
       refine Wl_v (r_pick_f (v := .bool false) rfl rfl) ?_
       refine Wl_v (r_mv (v := .bool false) rfl) ?_
       refine Wl_guard_t rfl ?_
       refine Wl_load (v := .int .i64 1) Try.isAgg3 rfl hb129 rfl ?_
       refine Wl_guard_t rfl ?_
       refine Wl_v (v := .bool true) (r_eq (a := 1) (b := 1) rfl rfl) ?_
       refine Wl_guard_t rfl ?_
       refine Wl_v (r_mv (v := .bool true) rfl) ?_
       refine Wl_guard_t rfl ?_
       refine Wl_load (v := .int .i64 0) Try.isAgg3 rfl hb132 rfl ?_
       refine Wl_guard_t rfl ?_
       refine Wl_load (v := .slice none 0 0) Try.isAgg23 rfl hb7 rfl ?_
       refine Wl_guard_t rfl ?_
       refine Wl_v (r_len Try.underlying23 rfl) ?_
       refine Wl_guard_t rfl ?_
       refine Wl_v (v := .bool false) (r_ne (a := 0) (b := 0) rfl rfl) ?_
       refine Wl_guard_t rfl ?_
       refine Wl_v (r_pick_t (v := .bool false) rfl rfl) ?_
       refine Wl_v (r_pick_f (v := .bool false) rfl rfl) ?_
       refine Wl_nil ?_
       refine W_cond_f rfl ?_
       refine W_skip ?_
       refine W_seq ?_
       refine W_seq ?_
       refine W_region ?_
       refine Wl_load (v := .int .i64 1) Try.isAgg3 rfl hb129 rfl ?_
       refine Wl_nil ?_
       refine W_region ?_
       refine Wl_alloc (cs := [.int .i64 0]) Try.zeroValue3 rfl ?_
       intro B138 w138 hB138 hU138 hzz138 hb138
       have hzw138 := hU138.size
       replace hdf134 := hdf134.upd0 hU138
       replace hdf125 := hdf125.upd0 hU138
       replace hb2 := hb2.upd0 hU138
       replace HU := HU.trans0 hU138
       refine Wl_store (v := .int .i64 1) (cs' := [.int .i64 1]) Try.sizeOf3 rfl rfl rfl rfl hb138 rfl rfl ?_
       intro w139 hU139 hzz139 hb138n
       replace hb138 := hb138n; clear hb138n
       have hzw139 := hU139.size
       replace hdf134 := hdf134.upd1 hU139 (by omega)
       replace hdf125 := hdf125.upd1 hU139 (by omega)
       replace hb2 := hb2.upd1 hU139 (by omega)
       replace HU := HU.trans1 hU139 (by show (False) ∨ w.heap.size ≤ B138; omega)
       refine Wl_nil ?_
       refine W_region ?_
       refine Wl_load (v := .int .i64 1) Try.isAgg3 rfl hb138 rfl ?_
       refine Wl_v (r_add rfl rfl (show IntKind.i64.wrap (1 + 1) = 2 by decide)) ?_
       refine Wl_store (v := .int .i64 2) (cs' := [.int .i64 2]) Try.sizeOf3 rfl rfl rfl rfl hb138 rfl rfl ?_
       intro w140 hU140 hzz140 hb138n
       replace hb138 := hb138n; clear hb138n
       have hzw140 := hU140.size
       replace hdf134 := hdf134.upd1 hU140 (by omega)
       replace hdf125 := hdf125.upd1 hU140 (by omega)
       replace hb2 := hb2.upd1 hU140 (by omega)
       replace HU := HU.trans1 hU140 (by show (False) ∨ w.heap.size ≤ B138; omega)
       refine Wl_nil ?_
       refine W_seq ?_
       refine W_seq ?_
       refine W_region ?_
       refine Wl_load (v := .int .i64 2) Try.isAgg3 rfl hb138 rfl ?_
       refine Wl_v (v := .bool false) (r_lt (a := 2) (b := 2) rfl rfl) ?_
       refine Wl_nil ?_
       refine W_cond_f rfl ?_
       refine W_exit ?_
       refine W_seq ?_
       refine W_region ?_
       refine Wl_call (r_call0 rfl Try.call11 ) (works17 _ ) ?_
       rintro v w141 ⟨rfl, hU141⟩
       have hzw141 := hU141.size
       replace hdf134 := hdf134.upd0 hU141
       replace hdf125 := hdf125.upd0 hU141
       replace hb2 := hb2.upd0 hU141
       replace HU := HU.trans0 hU141
       refine Wl_store (v := .bool true) (cs' := [.bool true]) Try.sizeOf4 rfl rfl rfl rfl hb2 rfl rfl ?_
       intro w142 hU142 hzz142 hb2n
       replace hb2 := hb2n; clear hb2n
       have hzw142 := hU142.size
       replace hdf134 := hdf134.upd1 hU142 (by omega)
       replace hdf125 := hdf125.upd1 hU142 (by omega)
       replace HU := HU.trans1 hU142 (by show (False) ∨ w.heap.size ≤ B2; omega)
       refine Wl_nil ?_
       refine W_ret ?_
       refine ret_ds rfl ?_
       refine lv_mark (by simp) hdf134 ?_
       intro w143 hU143 hzz143
       have hzw143 := hU143.size
       replace hdf125 := hdf125.upd1 hU143 (by omega)
       replace hb2 := hb2.upd1 hU143 (by omega)
       replace HU := HU.trans1 hU143 (by show (False) ∨ w.heap.size ≤ D134; omega)
       refine lv_mark (by simp) hdf125 ?_
       intro w144 hU144 hzz144
       have hzw144 := hU144.size
       replace hb2 := hb2.upd1 hU144 (by omega)
       replace HU := HU.trans1 hU144 (by show (False) ∨ w.heap.size ≤ D125; omega)
       refine lv_nil (v := .bool true) (rc1 Try.results9 rfl (cellIs Try.isAgg4 hb2)) ?_
       exact ⟨_, rfl, rfl, HU⟩
      ·exact ((hJx134 _).1 hh).elim
     ·exact ((hJx125 _).1 hh).elim

end Go.Proofs.Ytilegaokfamfnaa
