/-
  Several texts of this project, put together.
-/
import Derived.Test.YtbjjhfoeckkacaaDoorSM
import Derived.Test.YtbjjhfoeckkacaaDoorSA
set_option linter.unusedVariables false
set_option linter.unusedSimpArgs false
set_option linter.deprecated false
set_option maxRecDepth 100000
namespace Go.Proofs.YtbjjhfoeckkacaaDoor
open Go.Fw _root_.Go.Proofs.Tryd
theorem wstr_spec {B hi : Nat} {l s : List Int} (w : World) (hb : Bld w 78 5 B hi l) (hs : Byt s) (hlen : l.length + s.length ≤ 140737488355328) :
  Calls Tryd.prog 28 #[.pointer (some ⟨B, 0, none⟩), .string (strOfNums s)] w (Ret fun v w' => v = .tuple #[.int .i64 ((s.length : Nat) : Int), .nilIface] ∧ Bld w' 78 5 B w'.heap.size (l ++ s) ∧ Upd (fun g => B ≤ g) w w') := by
 refine (Tryd.Builder_WriteString B B _ (strOfNums s) w hb.here (by rw [strOfNums_size, ints, List.length_map]; exact hlen) (Nat.le_trans hb.1 hb.2.1)).mono ?_
 rintro e w' ⟨rfl, h, hw⟩
 refine ⟨_, rfl, by rw [strOfNums_size], Bld.of (Nat.le_trans (Nat.le_trans hb.1 hb.2.1) hw.size) (byt_app hb.2.2.1 hs) (.inr ?_), upd_of_belowS hw⟩
 rw [Lib.strCells_eq, ints_bytes hs] at h
 rw [show ints .u8 (l ++ s) = ints .u8 l ++ ints .u8 s from by simp [ints]]
 exact h
theorem bstr_spec {B hi : Nat} {l : List Int} (w : World) (hb : Bld w 78 5 B hi l) :
  Calls Tryd.prog 29 #[.pointer (some ⟨B, 0, none⟩)] w (Ret fun v w' => v = .string (strOfNums l) ∧ Upd (fun g => B ≤ g) w w') := by
 refine (Tryd.Builder_String_any B B ((strOfNums l).data.toList) w (by rw [ints_bytes hb.2.2.1]; exact hb.here) (Nat.le_trans hb.1 hb.2.1)).mono ?_
 rintro e w' ⟨rfl, hw⟩
 exact ⟨_, rfl, by rw [ba_nums, strOfNums_nums hb.2.2.1], upd_of_belowS hw⟩
set_option maxHeartbeats 4000000 in
theorem ttext_ok {a : Option Addr} {n c : Nat} {bs : List Int} {g0 : Nat} (w : World) (ht : Tab w g0) (hs : Sl w (fun g => g < w.heap.size) 1 (.slice a n c) n (ints .u8 bs)) (hb : Byt bs) (hm : n ≤ 100000) (he : (ga bs 0).2 = 0) :
  Calls Tryd.prog 15 #[.slice a n c] w (Ret fun v w' => v = .tuple #[.string (strOfNums (txt (ga bs 0).1)), .int .i64 0] ∧ Upd No w w') := by
 have HU := Upd.rno w
 have hl_hs := ilen hs
 have hc_hs := hs.cap.1
 have htl := ht.1
 refine calls_of_W func15 rfl ntmps15 (by simp) ?_
 refine W_seq (W_region ?_)
 refine Was (.string (strOfNums [])) ?_
 refine Was (.int .i64 0) ?_
 refine Wl_nil (W_seq (W_region ?_))
 refine Wmv (.slice a n c) ?_
 refine Wl_call (r_call1 rfl call19 rfl) (read_ok _ hs.any hb (by omega) (by omega)) ?_
 rintro v w1 ⟨a1, m1, c1, rfl, hT1, hU1⟩
 have hzw1 := hU1.size
 replace ht := ht.upd0 hU1
 replace HU := HU.trans0 hU1
 obtain ⟨vs2, hv2, hS2, hP2⟩ := hT1
 have hl_hS2 := rlen encP_len (by decide) hS2
 have hc_hS2 := hS2.cap.1
 have hlm2 : (ga bs 0).1.length = m1 := by rw [← hv2, List.length_map]; exact hl_hS2
 refine Wmv (.tuple #[.slice a1 m1 c1, .int .i64 0]) ?_
 refine Wl_v (r_ext (v := .slice a1 m1 c1) rfl rfl) ?_
 refine Wl_v (r_ext (v := .int .i64 0) rfl rfl) ?_
 refine Was (.slice a1 m1 c1) ?_
 refine Was (.int .i64 0) ?_
 refine Wl_nil (W_seq (W_seq (W_region ?_)))
 refine Wmv (.int .i64 0) ?_
 refine Wl_v (v := .bool false) (r_ne (a := 0) (b := 0) rfl rfl) ?_
 refine Wl_nil ?_
 refine W_cond_f rfl ?_
 refine W_skip (W_seq (W_region ?_))
 refine Wl_allocT (cs := [.pointer none, .slice none 0 0]) zeroValue78 rfl ?_
 intro B3 w3 hB3 hU3 hzz3 hA3
 have hBd := Bld.fresh (e := 5) hA3
 have hzw3 := hU3.size
 replace ht := ht.upd0 hU3
 replace HU := HU.trans0 hU3
 replace hS2 := hS2.upd0 hU3
 replace hP2 := hP2.upd0 hU3
 refine Wl_nil (W_seq (W_seq (W_region ?_)))
 refine Wmv (.slice a1 m1 c1) ?_
 refine Wl_v (r_len underlying57 rfl) ?_
 refine Wmv (.int .i64 0) ?_
 refine Wl_nil (W_block ?_)
 refine W_loop (fun mu ρ ds w' => ∃ (k : Nat) (hi : Nat), m1 - k = mu ∧ ds = [] ∧ Liv ρ [(6, .pointer (some ⟨B3, 0, none⟩)), (17, .slice a1 m1 c1), (18, .int .i64 ((m1 : Nat) : Int)), (19, .int .i64 ((k : Nat) : Int))] ∧ k ≤ m1 ∧ Bld w' 78 5 B3 hi (txt ((ga bs 0).1.take k)) ∧ Upd (fun g => B3 ≤ g) w3 w') _ ⟨0, w3.heap.size, rfl, rfl, ⟨rfl, rfl, rfl, (by first | rfl | exact vint (by omega) | exact vint (by simp)), trivial⟩, (by omega), (by exact hBd), Upd.refl _ _⟩ ?_
 rintro m4 ρ4 ds4 w4 ⟨k, hi, rfl, rfl, hl4, hk, hBd, hU4⟩
 obtain ⟨ρ4x, rfl⟩ : ∃ ρx, ρ4 = upds ρx [(6, .pointer (some ⟨B3, 0, none⟩)), (17, .slice a1 m1 c1), (18, .int .i64 ((m1 : Nat) : Int)), (19, .int .i64 ((k : Nat) : Int))] := ⟨_, upds_self hl4⟩
 clear hl4
 have hzw4 := hU4.size
 replace ht := ht.upd hU4 (by intro x hx; have hx2 : B3 ≤ x := hx; omega)
 replace HU := HU.trans hU4 (by intro x hx; have hx2 : B3 ≤ x := hx; show (False) ∨ w.heap.size ≤ x; omega)
 replace hS2 := hS2.upd hU4 (by intro x h1 h2; have h3 : (w.heap.size ≤ x ∧ x < w1.heap.size) := h1; have h4 : B3 ≤ x := h2; omega)
 replace hP2 := hP2.upd hU4 (by intro x hx; have hx2 : B3 ≤ x := hx; omega)
 have htx := txt_gal hb (by omega) k
 have hlx := lin_len (ga_okd hb (by omega) k).1
 have hly := lin_byt (ga_okd hb (by omega) k).1
 have hgn := ga_len hb (by omega)
 have hbh := hBd.2.1
 have hbl := hBd.1
 have HL4 := hU4
 refine W_seq (W_region ?_)
 refine Wl_v (r_lt rfl rfl) ?_
 refine Wl_nil (W_seq ?_)
 by_cases q1 : ((k : Nat) : Int) < ((m1 : Nat) : Int)
 ·rw [decide_eq_true q1]
  refine W_cond_t rfl ?_
  refine W_skip (W_seq (W_block (W_seq (W_region ?_))))
  refine Wl_idxr pv0 encP_len (by decide) underlying57 sizeOf45 rfl rfl hS2 (by omega) (by omega) ?_
  intro ib5 io5 hc5
  try rw [Int.toNat_natCast] at hc5
  obtain ⟨ba6, bm6, bc6, hbe6⟩ := gd_part (i := k) hv2
  rw [hbe6] at hc5
  have hB7 := hPget hP2 hbe6 (by omega)
  have hl_hB7 := rlen encK_len (by decide) hB7
  have hc_hB7 := hB7.cap.1
  refine Wl_v (r_loada (cs := [.int .i64 (((ga bs 0).1.getD k pt0).at_), .int .i64 (((ga bs 0).1.getD k pt0).sz), .bool (decide (((ga bs 0).1.getD k pt0).sk = true)), .int .i64 (((ga bs 0).1.getD k pt0).pl), .int .i64 (((ga bs 0).1.getD k pt0).hd.1), .int .i64 (((ga bs 0).1.getD k pt0).hd.2.1), .int .u32 (((ga bs 0).1.getD k pt0).hd.2.2.1), .bool (decide (((ga bs 0).1.getD k pt0).hd.2.2.2 = true)), .slice ba6 bm6 bc6, .int .u32 (((ga bs 0).1.getD k pt0).ck)]) isAgg45 sizeOf45 rfl rfl hc5) ?_
  refine Wl_alloc (cs := [.int .i64 0, .int .i64 0, .bool false, .int .i64 0, .int .i64 0, .int .i64 0, .int .u32 0, .bool false, .slice none 0 0, .int .u32 0]) zeroValue45 rfl ?_
  intro B8 w8 hB8 hU8 hzz8 hb8
  have hzw8 := hU8.size
  replace ht := ht.upd0 hU8
  replace hBd := hBd.upd0 hU8
  replace HL4 := HL4.trans0 hU8
  replace hB7 := hB7.upd0 hU8
  refine Wl_storea (off := 0) (vs := [.int .i64 (((ga bs 0).1.getD k pt0).at_), .int .i64 (((ga bs 0).1.getD k pt0).sz), .bool (decide (((ga bs 0).1.getD k pt0).sk = true)), .int .i64 (((ga bs 0).1.getD k pt0).pl), .int .i64 (((ga bs 0).1.getD k pt0).hd.1), .int .i64 (((ga bs 0).1.getD k pt0).hd.2.1), .int .u32 (((ga bs 0).1.getD k pt0).hd.2.2.1), .bool (decide (((ga bs 0).1.getD k pt0).hd.2.2.2 = true)), .slice ba6 bm6 bc6, .int .u32 (((ga bs 0).1.getD k pt0).ck)]) (cs' := [.int .i64 (((ga bs 0).1.getD k pt0).at_), .int .i64 (((ga bs 0).1.getD k pt0).sz), .bool (decide (((ga bs 0).1.getD k pt0).sk = true)), .int .i64 (((ga bs 0).1.getD k pt0).pl), .int .i64 (((ga bs 0).1.getD k pt0).hd.1), .int .i64 (((ga bs 0).1.getD k pt0).hd.2.1), .int .u32 (((ga bs 0).1.getD k pt0).hd.2.2.1), .bool (decide (((ga bs 0).1.getD k pt0).hd.2.2.2 = true)), .slice ba6 bm6 bc6, .int .u32 (((ga bs 0).1.getD k pt0).ck)]) sizeOf45 rfl rfl rfl (by simp only [List.mem_cons, List.not_mem_nil, or_false, forall_eq_or_imp, forall_eq]; exact ⟨rfl, rfl, rfl, rfl, rfl, rfl, rfl, rfl, rfl, rfl⟩) hb8 (by simp) rfl ?_
  intro w9 hU9 hzz9 hb8n
  replace hb8 := hb8n; clear hb8n
  have hzw9 := hU9.size
  replace ht := ht.upd1 hU9 (by omega)
  replace hBd := hBd.upd1 hU9 (by omega)
  replace HL4 := HL4.trans1 hU9 (by show (B3 ≤ B8) ∨ w3.heap.size ≤ B8; omega)
  replace hB7 := hB7.upd1 hU9 (show ¬ ((w.heap.size ≤ B8 ∧ B8 < w1.heap.size ∧ B8 ≠ w1.heap.size)) by omega)
  refine Wl_nil (W_region ?_)
  refine Wl_v (r_loada (b := B8) (off := 0) (cs := [.int .i64 (((ga bs 0).1.getD k pt0).at_), .int .i64 (((ga bs 0).1.getD k pt0).sz), .bool (decide (((ga bs 0).1.getD k pt0).sk = true)), .int .i64 (((ga bs 0).1.getD k pt0).pl), .int .i64 (((ga bs 0).1.getD k pt0).hd.1), .int .i64 (((ga bs 0).1.getD k pt0).hd.2.1), .int .u32 (((ga bs 0).1.getD k pt0).hd.2.2.1), .bool (decide (((ga bs 0).1.getD k pt0).hd.2.2.2 = true)), .slice ba6 bm6 bc6, .int .u32 (((ga bs 0).1.getD k pt0).ck)]) isAgg45 sizeOf45 rfl rfl (fun j hj => by rw [hb8.cell]; match j, hj with | 0, _ => rfl | 1, _ => rfl | 2, _ => rfl | 3, _ => rfl | 4, _ => rfl | 5, _ => rfl | 6, _ => rfl | 7, _ => rfl | 8, _ => rfl | 9, _ => rfl)) ?_
  refine Wl_call (r_call1 rfl call17 rfl) (line_spec _ ht (ga_okd hb (by omega) k).1 hB7.any) ?_
  rintro v w10 ⟨rfl, hU10⟩
  have hzw10 := hU10.size
  replace hBd := hBd.upd0 hU10
  replace HL4 := HL4.trans0 hU10
  refine Wl_v (r_addstr (a := lin ((ga bs 0).1.getD k pt0)) (b := [10]) rfl rfl (by simp only [List.length_append, List.length_cons, List.length_nil]; omega)) ?_
  refine Wl_call (r_call2 rfl call28 rfl rfl) (wstr_spec _ hBd (byt_app hly (byt_lit (by decide))) (by simp only [List.length_append, List.length_cons, List.length_nil]; omega)) ?_
  rintro v w11 ⟨rfl, hb11, hU11⟩
  have hzw11 := hU11.size
  replace HL4 := HL4.trans hU11 (by intro x hx; have hx2 : B3 ≤ x := hx; show (B3 ≤ x) ∨ w3.heap.size ≤ x; omega)
  refine Wl_nil (W_region ?_)
  refine Wl_v (r_add rfl rfl (wi64 (by omega) (by omega))) ?_
  refine Wmv (.int .i64 (((k : Nat) : Int) + 1)) ?_
  refine Wl_nil ?_
  refine ⟨_, ?_, (k + 1), w11.heap.size, rfl, rfl, ⟨rfl, rfl, rfl, (by first | rfl | exact vint (by omega) | exact vint (by simp)), trivial⟩, (by omega), (by rw [txt_step (by omega)]; exact hb11), HL4⟩
  omega
 rw [decide_eq_false q1]
 refine W_cond_f rfl ?_
 refine W_exit ?_
 refine W_seq (W_region ?_)
 refine Wl_call (r_call1 rfl call29 rfl) (bstr_spec _ hBd) ?_
 rintro v w12 ⟨rfl, hU12⟩
 have hzw12 := hU12.size
 replace HU := HU.trans hU12 (by intro x hx; have hx2 : B3 ≤ x := hx; show (False) ∨ w.heap.size ≤ x; omega)
 refine Was (.string (strOfNums (txt ((ga bs 0).1.take k)))) ?_
 refine Was (.int .i64 0) ?_
 refine Wl_nil ?_
 refine W_ret ?_
 refine ret_end (v := .tuple #[.string (strOfNums (txt ((ga bs 0).1.take k))), .int .i64 0]) rfl (res2 results15 rfl rfl) ?_
 exact ⟨_, rfl, (vtup2 (vstr (by rw [show k = (ga bs 0).1.length from by omega, List.take_length])) rfl), HU⟩
end Go.Proofs.YtbjjhfoeckkacaaDoor
