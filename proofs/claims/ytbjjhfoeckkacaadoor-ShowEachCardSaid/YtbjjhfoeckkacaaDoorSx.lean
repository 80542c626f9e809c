/-
  Several texts of this project, put together.
-/
import Derived.Test.YtbjjhfoeckkacaaDoorSQ
set_option linter.unusedVariables false
set_option linter.unusedSimpArgs false
set_option linter.deprecated false
set_option maxRecDepth 100000
namespace Go.Proofs.YtbjjhfoeckkacaaDoor
open Go.Fw _root_.Go.Proofs.Tryd
theorem Sl.cutr {α : Type} {enc : α → List Value} {w : World} {R : Nat → Prop} {sz m c : Nat} {a : Option Addr} {L : List α} (hs : ∀ x, (enc x).length = sz) (h : Sl w R sz (.slice a m c) m (rows enc L)) (h1 : 1 ≤ m) :
  Sl w R sz (.slice (if m = 1 then a else a.map (·.add (1 * sz))) (m - 1) (m - 1)) (m - 1) (rows enc (L.drop 1)) := by
 obtain ⟨e1, a', cap, e2, e3, e4, e5⟩ := h
 simp only [Value.slice.injEq] at e2
 obtain ⟨rfl, _, rfl⟩ := e2
 have hd := rows_drop hs L 1
 refine ⟨by rw [← hd, List.length_drop, e1, Nat.one_mul, Nat.sub_mul, Nat.one_mul], _, _, rfl, Nat.le_refl _, by omega, ?_⟩
 rcases Nat.lt_or_ge 1 m with h2 | h2
 ·rw [if_neg (by omega)]
  rcases e5 with h3 | ⟨b, off, cs, t, f, rfl, hR, hw, hg⟩
  ·omega
  refine .inr ⟨b, off + 1 * sz, cs, t, f, ?_, hR, hw, fun i hi => ?_⟩
  ·simp only [Option.map_some, Option.some.injEq]
   unfold Addr.add
   split <;> simp_all
  rw [Nat.sub_mul] at hi
  rw [Nat.add_assoc, hg (1 * sz + i) (by omega), ← hd, List.getElem?_drop]
 exact .inl (by omega)
theorem gdp_drop {vs : List PV} {j : Nat} : (vs.drop j).getD 0 pv0 = vs.getD j pv0 := by
 rw [List.getD_eq_getElem?_getD, List.getD_eq_getElem?_getD, List.getElem?_drop, Nat.add_zero]
theorem drop_one {vs : List PV} {j : Nat} : (vs.drop j).drop 1 = vs.drop (j + 1) := by rw [List.drop_drop]
theorem kclone {R : Nat → Prop} {a : Option Addr} {n c : Nat} {l : List BK} (w : World) (hs : Sl w R 5 (.slice a n c) n (rows encK l)) (hn : n ≤ 100000) :
  Calls Tryd.prog 38 #[.slice a n c] w (Ret fun v w' => ∃ (a' : Option Addr) (c' : Nat), v = .slice a' n c' ∧ Own w' (fun g => w.heap.size ≤ g) 51 5 (.slice a' n c') n (rows encK l) ∧ Upd No w w') := by
 have HU := Upd.rno w
 have hl_hs := rlen encK_len (by decide) hs
 have hc_hs := hs.cap.1
 replace hs := hs.tight
 refine calls_of_W func38 rfl ntmps38 (by simp) ?_
 refine W_seq (W_region ?_)
 refine Was (.slice none 0 0) ?_
 refine Wl_nil (W_seq (W_seq (W_region ?_)))
 refine Wmv (.slice a n c) ?_
 refine Wl_v (r_eqsn underlying43 rfl rfl) ?_
 refine Wl_nil ?_
 by_cases q1 : a = none
 ·rw [decide_eq_true q1]
  refine W_cond_t rfl ?_
  refine W_seq (W_region ?_)
  refine Was (.slice none 0 0) ?_
  refine Wl_nil ?_
  refine W_ret ?_
  refine ret_end (v := .slice none 0 0) rfl (res1 results38 rfl) ?_
  obtain ⟨h0, h1⟩ := Sl.none_len (q1 ▸ hs)
  subst h0
  obtain rfl : l = [] := List.length_eq_zero_iff.1 hl_hs
  exact ⟨_, rfl, none, 0, rfl, Own.nil _ _ _ _, HU⟩
 rw [decide_eq_false q1]
 refine W_cond_f rfl ?_
 refine W_skip (W_seq (W_region ?_))
 refine Wl_lit0 underlying43 sizeOf51 ?_
 intro B1 w1 hB1 hU1 hzz1 hs1
 have hzw1 := hU1.size
 replace hs := hs.upd0 hU1
 replace HU := HU.trans0 hU1
 refine Wmv (.slice a n c) ?_
 refine Wl_appendc (cs3 := rows encK l) (tot := n) (by first | rfl | exact (rows_app _ _).symm | simp) underlying43 (ti := Tryd.t51) (z := .agg #[.int .i64 0, .int .i64 0, .int .i64 0, .int .i64 0, .bool false]) (sz := 5) (by' := 40) rfl rfl rfl rfl rfl (by decide) rfl hs1 rfl hs (rows_one encK_one _) (by omega) (by simp only [maxLen]; omega) (by omega) ?_
 intro a2 c2 w2 hU2 hzz2 hO2
 clear hs1
 have hzw2 := hU2.size
 replace HU := HU.trans hU2 (by intro x hx; have hx2 : x = B1 := hx; show (False) ∨ w.heap.size ≤ x; omega)
 replace hO2 := hO2.tight
 have hl_hO2 := rlen encK_len (by decide) hO2.sl
 have hc_hO2 := hO2.sl.cap.1
 refine Was (.slice a2 n c2) ?_
 refine Wl_nil ?_
 refine W_ret ?_
 refine ret_end (v := .slice a2 n c2) rfl (res1 results38 rfl) ?_
 exact ⟨_, rfl, a2, c2, rfl, (hO2.weak (by intro g hg; have h3 : ((((g = B1) ∨ g = w1.heap.size)) ∧ g < w2.heap.size) := hg; show w.heap.size ≤ g; omega)), HU⟩
theorem each_spec {a : Option Addr} {n c : Nat} {bs : List Int} (w : World) (hs : Sl w (fun g => g < w.heap.size) 1 (.slice a n c) n (ints .u8 bs)) (hb : Byt bs) (hm : n ≤ 100000) :
  Calls Tryd.prog 22 #[.slice a n c] w (Ret fun v w' => ∃ (Bl : Nat) (G1 : Nat) (a' : Option Addr) (m' : Nat) (c' : Nat), v = .func (.func 37) #[] #[.pointer (some ⟨Bl, 0, none⟩)] ∧ Blk w' Bl [.slice a' m' c'] ∧ Pts w' w.heap.size G1 a' m' c' ((ga bs 0).1) ∧ (w.heap.size ≤ G1 ∧ G1 ≤ Bl) ∧ Upd No w w') := by
 have HU := Upd.rno w
 have hl_hs := ilen hs
 have hc_hs := hs.cap.1
 refine calls_of_W func22 rfl ntmps22 (by simp) ?_
 refine W_seq (W_region ?_)
 refine Was (.nilFunc) ?_
 refine Wl_nil (W_seq (W_region ?_))
 refine Wmv (.slice a n c) ?_
 refine Wl_call (r_call1 rfl call36 rfl) (all_spec _ hs.any hb (by omega)) ?_
 rintro v w1 ⟨a1, m1, c1, rfl, hT1, hU1⟩
 have hzw1 := hU1.size
 replace HU := HU.trans0 hU1
 refine Wmv (.tuple #[.slice a1 m1 c1, .int .i64 ((ga bs 0).2)]) ?_
 refine Wl_v (r_ext (v := .slice a1 m1 c1) rfl rfl) ?_
 refine Wl_v (r_ext (v := .int .i64 ((ga bs 0).2)) rfl rfl) ?_
 refine Wl_alloc (cs := [.slice none 0 0]) zeroValue57 rfl ?_
 intro B2 w2 hB2 hU2 hzz2 hb2
 have hzw2 := hU2.size
 replace HU := HU.trans0 hU2
 replace hT1 := hT1.upd0 hU2
 refine Wl_store (v := .slice a1 m1 c1) (cs' := [.slice a1 m1 c1]) sizeOf57 rfl rfl rfl rfl hb2 rfl rfl ?_
 intro w3 hU3 hzz3 hb2n
 replace hb2 := hb2n; clear hb2n
 have hzw3 := hU3.size
 replace HU := HU.t1 hU3 (by omega)
 replace hT1 := hT1.upd1 hU3 (by omega)
 refine Was (.int .i64 ((ga bs 0).2)) ?_
 refine Wl_nil (W_seq (W_region ?_))
 refine Wl_v (r_mkf1 (v0 := .pointer (some ⟨B2, 0, none⟩)) rfl) ?_
 refine Was (.func (.func 37) #[] #[.pointer (some ⟨B2, 0, none⟩)]) ?_
 refine Wl_nil ?_
 refine W_ret ?_
 refine ret_end (v := .func (.func 37) #[] #[.pointer (some ⟨B2, 0, none⟩)]) rfl (res1 results22 rfl) ?_
 exact ⟨_, rfl, B2, w1.heap.size, a1, m1, c1, rfl, hb2, hT1, (by omega), HU⟩
set_option maxHeartbeats 4000000 in
theorem each1_it {ly Bl lo hi n c : Nat} {a : Option Addr} {L : List PT} {J : Nat → World → Prop} {Jx : World → Prop} {Sb : Nat → Prop} (w : World) (hBl : Blk w Bl [.slice a n c]) (hT : Pts w lo hi a n c L) (hh : hi ≤ Bl) (hm : L.length ≤ 100000) (hbn : ∀ j, (L.getD j pt0).bl.length ≤ 100000) (hSR : ∀ g, lo ≤ g → g < hi → ¬ Sb g) (hSB : ¬ Sb Bl) (hSf : ∀ g, w.heap.size ≤ g → ¬ Sb g) (hJ0 : J 0 w) (hJS : ∀ (j : Nat) (wa wb : World), J j wa → Upd (fun g => w.heap.size ≤ g) wa wb → J j wb) (hJX : ∀ (wa wb : World), Jx wa → Upd (fun g => w.heap.size ≤ g) wa wb → Jx wb) (hy : ∀ (j : Nat) (w9 : World), j < L.length → J j w9 → ∀ (a' : Option Addr) (m' c' : Nat), Sl w9 (fun g => w.heap.size ≤ g) 5 (.slice a' m' c') m' (rows encK (L.getD j pt0).bl) → YieldC Tryd.prog ly #[.int .i64 ((j : Nat) : Int), .agg #[.int .i64 ((L.getD j pt0).at_), .int .i64 ((L.getD j pt0).sz), .bool (decide ((L.getD j pt0).sk = true)), .int .i64 ((L.getD j pt0).pl), .int .i64 ((L.getD j pt0).hd.1), .int .i64 ((L.getD j pt0).hd.2.1), .int .u32 ((L.getD j pt0).hd.2.2.1), .bool (decide ((L.getD j pt0).hd.2.2.2 = true)), .slice a' m' c', .int .u32 ((L.getD j pt0).ck)]] w9 (fun e w' => (e = .returned (.bool true) ∧ (Upd Sb w9 w' ∧ J (j + 1) w')) ∨ (e = .returned (.bool false) ∧ (Upd Sb w9 w' ∧ Jx w')))) :
  Calls Tryd.prog 37 #[.func (.yield ly) #[] #[], .pointer (some ⟨Bl, 0, none⟩)] w (Ret fun v w' => J L.length w' ∨ Jx w') := by
 have HU := Upd.rno w
 have HR : Upd (fun g => w.heap.size ≤ g) w w := Upd.refl _ _
 have hbl_0 := hBl.lt
 have hln := hT.len
 refine calls_of_W func37 rfl ntmps37 (by simp) ?_
 obtain ⟨vs1, hv1, hS1, hP1⟩ := hT
 have hl_hS1 := rlen encP_len (by decide) hS1
 have hc_hS1 := hS1.cap.1
 have hlm1 : L.length = n := by rw [← hv1, List.length_map]; exact hl_hS1
 refine W_scope ?_
 refine W_seq ?_
 refine W_label ?_
 refine W_seq (W_region ?_)
 refine Wl_load (v := .slice a n c) isAgg57 rfl hBl rfl ?_
 refine Was (.slice a n c) ?_
 refine Wl_nil (W_block ?_)
 have HJ9 := hJS _ _ _ hJ0 HR
 refine W_loop (fun mu ρ ds w' => ∃ (j : Nat) (ar : Option Addr) (cr : Nat), n - j = mu ∧ ds = [] ∧ Liv ρ [(0, .func (.yield ly) #[] #[]), (1, .pointer (some ⟨Bl, 0, none⟩)), (3, .slice ar (n - j) cr)] ∧ j ≤ n ∧ Blk w' Bl [.slice a n c] ∧ Sl w' (fun g => (lo ≤ g ∧ g < hi)) 10 (.slice ar (n - j) cr) (n - j) (rows encP (vs1.drop j)) ∧ Pbs w' lo hi hi vs1 ∧ J j w' ∧ w.heap.size ≤ (w').heap.size) _ ⟨0, a, c, rfl, rfl, ⟨rfl, rfl, (by first | rfl | exact vint (by omega) | exact vint (by simp)), trivial⟩, (by omega), hBl, (by exact hS1), hP1, HJ9, (by omega)⟩ ?_
 rintro m2 ρ2 ds2 w2 ⟨j, ar, cr, rfl, rfl, hl2, hj, hBl, hS1, hP1, hJ0, hzw⟩
 obtain ⟨ρ2x, rfl⟩ : ∃ ρx, ρ2 = upds ρx [(0, .func (.yield ly) #[] #[]), (1, .pointer (some ⟨Bl, 0, none⟩)), (3, .slice ar (n - j) cr)] := ⟨_, upds_self hl2⟩
 clear hl2
 have HR : Upd (fun g => w.heap.size ≤ g) w2 w2 := Upd.refl _ _
 have hbj := hbn j
 have hl_hS1 := rlen encP_len (by decide) hS1
 have hc_hS1 := hS1.cap.1
 have hbl_hBl := hBl.lt
 refine W_seq (W_seq (W_region ?_))
 refine Wmv (.slice ar (n - j) cr) ?_
 refine Wl_v (r_len underlying57 rfl) ?_
 refine Wl_v (r_gt rfl rfl) ?_
 refine Wl_nil ?_
 by_cases q1 : 0 < ((n - j : Nat) : Int)
 ·rw [decide_eq_true q1]
  refine W_cond_t rfl ?_
  refine W_skip (W_seq (W_block (W_seq (W_region ?_))))
  refine Wmv (.slice ar (n - j) cr) ?_
  refine Wl_idxr pv0 encP_len (by decide) underlying57 sizeOf45 rfl rfl hS1 (by omega) (by omega) ?_
  intro ib3 io3 hc3
  rw [show (0 : Int).toNat = 0 from rfl] at hc3
  obtain ⟨ba, bm, bc, hbe⟩ := gd_part (i := j) hv1
  rw [gdp_drop, hbe] at hc3
  have hBk := hPget hP1 hbe (by omega)
  have hl_hBk := rlen encK_len (by decide) hBk
  have hc_hBk := hBk.cap.1
  refine Wl_v (r_loada (cs := [.int .i64 ((L.getD j pt0).at_), .int .i64 ((L.getD j pt0).sz), .bool (decide ((L.getD j pt0).sk = true)), .int .i64 ((L.getD j pt0).pl), .int .i64 ((L.getD j pt0).hd.1), .int .i64 ((L.getD j pt0).hd.2.1), .int .u32 ((L.getD j pt0).hd.2.2.1), .bool (decide ((L.getD j pt0).hd.2.2.2 = true)), .slice ba bm bc, .int .u32 ((L.getD j pt0).ck)]) isAgg45 sizeOf45 rfl rfl hc3) ?_
  refine Wl_alloc (cs := [.int .i64 0, .int .i64 0, .bool false, .int .i64 0, .int .i64 0, .int .i64 0, .int .u32 0, .bool false, .slice none 0 0, .int .u32 0]) zeroValue45 rfl ?_
  intro B4 w4 hB4 hU4 hzz4 hb4
  have hzw4 := hU4.size
  replace hBl := hBl.upd0 hU4
  replace hS1 := hS1.upd0 hU4
  replace hP1 := hP1.upd0 hU4
  replace HR := HR.trans0 hU4
  replace hBk := hBk.upd0 hU4
  refine Wl_storea (off := 0) (vs := [.int .i64 ((L.getD j pt0).at_), .int .i64 ((L.getD j pt0).sz), .bool (decide ((L.getD j pt0).sk = true)), .int .i64 ((L.getD j pt0).pl), .int .i64 ((L.getD j pt0).hd.1), .int .i64 ((L.getD j pt0).hd.2.1), .int .u32 ((L.getD j pt0).hd.2.2.1), .bool (decide ((L.getD j pt0).hd.2.2.2 = true)), .slice ba bm bc, .int .u32 ((L.getD j pt0).ck)]) (cs' := [.int .i64 ((L.getD j pt0).at_), .int .i64 ((L.getD j pt0).sz), .bool (decide ((L.getD j pt0).sk = true)), .int .i64 ((L.getD j pt0).pl), .int .i64 ((L.getD j pt0).hd.1), .int .i64 ((L.getD j pt0).hd.2.1), .int .u32 ((L.getD j pt0).hd.2.2.1), .bool (decide ((L.getD j pt0).hd.2.2.2 = true)), .slice ba bm bc, .int .u32 ((L.getD j pt0).ck)]) sizeOf45 rfl rfl rfl (by simp only [List.mem_cons, List.not_mem_nil, or_false, forall_eq_or_imp, forall_eq]; exact ⟨rfl, rfl, rfl, rfl, rfl, rfl, rfl, rfl, rfl, rfl⟩) hb4 (by simp) rfl ?_
  intro w5 hU5 hzz5 hb4n
  replace hb4 := hb4n; clear hb4n
  have hzw5 := hU5.size
  replace hBl := hBl.upd1 hU5 (by omega)
  replace hS1 := hS1.upd1 hU5 (show ¬ ((lo ≤ B4 ∧ B4 < hi)) by omega)
  replace hP1 := hP1.upd1 hU5 (by omega)
  replace HR := HR.trans1 hU5 (by show (w.heap.size ≤ B4) ∨ w2.heap.size ≤ B4; omega)
  replace hBk := hBk.upd1 hU5 (show ¬ ((lo ≤ B4 ∧ B4 < hi ∧ B4 ≠ hi)) by omega)
  refine Wl_nil (W_seq (W_region ?_))
  refine Wl_v (r_fld underlying45 rfl sizeOf43 rfl rfl) ?_
  refine Wl_load (v := .slice ba bm bc) isAgg43 rfl hb4 rfl ?_
  refine Wl_call (r_call1 rfl call38 rfl) (kclone _ hBk (by omega)) ?_
  rintro v w6 ⟨a6, c6, rfl, hO6, hU6⟩
  have hzw6 := hU6.size
  replace hBl := hBl.upd0 hU6
  replace hS1 := hS1.upd0 hU6
  replace hP1 := hP1.upd0 hU6
  replace HR := HR.trans0 hU6
  replace hb4 := hb4.upd0 hU6
  replace hO6 := hO6.tight
  have hl_hO6 := rlen encK_len (by decide) hO6.sl
  have hc_hO6 := hO6.sl.cap.1
  have hbo := True.intro
  refine Wl_v (r_fld underlying45 rfl sizeOf43 rfl rfl) ?_
  refine Wl_store (v := .slice a6 bm c6) (cs' := [.int .i64 ((L.getD j pt0).at_), .int .i64 ((L.getD j pt0).sz), .bool (decide ((L.getD j pt0).sk = true)), .int .i64 ((L.getD j pt0).pl), .int .i64 ((L.getD j pt0).hd.1), .int .i64 ((L.getD j pt0).hd.2.1), .int .u32 ((L.getD j pt0).hd.2.2.1), .bool (decide ((L.getD j pt0).hd.2.2.2 = true)), .slice a6 bm c6, .int .u32 ((L.getD j pt0).ck)]) sizeOf43 rfl rfl rfl rfl hb4 rfl rfl ?_
  intro w7 hU7 hzz7 hb4n
  replace hb4 := hb4n; clear hb4n
  have hzw7 := hU7.size
  replace hBl := hBl.upd1 hU7 (by omega)
  replace hS1 := hS1.upd1 hU7 (show ¬ ((lo ≤ B4 ∧ B4 < hi)) by omega)
  replace hP1 := hP1.upd1 hU7 (by omega)
  replace HR := HR.trans1 hU7 (by show (w.heap.size ≤ B4) ∨ w2.heap.size ≤ B4; omega)
  replace hO6 := hO6.upd1 hU7 (show ¬ (((w5.heap.size ≤ B4) ∧ B4 < w6.heap.size)) by omega)
  refine Wl_nil (W_seq (W_region ?_))
  refine Wmv (.func (.yield ly) #[] #[]) ?_
  refine Wl_load (v := .slice a n c) isAgg57 rfl hBl rfl ?_
  refine Wl_v (r_len underlying57 rfl) ?_
  refine Wmv (.slice ar (n - j) cr) ?_
  refine Wl_v (r_len underlying57 rfl) ?_
  refine Wl_v (r_sub rfl rfl (wi64 (by omega) (by omega))) ?_
  rw [show (((n : Nat) : Int) - ((n - j : Nat) : Int) : Int) = ((j : Nat) : Int) from by omega]
  refine Wl_v (r_loada (b := B4) (off := 0) (cs := [.int .i64 ((L.getD j pt0).at_), .int .i64 ((L.getD j pt0).sz), .bool (decide ((L.getD j pt0).sk = true)), .int .i64 ((L.getD j pt0).pl), .int .i64 ((L.getD j pt0).hd.1), .int .i64 ((L.getD j pt0).hd.2.1), .int .u32 ((L.getD j pt0).hd.2.2.1), .bool (decide ((L.getD j pt0).hd.2.2.2 = true)), .slice a6 bm c6, .int .u32 ((L.getD j pt0).ck)]) isAgg45 sizeOf45 rfl rfl (fun j hj => by rw [hb4.cell]; match j, hj with | 0, _ => rfl | 1, _ => rfl | 2, _ => rfl | 3, _ => rfl | 4, _ => rfl | 5, _ => rfl | 6, _ => rfl | 7, _ => rfl | 8, _ => rfl | 9, _ => rfl)) ?_
  refine Wl_yield2 rfl rfl rfl (hy j _ (by omega) (hJS _ _ _ hJ0 HR) _ _ _ (hO6.sl.weak (by intro g hg; have h3 : ((w5.heap.size ≤ g) ∧ g < w6.heap.size) := hg; show w.heap.size ≤ g; omega))) ?_ ?_
  ·rintro w8 ⟨hU8, hJn⟩
   have hzy8 := hU8.size
   replace hBl := hBl.upd hU8 hSB
   replace hS1 := hS1.upd hU8 (fun g hg => hSR g hg.1 hg.2)
   replace hP1 := hP1.upd hU8 (fun g hg => by rcases Nat.lt_or_ge g lo with h8 | h8; exact .inl h8; rcases Nat.lt_or_ge g hi with h9 | h9; exact absurd hg (hSR g h8 h9); exact .inr (.inl h9))
   have HR : Upd (fun g => w.heap.size ≤ g) w8 w8 := Upd.refl _ _
   replace hzw : w.heap.size ≤ w8.heap.size := by omega
   replace hJ0 := hJn
   refine Wl_v (r_not (b := true) rfl) ?_
   refine Wl_nil ?_
   refine W_cond_f rfl ?_
   refine W_skip (W_region ?_)
   refine Wmv (.slice ar (n - j) cr) ?_
   refine Wmv (.slice ar (n - j) cr) ?_
   refine Wl_v (r_len underlying57 rfl) ?_
   refine Wmv (.slice ar (n - j) cr) ?_
   refine Wl_v (r_len underlying57 rfl) ?_
   refine Wl_v (r_slicef (l' := 1) (h' := n - j) (q' := n - j) (n' := n - (j + 1)) (c' := n - (j + 1)) underlying57 sizeOf45 rfl rfl rfl rfl (by omega) (by omega) (by omega) (by omega) (by omega) (by omega) (by omega) (by omega)) ?_
   have hT9 : Sl w8 (fun g => (lo ≤ g ∧ g < hi)) 10 (.slice (if n - j = 1 then ar else ar.map (·.add (1 * 10))) (n - (j + 1)) (n - (j + 1))) (n - (j + 1)) (rows encP (vs1.drop (j + 1))) := by
    have h9 := Sl.cutr encP_len hS1 (by omega)
    rw [drop_one, show n - j - 1 = n - (j + 1) from by omega] at h9
    exact h9
   refine Was (.slice (if n - j = 1 then ar else ar.map (·.add (1 * 10))) (n - (j + 1)) (n - (j + 1))) ?_
   refine Wl_nil ?_
   refine ⟨_, ?_, (j + 1), (if n - j = 1 then ar else ar.map (·.add (1 * 10))), (n - (j + 1)), rfl, rfl, ⟨rfl, rfl, (by first | rfl | exact vint (by omega) | exact vint (by simp)), trivial⟩, (by omega), hBl, hT9, hP1, hJ0, (by omega)⟩
   omega
  rintro w10 ⟨hU10, hJx⟩
  have hzy10 := hU10.size
  have HR : Upd (fun g => w.heap.size ≤ g) w10 w10 := Upd.refl _ _
  replace hzw : w.heap.size ≤ w10.heap.size := by omega
  refine Wl_v (r_not (b := false) rfl) ?_
  refine Wl_nil ?_
  refine W_cond_t rfl ?_
  refine W_exit ?_
  refine nrm_end (v := .tuple #[]) rfl (res0 results37) ?_
  exact ⟨_, rfl, Or.inr (hJX _ _ hJx HR)⟩
 rw [decide_eq_false q1]
 refine W_cond_f rfl ?_
 refine W_exit ?_
 refine nrm_end (v := .tuple #[]) rfl (res0 results37) ?_
 obtain rfl : j = L.length := by omega
 exact ⟨_, rfl, Or.inl (hJS _ _ _ hJ0 HR)⟩
set_option maxHeartbeats 8000000 in
theorem showeach {a : Option Addr} {n c : Nat} {bs : List Int} {g0 : Nat} {many : Int} (w : World) (ht : Tab w g0) (hs : Sl w (fun g => g < w.heap.size) 1 (.slice a n c) n (ints .u8 bs)) (hb : Byt bs) (hm9 : n ≤ 140737488351232) (rmany : -9223372036854775808 ≤ many ∧ many ≤ 9223372036854775807) :
  Calls Tryd.prog 9 #[.slice a n c, .int .i64 many] w (Ret fun v w' => v = .bool true ∧ Upd No w w') := by
 have HU := Upd.rno w
 have hl_hs := ilen hs
 have hc_hs := hs.cap.1
 have htl := ht.1
 refine calls_of_W func9 rfl ntmps9 (by simp) ?_
 refine W_seq (W_region ?_)
 refine Wl_box (v := .int .i64 many) (cs := [.int .i64 many]) rfl rfl ?_
 intro B1 w1 hB1 hU1 hzz1 hb1
 have hzw1 := hU1.size
 replace ht := ht.upd0 hU1
 replace hs := hs.upd0 hU1
 replace HU := HU.trans0 hU1
 refine Wl_alloc (cs := [.bool false]) zeroValue4 rfl ?_
 intro B2 w2 hB2 hU2 hzz2 hb2
 have hzw2 := hU2.size
 replace ht := ht.upd0 hU2
 replace hs := hs.upd0 hU2
 replace HU := HU.trans0 hU2
 replace hb1 := hb1.upd0 hU2
 refine Wl_nil (W_seq (W_seq (W_region ?_)))
 refine Wmv (.slice a n c) ?_
 refine Wl_v (r_len underlying22 rfl) ?_
 refine Wl_v (r_gt rfl rfl) ?_
 refine Wl_nil ?_
 by_cases q1 : 600 < ((n : Nat) : Int)
 ·rw [decide_eq_true q1]
  refine W_cond_t rfl ?_
  refine W_seq (W_region ?_)
  refine Wl_call (r_call0 rfl call10 ) (works44 _ ht) ?_
  rintro v w3 ⟨rfl, hU3⟩
  have hzw3 := hU3.size
  replace HU := HU.trans0 hU3
  replace hb2 := hb2.upd0 hU3
  refine Wl_store (v := .bool true) (cs' := [.bool true]) sizeOf4 rfl rfl rfl rfl hb2 rfl rfl ?_
  intro w4 hU4 hzz4 hb2n
  replace hb2 := hb2n; clear hb2n
  have hzw4 := hU4.size
  replace HU := HU.t1 hU4 (by omega)
  refine Wl_nil ?_
  refine W_ret ?_
  refine ret_end (v := .bool true) rfl (rc1 results9 rfl (cellIs isAgg4 hb2)) ?_
  exact ⟨_, rfl, rfl, HU⟩
 rw [decide_eq_false q1]
 refine W_cond_f rfl ?_
 refine W_skip (W_seq (W_region ?_))
 refine Wl_lit0 underlying22 sizeOf5 ?_
 intro B5 w5 hB5 hU5 hzz5 hs5
 have hzw5 := hU5.size
 replace ht := ht.upd0 hU5
 replace hs := hs.upd0 hU5
 replace HU := HU.trans0 hU5
 replace hb1 := hb1.upd0 hU5
 replace hb2 := hb2.upd0 hU5
 refine Wmv (.slice a n c) ?_
 refine Wl_appendi (xs := []) (ys := bs) (zs := bs) (k' := .u8) (tot := n) (by first | rfl | exact (rows_app _ _).symm | simp) underlying22 (ti := Tryd.t5) (z := .int .u8 0) (sz := 1) (by' := 1) rfl rfl rfl rfl rfl (by decide) rfl hs5 rfl hs  (by omega) (by simp only [maxLen]; omega) (by omega) ?_
 intro a6 c6 w6 hU6 hzz6 hO6
 clear hs5
 have hzw6 := hU6.size
 replace ht := ht.upd hU6 (by intro x hx; have hx2 : x = B5 := hx; omega)
 replace hs := hs.upd hU6 (by intro x h1 h2; have h3 : x < w.heap.size := h1; have h4 : x = B5 := h2; omega)
 replace HU := HU.trans hU6 (by intro x hx; have hx2 : x = B5 := hx; show (False) ∨ w.heap.size ≤ x; omega)
 replace hb1 := hb1.upd hU6 (by intro hx; have hx2 : B1 = B5 := hx; omega)
 replace hb2 := hb2.upd hU6 (by intro hx; have hx2 : B2 = B5 := hx; omega)
 replace hO6 := hO6.tight
 have hl_hO6 := ilen hO6.sl
 have hc_hO6 := hO6.sl.cap.1
 refine Was (.slice a6 n c6) ?_
 refine Wl_nil (W_seq (W_region ?_))
 refine Wmv (.slice a n c) ?_
 refine Wl_call (r_call1 rfl call12 rfl) (rread_spec _ hs.any hb (by omega)) ?_
 rintro v w7 ⟨a7, m7, c7, rfl, hT7, hU7⟩
 have hzw7 := hU7.size
 replace ht := ht.upd0 hU7
 replace HU := HU.trans0 hU7
 replace hb1 := hb1.upd0 hU7
 replace hb2 := hb2.upd0 hU7
 replace hO6 := hO6.upd0 hU7
 obtain ⟨vs8, hv8, hS8, hP8⟩ := hT7
 have hl_hS8 := rlen encP_len (by decide) hS8
 have hc_hS8 := hS8.cap.1
 have hlm8 : (ga bs 0).1.length = m7 := by rw [← hv8, List.length_map]; exact hl_hS8
 have hgn := ga_len hb (by omega)
 refine Wmv (.tuple #[.slice a7 m7 c7, .int .i64 ((ga bs 0).2)]) ?_
 refine Wl_v (r_ext (v := .slice a7 m7 c7) rfl rfl) ?_
 refine Wl_v (r_ext (v := .int .i64 ((ga bs 0).2)) rfl rfl) ?_
 refine Wl_alloc (cs := [.slice none 0 0]) zeroValue29 rfl ?_
 intro B9 w9 hB9 hU9 hzz9 hb9
 have hzw9 := hU9.size
 replace ht := ht.upd0 hU9
 replace HU := HU.trans0 hU9
 replace hb1 := hb1.upd0 hU9
 replace hb2 := hb2.upd0 hU9
 replace hO6 := hO6.upd0 hU9
 replace hS8 := hS8.upd0 hU9
 replace hP8 := hP8.upd0 hU9
 refine Wl_store (v := .slice a7 m7 c7) (cs' := [.slice a7 m7 c7]) sizeOf29 rfl rfl rfl rfl hb9 rfl rfl ?_
 intro w10 hU10 hzz10 hb9n
 replace hb9 := hb9n; clear hb9n
 have hzw10 := hU10.size
 replace ht := ht.upd1 hU10 (by omega)
 replace HU := HU.t1 hU10 (by omega)
 replace hb1 := hb1.upd1 hU10 (by omega)
 replace hb2 := hb2.upd1 hU10 (by omega)
 replace hO6 := hO6.upd1 hU10 (by intro h1; have h3 : ((((B9 = B5) ∨ B9 = w5.heap.size)) ∧ B9 < w6.heap.size) := h1; omega)
 replace hS8 := hS8.upd1 hU10 (show ¬ ((w6.heap.size ≤ B9 ∧ B9 < w7.heap.size)) by omega)
 replace hP8 := hP8.upd1 hU10 (by omega)
 refine Was (.int .i64 ((ga bs 0).2)) ?_
 refine Wl_nil (W_seq (W_region ?_))
 refine Wmv (.slice a6 n c6) ?_
 refine Wl_call (r_call1 rfl call22 rfl) (each_spec _ hO6.sl.any hb (by omega)) ?_
 rintro v w11 ⟨Bl11, G11, a11, m11, c11, rfl, hBl11, hT11, hb1_11, hU11⟩
 have hzw11 := hU11.size
 replace ht := ht.upd0 hU11
 replace HU := HU.trans0 hU11
 replace hb1 := hb1.upd0 hU11
 replace hb2 := hb2.upd0 hU11
 replace hO6 := hO6.upd0 hU11
 replace hS8 := hS8.upd0 hU11
 replace hP8 := hP8.upd0 hU11
 replace hb9 := hb9.upd0 hU11
 have hbl_hBl11 := hBl11.lt
 refine Was (.func (.func 37) #[] #[.pointer (some ⟨Bl11, 0, none⟩)]) ?_
 refine Wl_nil (W_seq (W_seq (W_region ?_)))
 refine Wmv (.func (.func 37) #[] #[.pointer (some ⟨Bl11, 0, none⟩)]) ?_
 refine Wl_v (r_eqfn_s underlying66 rfl rfl) ?_
 refine Wl_nil ?_
 refine W_cond_f rfl ?_
 refine W_skip (W_seq (W_seq (W_region ?_)))
 refine Was (.int .i64 0) ?_
 refine Wl_nil (W_block ?_)
 refine W_loop (fun mu ρ ds w' => ∃ (k : Nat) (ys : List Int), n - k = mu ∧ ds = [] ∧ Liv ρ [(3, .pointer (some ⟨B1, 0, none⟩)), (4, .pointer (some ⟨B2, 0, none⟩)), (5, .slice a6 n c6), (6, .pointer (some ⟨B9, 0, none⟩)), (8, .func (.func 37) #[] #[.pointer (some ⟨Bl11, 0, none⟩)]), (9, .int .i64 ((k : Nat) : Int))] ∧ k ≤ n ∧ Own w' (fun g => ((((g = B5) ∨ g = w5.heap.size)) ∧ g < w6.heap.size)) 5 1 (.slice a6 n c6) n (ints .u8 ys) ∧ Upd (fun g => ((((g = B5) ∨ g = w5.heap.size)) ∧ g < w6.heap.size)) w11 w') _ ⟨0, bs, rfl, rfl, ⟨rfl, rfl, rfl, rfl, rfl, (by first | rfl | exact vint (by omega) | exact vint (by simp)), trivial⟩, (by omega), hO6, Upd.refl _ _⟩ ?_
 rintro m12 ρ12 ds12 w12 ⟨k, ys, rfl, rfl, hl12, hk, hO6, hU12⟩
 obtain ⟨ρ12x, rfl⟩ : ∃ ρx, ρ12 = upds ρx [(3, .pointer (some ⟨B1, 0, none⟩)), (4, .pointer (some ⟨B2, 0, none⟩)), (5, .slice a6 n c6), (6, .pointer (some ⟨B9, 0, none⟩)), (8, .func (.func 37) #[] #[.pointer (some ⟨Bl11, 0, none⟩)]), (9, .int .i64 ((k : Nat) : Int))] := ⟨_, upds_self hl12⟩
 clear hl12
 have hzw12 := hU12.size
 replace ht := ht.upd hU12 (by intro x hx; have hx2 : ((((x = B5) ∨ x = w5.heap.size)) ∧ x < w6.heap.size) := hx; omega)
 replace HU := HU.trans hU12 (by intro x hx; have hx2 : ((((x = B5) ∨ x = w5.heap.size)) ∧ x < w6.heap.size) := hx; show (False) ∨ w.heap.size ≤ x; omega)
 replace hb1 := hb1.upd hU12 (by intro hx; have hx2 : ((((B1 = B5) ∨ B1 = w5.heap.size)) ∧ B1 < w6.heap.size) := hx; omega)
 replace hb2 := hb2.upd hU12 (by intro hx; have hx2 : ((((B2 = B5) ∨ B2 = w5.heap.size)) ∧ B2 < w6.heap.size) := hx; omega)
 replace hS8 := hS8.upd hU12 (by intro x h1 h2; have h3 : (w6.heap.size ≤ x ∧ x < w7.heap.size) := h1; have h4 : ((((x = B5) ∨ x = w5.heap.size)) ∧ x < w6.heap.size) := h2; omega)
 replace hP8 := hP8.upd hU12 (by intro x hx; have hx2 : ((((x = B5) ∨ x = w5.heap.size)) ∧ x < w6.heap.size) := hx; omega)
 replace hb9 := hb9.upd hU12 (by intro hx; have hx2 : ((((B9 = B5) ∨ B9 = w5.heap.size)) ∧ B9 < w6.heap.size) := hx; omega)
 replace hBl11 := hBl11.upd hU12 (by intro hx; have hx2 : ((((Bl11 = B5) ∨ Bl11 = w5.heap.size)) ∧ Bl11 < w6.heap.size) := hx; omega)
 replace hT11 := hT11.upd hU12 (by intro x hx; have hx2 : ((((x = B5) ∨ x = w5.heap.size)) ∧ x < w6.heap.size) := hx; omega)
 have HL12 := hU12
 refine W_seq (W_seq (W_region ?_))
 refine Wmv (.int .i64 ((k : Nat) : Int)) ?_
 refine Wmv (.slice a6 n c6) ?_
 refine Wl_v (r_len underlying22 rfl) ?_
 refine Wl_v (r_lt rfl rfl) ?_
 refine Wl_nil ?_
 by_cases q2 : ((k : Nat) : Int) < ((n : Nat) : Int)
 ·rw [decide_eq_true q2]
  refine W_cond_t rfl ?_
  refine W_skip (W_seq (W_block (W_region ?_)))
  refine Wmv (.slice a6 n c6) ?_
  refine Wmv (.int .i64 ((k : Nat) : Int)) ?_
  refine Wl_idxi underlying22 sizeOf5 rfl rfl hO6.sl (by omega) (by omega) ?_
  intro ib13 io13 hc13
  rw [Int.toNat_natCast] at hc13
  refine Wl_loadc isAgg5 rfl hc13 ?_
  refine Wl_v (r_add rfl rfl (mu8 _)) ?_
  obtain ⟨g14, rfl, hg14⟩ := hO6.addr (by omega)
  replace hg14 : ((((g14 = B5) ∨ g14 = w5.heap.size)) ∧ g14 < w6.heap.size) := hg14
  refine Wl_idxo (i' := k) underlying22 sizeOf5 rfl rfl hO6 (by omega) (by omega) ?_
  intro hc15
  refine Wl_storeo (i := k) sizeOf5 rfl rfl hO6 (by omega) ?_
  intro w16 hU16 hzz16 hO16
  clear hO6
  have hzw16 := hU16.size
  replace HL12 := HL12.trans1 hU16 (by show (((((g14 = B5) ∨ g14 = w5.heap.size)) ∧ g14 < w6.heap.size)) ∨ w11.heap.size ≤ g14; omega)
  have hl_hO16 := ilen hO16.sl
  have hc_hO16 := hO16.sl.cap.1
  refine Wl_nil (W_region ?_)
  refine Wmv (.int .i64 ((k : Nat) : Int)) ?_
  refine Wl_v (r_add rfl rfl (wi64 (by omega) (by omega))) ?_
  refine Was (.int .i64 (((k : Nat) : Int) + 1)) ?_
  refine Wl_nil ?_
  refine ⟨_, ?_, (k + 1), ys.set k (((ys.getD k 0) + 1) % 256), rfl, rfl, ⟨rfl, rfl, rfl, rfl, rfl, (by first | rfl | exact vint (by omega) | exact vint (by simp)), trivial⟩, (by omega), hO16, HL12⟩
  omega
 rw [decide_eq_false q2]
 refine W_cond_f rfl ?_
 refine W_exit ?_
 refine W_seq (W_seq (W_region ?_))
 refine Wl_alloc (cs := [.int .i64 0]) zeroValue3 rfl ?_
 intro B17 w17 hB17 hU17 hzz17 hb17
 have hzw17 := hU17.size
 replace ht := ht.upd0 hU17
 replace HU := HU.trans0 hU17
 replace hb1 := hb1.upd0 hU17
 replace hb2 := hb2.upd0 hU17
 replace hS8 := hS8.upd0 hU17
 replace hP8 := hP8.upd0 hU17
 replace hb9 := hb9.upd0 hU17
 replace hBl11 := hBl11.upd0 hU17
 replace hT11 := hT11.upd0 hU17
 refine Wl_store (v := .int .i64 0) (cs' := [.int .i64 0]) sizeOf3 rfl rfl rfl rfl hb17 rfl rfl ?_
 intro w18 hU18 hzz18 hb17n
 replace hb17 := hb17n; clear hb17n
 have hzw18 := hU18.size
 replace ht := ht.upd1 hU18 (by omega)
 replace HU := HU.t1 hU18 (by omega)
 replace hb1 := hb1.upd1 hU18 (by omega)
 replace hb2 := hb2.upd1 hU18 (by omega)
 replace hS8 := hS8.upd1 hU18 (show ¬ ((w6.heap.size ≤ B17 ∧ B17 < w7.heap.size)) by omega)
 replace hP8 := hP8.upd1 hU18 (by omega)
 replace hb9 := hb9.upd1 hU18 (by omega)
 replace hBl11 := hBl11.upd1 hU18 (by omega)
 replace hT11 := hT11.upd1 hU18 (by omega)
 refine Wl_nil (W_block ?_)
 refine W_unroll2 ?_
 refine W_seq (W_seq (W_region ?_))
 refine Wl_load (v := .int .i64 0) isAgg3 rfl hb17 rfl ?_
 refine Wl_v (v := .bool true) (r_lt (a := 0) (b := 2) rfl rfl) ?_
 refine Wl_nil ?_
 refine W_cond_t rfl ?_
 refine W_skip (W_seq (W_block (W_seq (W_region ?_))))
 refine Wl_alloc (cs := [.int .i64 0]) zeroValue3 rfl ?_
 intro B19 w19 hB19 hU19 hzz19 hb19
 have hzw19 := hU19.size
 replace ht := ht.upd0 hU19
 replace HU := HU.trans0 hU19
 replace hb1 := hb1.upd0 hU19
 replace hb2 := hb2.upd0 hU19
 replace hS8 := hS8.upd0 hU19
 replace hP8 := hP8.upd0 hU19
 replace hb9 := hb9.upd0 hU19
 replace hBl11 := hBl11.upd0 hU19
 replace hT11 := hT11.upd0 hU19
 replace hb17 := hb17.upd0 hU19
 refine Wl_store (v := .int .i64 0) (cs' := [.int .i64 0]) sizeOf3 rfl rfl rfl rfl hb19 rfl rfl ?_
 intro w20 hU20 hzz20 hb19n
 replace hb19 := hb19n; clear hb19n
 have hzw20 := hU20.size
 replace ht := ht.upd1 hU20 (by omega)
 replace HU := HU.t1 hU20 (by omega)
 replace hb1 := hb1.upd1 hU20 (by omega)
 replace hb2 := hb2.upd1 hU20 (by omega)
 replace hS8 := hS8.upd1 hU20 (show ¬ ((w6.heap.size ≤ B19 ∧ B19 < w7.heap.size)) by omega)
 replace hP8 := hP8.upd1 hU20 (by omega)
 replace hb9 := hb9.upd1 hU20 (by omega)
 replace hBl11 := hBl11.upd1 hU20 (by omega)
 replace hT11 := hT11.upd1 hU20 (by omega)
 replace hb17 := hb17.upd1 hU20 (by omega)
 refine Wl_nil (W_seq (W_seq (W_region ?_)))
 refine Wmv (.func (.func 37) #[] #[.pointer (some ⟨Bl11, 0, none⟩)]) ?_
 refine Wl_nil (W_block ?_)
 refine W_range (gf := 37) (ar := fun y => #[y, .pointer (some ⟨Bl11, 0, none⟩)]) rfl call37 (fun y => by simp) ?_
 intro D21 fn21 w21 hD21 hU21 hzz21 hdf21 hrc210
 have hzw21 := hU21.size
 replace ht := ht.upd0 hU21
 replace HU := HU.trans0 hU21
 replace hb1 := hb1.upd0 hU21
 replace hb2 := hb2.upd0 hU21
 replace hS8 := hS8.upd0 hU21
 replace hP8 := hP8.upd0 hU21
 replace hb9 := hb9.upd0 hU21
 replace hBl11 := hBl11.upd0 hU21
 replace hT11 := hT11.upd0 hU21
 replace hb17 := hb17.upd0 hU21
 replace hb19 := hb19.upd0 hU21
 obtain ⟨r21, hr21, hrc21⟩ : ∃ r, r = _ ∧ Rec w21 (D21 + 1) r := ⟨_, rfl, hrc210⟩
 clear hrc210
 obtain ⟨J21, hJ21⟩ : ∃ J : Nat → World → Prop, ∀ i w', J i w' ↔ (Rec w' (D21 + 1) r21 ∧ Dfr w' D21 ∧ Blk w' B19 [.int .i64 ((i : Nat) : Int)] ∧ Tab w' g0 ∧ Blk w' B1 [.int .i64 many] ∧ Blk w' B2 [.bool false] ∧ Sl w' (fun g => (w6.heap.size ≤ g ∧ g < w7.heap.size)) 10 (.slice a7 m7 c7) m7 (rows encP vs8) ∧ Pbs w' w6.heap.size w7.heap.size w7.heap.size vs8 ∧ Blk w' B9 [.slice a7 m7 c7] ∧ Blk w' Bl11 [.slice a11 m11 c11] ∧ Pts w' w10.heap.size G11 a11 m11 c11 ((ga bs 0).1) ∧ Blk w' B17 [.int .i64 0] ∧ Upd No w w' ∧ (i = 0 ∨ ((i : Nat) : Int) < many)) := ⟨_, fun _ _ => Iff.rfl⟩
 obtain ⟨Jx21, hJx21⟩ : ∃ Jx : World → Prop, ∀ w', Jx w' ↔ ((∃ ij : Nat, Rec w' (D21 + 1) { r21 with state := .done, pending := some (.exit 4) } ∧ Dfr w' D21 ∧ Blk w' B19 [.int .i64 (((ij : Nat) : Int) + 1)] ∧ Tab w' g0 ∧ Blk w' B1 [.int .i64 many] ∧ Blk w' B2 [.bool false] ∧ Sl w' (fun g => (w6.heap.size ≤ g ∧ g < w7.heap.size)) 10 (.slice a7 m7 c7) m7 (rows encP vs8) ∧ Pbs w' w6.heap.size w7.heap.size w7.heap.size vs8 ∧ Blk w' B9 [.slice a7 m7 c7] ∧ Blk w' Bl11 [.slice a11 m11 c11] ∧ Pts w' w10.heap.size G11 a11 m11 c11 ((ga bs 0).1) ∧ Blk w' B17 [.int .i64 0] ∧ Upd No w w' ∧ ij < (ga bs 0).1.length ∧ many ≤ ((ij : Nat) : Int) + 1 ∧ (ij = 0 ∨ ((ij : Nat) : Int) < many))) := ⟨_, fun _ => Iff.rfl⟩
 refine (each1_it (ly := (D21 + 1)) (J := J21) (Jx := Jx21) (Sb := (fun g => g = B19 ∨ g = D21 + 1)) w21 hBl11 hT11 (by omega) (by omega) (fun j => (ga_okd hb (by omega) j).1.bn) (by intro g h1 h2 h4; have h5 : g = B19 ∨ g = D21 + 1 := h4; omega) (by intro h4; have h5 : Bl11 = B19 ∨ Bl11 = D21 + 1 := h4; omega) (by intro g h1 h4; have h5 : g = B19 ∨ g = D21 + 1 := h4; omega) ?_ ?_ ?_ ?_).mono ?_
 ·exact (hJ21 _ _).2 ⟨hrc21, hdf21, hb19, ht, hb1, hb2, hS8, hP8, hb9, hBl11, hT11, hb17, HU, (.inl rfl)⟩
 ·intro i wa wb hh hUs
  obtain ⟨hrc21, hdf21, hb19, ht, hb1, hb2, hS8, hP8, hb9, hBl11, hT11, hb17, HU, hpm⟩ := (hJ21 _ _).1 hh
  replace hrc21 := hrc21.upd hUs (by show ¬ (_ ≤ _); omega)
  replace hdf21 := hdf21.upd hUs (by show ¬ (_ ≤ _); omega)
  replace hb19 := hb19.upd hUs (by show ¬ (_ ≤ _); omega)
  replace ht := ht.upd hUs (by intro x hx; have hx2 : w21.heap.size ≤ x := hx; omega)
  replace hb1 := hb1.upd hUs (by show ¬ (_ ≤ _); omega)
  replace hb2 := hb2.upd hUs (by show ¬ (_ ≤ _); omega)
  replace hS8 := hS8.upd hUs (by intro x h1 h2; have h3 : (w6.heap.size ≤ x ∧ x < w7.heap.size) := h1; have h4 : w21.heap.size ≤ x := h2; omega)
  replace hP8 := hP8.upd hUs (by intro x hx; have hx2 : w21.heap.size ≤ x := hx; omega)
  replace hb9 := hb9.upd hUs (by show ¬ (_ ≤ _); omega)
  replace hBl11 := hBl11.upd hUs (by show ¬ (_ ≤ _); omega)
  replace hT11 := hT11.upd hUs (by intro x hx; have hx2 : w21.heap.size ≤ x := hx; omega)
  replace hb17 := hb17.upd hUs (by show ¬ (_ ≤ _); omega)
  replace HU := HU.trans hUs (by intro x hx; have hx2 : w21.heap.size ≤ x := hx; show (False) ∨ w.heap.size ≤ x; omega)
  exact (hJ21 _ _).2 ⟨hrc21, hdf21, hb19, ht, hb1, hb2, hS8, hP8, hb9, hBl11, hT11, hb17, HU, hpm⟩
 ·intro wa wb hh hUs
  have hh2 := (hJx21 _).1 hh
  refine (hJx21 _).2 ?_
  obtain ⟨ij, hrc21, hdf21, hb19, ht, hb1, hb2, hS8, hP8, hb9, hBl11, hT11, hb17, HU, hq0, hq1, hq2⟩ := hh2
  replace hrc21 := hrc21.upd hUs (by show ¬ (_ ≤ _); omega)
  replace hdf21 := hdf21.upd hUs (by show ¬ (_ ≤ _); omega)
  replace hb19 := hb19.upd hUs (by show ¬ (_ ≤ _); omega)
  replace ht := ht.upd hUs (by intro x hx; have hx2 : w21.heap.size ≤ x := hx; omega)
  replace hb1 := hb1.upd hUs (by show ¬ (_ ≤ _); omega)
  replace hb2 := hb2.upd hUs (by show ¬ (_ ≤ _); omega)
  replace hS8 := hS8.upd hUs (by intro x h1 h2; have h3 : (w6.heap.size ≤ x ∧ x < w7.heap.size) := h1; have h4 : w21.heap.size ≤ x := h2; omega)
  replace hP8 := hP8.upd hUs (by intro x hx; have hx2 : w21.heap.size ≤ x := hx; omega)
  replace hb9 := hb9.upd hUs (by show ¬ (_ ≤ _); omega)
  replace hBl11 := hBl11.upd hUs (by show ¬ (_ ≤ _); omega)
  replace hT11 := hT11.upd hUs (by intro x hx; have hx2 : w21.heap.size ≤ x := hx; omega)
  replace hb17 := hb17.upd hUs (by show ¬ (_ ≤ _); omega)
  replace HU := HU.trans hUs (by intro x hx; have hx2 : w21.heap.size ≤ x := hx; show (False) ∨ w.heap.size ≤ x; omega)
  exact ⟨ij, hrc21, hdf21, hb19, ht, hb1, hb2, hS8, hP8, hb9, hBl11, hT11, hb17, HU, hq0, hq1, hq2⟩
 ·intro i22 w22 hi22 hh
  obtain ⟨hrc21, hdf21, hb19, ht, hb1, hb2, hS8, hP8, hb9, hBl11, hT11, hb17, HU, hpm⟩ := (hJ21 _ _).1 hh
  have hrl21 := hrc21.lt
  intro ax mx cx hsx
  replace hsx := hsx.tight
  have hl_hsx := rlen encK_len (by decide) hsx
  have hc_hsx := hsx.cap.1
  have hokx := (ga_okd hb (by omega) i22).1.bn
  have HB21 : Upd (fun g => g = B19 ∨ g = D21 + 1) w22 w22 := Upd.refl _ _
  refine yieldC_of_W (R := fun b c w' => (b = true ∧ Upd (fun g => g = B19 ∨ g = D21 + 1) w22 w' ∧ J21 (i22 + 1) w') ∨ (b = false ∧ Upd (fun g => g = B19 ∨ g = D21 + 1) w22 w' ∧ Jx21 w')) hrc21 (by rw [hr21]; rfl) (by rw [hr21]; exact zip2 _ _ _ _ _ _) ?_ ?_
  ·rw [hr21]
   refine W_seq (W_region ?_)
   refine Was (.int .i64 ((i22 : Nat) : Int)) ?_
   refine Wl_nil (W_region ?_)
   refine Wl_alloc (cs := [.int .i64 0, .int .i64 0, .bool false, .int .i64 0, .int .i64 0, .int .i64 0, .int .u32 0, .bool false, .slice none 0 0, .int .u32 0]) zeroValue45 rfl ?_
   intro B23 w23 hB23 hU23 hzz23 hb23
   have hzw23 := hU23.size
   replace hrc21 := hrc21.upd0 hU23
   replace hdf21 := hdf21.upd0 hU23
   replace hb19 := hb19.upd0 hU23
   replace ht := ht.upd0 hU23
   replace hb1 := hb1.upd0 hU23
   replace hb2 := hb2.upd0 hU23
   replace hS8 := hS8.upd0 hU23
   replace hP8 := hP8.upd0 hU23
   replace hb9 := hb9.upd0 hU23
   replace hBl11 := hBl11.upd0 hU23
   replace hT11 := hT11.upd0 hU23
   replace hb17 := hb17.upd0 hU23
   replace HU := HU.trans0 hU23
   replace hsx := hsx.upd0 hU23
   replace HB21 := HB21.trans0 hU23
   refine Wl_storea (off := 0) (vs := [.int .i64 (((ga bs 0).1.getD i22 pt0).at_), .int .i64 (((ga bs 0).1.getD i22 pt0).sz), .bool (decide (((ga bs 0).1.getD i22 pt0).sk = true)), .int .i64 (((ga bs 0).1.getD i22 pt0).pl), .int .i64 (((ga bs 0).1.getD i22 pt0).hd.1), .int .i64 (((ga bs 0).1.getD i22 pt0).hd.2.1), .int .u32 (((ga bs 0).1.getD i22 pt0).hd.2.2.1), .bool (decide (((ga bs 0).1.getD i22 pt0).hd.2.2.2 = true)), .slice ax mx cx, .int .u32 (((ga bs 0).1.getD i22 pt0).ck)]) (cs' := [.int .i64 (((ga bs 0).1.getD i22 pt0).at_), .int .i64 (((ga bs 0).1.getD i22 pt0).sz), .bool (decide (((ga bs 0).1.getD i22 pt0).sk = true)), .int .i64 (((ga bs 0).1.getD i22 pt0).pl), .int .i64 (((ga bs 0).1.getD i22 pt0).hd.1), .int .i64 (((ga bs 0).1.getD i22 pt0).hd.2.1), .int .u32 (((ga bs 0).1.getD i22 pt0).hd.2.2.1), .bool (decide (((ga bs 0).1.getD i22 pt0).hd.2.2.2 = true)), .slice ax mx cx, .int .u32 (((ga bs 0).1.getD i22 pt0).ck)]) sizeOf45 rfl rfl rfl (by simp only [List.mem_cons, List.not_mem_nil, or_false, forall_eq_or_imp, forall_eq]; exact ⟨rfl, rfl, rfl, rfl, rfl, rfl, rfl, rfl, rfl, rfl⟩) hb23 (by simp) rfl ?_
   intro w24 hU24 hzz24 hb23n
   replace hb23 := hb23n; clear hb23n
   have hzw24 := hU24.size
   replace hrc21 := hrc21.upd1 hU24 (by omega)
   replace hdf21 := hdf21.upd1 hU24 (by omega)
   replace hb19 := hb19.upd1 hU24 (by omega)
   replace ht := ht.upd1 hU24 (by omega)
   replace hb1 := hb1.upd1 hU24 (by omega)
   replace hb2 := hb2.upd1 hU24 (by omega)
   replace hS8 := hS8.upd1 hU24 (show ¬ ((w6.heap.size ≤ B23 ∧ B23 < w7.heap.size)) by omega)
   replace hP8 := hP8.upd1 hU24 (by omega)
   replace hb9 := hb9.upd1 hU24 (by omega)
   replace hBl11 := hBl11.upd1 hU24 (by omega)
   replace hT11 := hT11.upd1 hU24 (by omega)
   replace hb17 := hb17.upd1 hU24 (by omega)
   replace HU := HU.t1 hU24 (by omega)
   replace hsx := hsx.upd1 hU24 (show ¬ (((w21.heap.size ≤ B23) ∧ B23 < w22.heap.size)) by omega)
   replace HB21 := HB21.trans1 hU24 (by show (B23 = B19 ∨ B23 = D21 + 1) ∨ w22.heap.size ≤ B23; omega)
   refine Wl_nil ?_
   refine ⟨rfl, _, hrc21, (by rw [hr21]), ?_⟩
   intro w25 hU25 hzz25 hrc21b
   have hzw25 := hU25.size
   replace hdf21 := hdf21.upd1 hU25 (by omega)
   replace hb19 := hb19.upd1 hU25 (by omega)
   replace ht := ht.upd1 hU25 (by omega)
   replace hb1 := hb1.upd1 hU25 (by omega)
   replace hb2 := hb2.upd1 hU25 (by omega)
   replace hS8 := hS8.upd1 hU25 (show ¬ ((w6.heap.size ≤ (D21 + 1) ∧ (D21 + 1) < w7.heap.size)) by omega)
   replace hP8 := hP8.upd1 hU25 (by omega)
   replace hb9 := hb9.upd1 hU25 (by omega)
   replace hBl11 := hBl11.upd1 hU25 (by omega)
   replace hT11 := hT11.upd1 hU25 (by omega)
   replace hb17 := hb17.upd1 hU25 (by omega)
   replace HU := HU.trans1 hU25 (by show (False) ∨ w.heap.size ≤ (D21 + 1); omega)
   replace hsx := hsx.upd1 hU25 (show ¬ (((w21.heap.size ≤ (D21 + 1)) ∧ (D21 + 1) < w22.heap.size)) by omega)
   replace HB21 := HB21.trans1 hU25 (by show ((D21 + 1) = B19 ∨ (D21 + 1) = D21 + 1) ∨ w22.heap.size ≤ (D21 + 1); omega)
   replace hb23 := hb23.upd1 hU25 (by omega)
   clear hrc21
   have hrc21 := hrc21b
   clear hrc21b
   refine W_block (W_seq (W_seq ?_))
   refine W_drawt rfl (l0 := tf 0 18) (by kernel_rfl) ?_
   refine Tk 0 (tf 1 18) rfl (YI_v (v := .int .i64 ((i22 : Nat) : Int)) rfl (fun w' hw' => r_mv (v := .int .i64 ((i22 : Nat) : Int)) rfl)) ?_
   refine Tk 1 (tf 2 18) rfl (YI_v (v := .int .i64 ((i22 : Nat) : Int)) rfl (fun w' hw' => r_load isAgg3 rfl (by rw [(hb19.upd0 hw').cell]; rfl))) ?_
   refine Tk 2 (tf 3 18) rfl (YI_v (v := .bool (decide (((i22 : Nat) : Int) ≠ ((i22 : Nat) : Int)))) rfl (fun w' hw' => r_ne rfl rfl)) ?_
   refine Tk 3 (tf 4 18) rfl (YI_v (v := .bool (decide (((i22 : Nat) : Int) ≠ ((i22 : Nat) : Int)))) rfl (fun w' hw' => r_mv (v := .bool (decide (((i22 : Nat) : Int) ≠ ((i22 : Nat) : Int)))) rfl)) ?_
   have q3 : ¬ (((i22 : Nat) : Int) ≠ ((i22 : Nat) : Int)) := (by omega)
   rw [decide_eq_false q3]
   refine Tk 4 (tf 5 18) rfl (YI_v (v := .int .i64 ((i22 : Nat) : Int)) rfl (fun w' hw' => r_load isAgg3 rfl (by rw [(hb19.upd0 hw').cell]; rfl))) ?_
   refine Tk 5 (tf 6 18) rfl (YI_v (v := .slice a7 m7 c7) rfl (fun w' hw' => r_load isAgg29 rfl (by rw [(hb9.upd0 hw').cell]; rfl))) ?_
   refine Tk 6 (tf 7 18) rfl (YI_v (v := .int .i64 ((m7 : Nat) : Int)) rfl (fun w' hw' => r_len underlying29 rfl)) ?_
   refine Tk 7 (tf 8 18) rfl (YI_v (v := .bool (decide (((m7 : Nat) : Int) ≤ ((i22 : Nat) : Int)))) rfl (fun w' hw' => r_ge rfl rfl)) ?_
   refine Tk 8 (tf 9 18) rfl (YI_v rfl (fun w' hw' => r_pick_f (v := .bool (decide (((m7 : Nat) : Int) ≤ ((i22 : Nat) : Int)))) rfl rfl)) ?_
   refine Tk 9 (tf 10 18) rfl (YI_v (v := .bool (decide (((m7 : Nat) : Int) ≤ ((i22 : Nat) : Int)))) rfl (fun w' hw' => r_mv (v := .bool (decide (((m7 : Nat) : Int) ≤ ((i22 : Nat) : Int)))) rfl)) ?_
   have q4 : ¬ (((m7 : Nat) : Int) ≤ ((i22 : Nat) : Int)) := (by omega)
   rw [decide_eq_false q4]
   refine Tk 10 (tf 11 18) rfl (YI_v (v := .agg #[.int .i64 (((ga bs 0).1.getD i22 pt0).at_), .int .i64 (((ga bs 0).1.getD i22 pt0).sz), .bool (decide (((ga bs 0).1.getD i22 pt0).sk = true)), .int .i64 (((ga bs 0).1.getD i22 pt0).pl), .int .i64 (((ga bs 0).1.getD i22 pt0).hd.1), .int .i64 (((ga bs 0).1.getD i22 pt0).hd.2.1), .int .u32 (((ga bs 0).1.getD i22 pt0).hd.2.2.1), .bool (decide (((ga bs 0).1.getD i22 pt0).hd.2.2.2 = true)), .slice ax mx cx, .int .u32 (((ga bs 0).1.getD i22 pt0).ck)]) rfl (fun w' hw' => r_loada (b := B23) (off := 0) (cs := [.int .i64 (((ga bs 0).1.getD i22 pt0).at_), .int .i64 (((ga bs 0).1.getD i22 pt0).sz), .bool (decide (((ga bs 0).1.getD i22 pt0).sk = true)), .int .i64 (((ga bs 0).1.getD i22 pt0).pl), .int .i64 (((ga bs 0).1.getD i22 pt0).hd.1), .int .i64 (((ga bs 0).1.getD i22 pt0).hd.2.1), .int .u32 (((ga bs 0).1.getD i22 pt0).hd.2.2.1), .bool (decide (((ga bs 0).1.getD i22 pt0).hd.2.2.2 = true)), .slice ax mx cx, .int .u32 (((ga bs 0).1.getD i22 pt0).ck)]) isAgg45 sizeOf45 rfl rfl (fun j hj => by rw [(hb23.upd0 hw').cell]; match j, hj with | 0, _ => rfl | 1, _ => rfl | 2, _ => rfl | 3, _ => rfl | 4, _ => rfl | 5, _ => rfl | 6, _ => rfl | 7, _ => rfl | 8, _ => rfl | 9, _ => rfl))) ?_
   refine Tk 11 (tf 12 18) rfl (YI_v (v := .slice a7 m7 c7) rfl (fun w' hw' => r_load isAgg29 rfl (by rw [(hb9.upd0 hw').cell]; rfl))) ?_
   refine Tk 12 (tf 13 18) rfl (YI_v (v := .int .i64 ((i22 : Nat) : Int)) rfl (fun w' hw' => r_load isAgg3 rfl (by rw [(hb19.upd0 hw').cell]; rfl))) ?_
   obtain ⟨ib26, io26, ha26, hib26, hc26⟩ := Sl.rat pv0 encP_len (by decide) (hS8) (i := i22) (by omega)
   obtain ⟨ba27, bm27, bc27, hbe27⟩ := gd_part (i := i22) hv8
   rw [hbe27] at hc26
   have hB28 := hPget hP8 hbe27 (by omega)
   have hl_hB28 := rlen encK_len (by decide) hB28
   have hc_hB28 := hB28.cap.1
   have hbq : mx = bm27 := by omega
   subst hbq
   refine Tk 13 (tf 14 18) rfl (YI_v (v := .pointer (some ⟨ib26, io26 + i22 * 10, none⟩)) rfl (fun w' hw' => r_idx (b := ib26) (off := io26) (m := m7) (c := c7) (o' := io26 + i22 * 10) underlying29 sizeOf48 (by rw [← ha26]; rfl) rfl (by omega) (by omega) (by omega))) ?_
   refine Tk 14 (tf 15 18) rfl (YI_v (v := .agg #[.int .i64 (((ga bs 0).1.getD i22 pt0).at_), .int .i64 (((ga bs 0).1.getD i22 pt0).sz), .bool (decide (((ga bs 0).1.getD i22 pt0).sk = true)), .int .i64 (((ga bs 0).1.getD i22 pt0).pl), .int .i64 (((ga bs 0).1.getD i22 pt0).hd.1), .int .i64 (((ga bs 0).1.getD i22 pt0).hd.2.1), .int .u32 (((ga bs 0).1.getD i22 pt0).hd.2.2.1), .bool (decide (((ga bs 0).1.getD i22 pt0).hd.2.2.2 = true)), .slice ba27 mx bc27, .int .u32 (((ga bs 0).1.getD i22 pt0).ck)]) rfl (fun w' hw' => r_loada (cs := [.int .i64 (((ga bs 0).1.getD i22 pt0).at_), .int .i64 (((ga bs 0).1.getD i22 pt0).sz), .bool (decide (((ga bs 0).1.getD i22 pt0).sk = true)), .int .i64 (((ga bs 0).1.getD i22 pt0).pl), .int .i64 (((ga bs 0).1.getD i22 pt0).hd.1), .int .i64 (((ga bs 0).1.getD i22 pt0).hd.2.1), .int .u32 (((ga bs 0).1.getD i22 pt0).hd.2.2.1), .bool (decide (((ga bs 0).1.getD i22 pt0).hd.2.2.2 = true)), .slice ba27 mx bc27, .int .u32 (((ga bs 0).1.getD i22 pt0).ck)]) isAgg48 sizeOf48 rfl rfl (hw'.cellsk rfl hc26))) ?_
   refine Tk 15 (tf 16 18) rfl (YI_c (v := .bool true) rfl (fun w' => r_call2 rfl call21 rfl rfl) (fun w' hw' => same44 w' ((hsx.upd0 hw').any) ((hB28.upd0 hw').any) (by omega))) ?_
   refine Tk 16 (tf 17 18) rfl (YI_v (v := .bool false) rfl (fun w' hw' => r_not (b := true) rfl)) ?_
   refine Tk 17 (tf 18 18) rfl (YI_v rfl (fun w' hw' => r_pick_f (v := .bool false) rfl rfl)) ?_
   intro w29 hU29
   have hzw29 := hU29.size
   replace hrc21 := hrc21.upd0 hU29
   replace hdf21 := hdf21.upd0 hU29
   replace hb19 := hb19.upd0 hU29
   replace ht := ht.upd0 hU29
   replace hb1 := hb1.upd0 hU29
   replace hb2 := hb2.upd0 hU29
   replace hS8 := hS8.upd0 hU29
   replace hP8 := hP8.upd0 hU29
   replace hb9 := hb9.upd0 hU29
   replace hBl11 := hBl11.upd0 hU29
   replace hT11 := hT11.upd0 hU29
   replace hb17 := hb17.upd0 hU29
   replace HU := HU.trans0 hU29
   replace HB21 := HB21.trans0 hU29
   refine Wa_done (by kernel_rfl) ?_
   refine W_cond_f rfl ?_
   refine W_skip (W_seq (W_region ?_))
   refine Wl_load (v := .int .i64 ((i22 : Nat) : Int)) isAgg3 rfl hb19 rfl ?_
   refine Wl_v (r_add rfl rfl (wi64 (by omega) (by omega))) ?_
   refine Wl_store (v := .int .i64 (((i22 : Nat) : Int) + 1)) (cs' := [.int .i64 (((i22 : Nat) : Int) + 1)]) sizeOf3 rfl rfl rfl rfl hb19 rfl rfl ?_
   intro w30 hU30 hzz30 hb19n
   replace hb19 := hb19n; clear hb19n
   have hzw30 := hU30.size
   replace hrc21 := hrc21.upd1 hU30 (by omega)
   replace hdf21 := hdf21.upd1 hU30 (by omega)
   replace ht := ht.upd1 hU30 (by omega)
   replace hb1 := hb1.upd1 hU30 (by omega)
   replace hb2 := hb2.upd1 hU30 (by omega)
   replace hS8 := hS8.upd1 hU30 (show ¬ ((w6.heap.size ≤ B19 ∧ B19 < w7.heap.size)) by omega)
   replace hP8 := hP8.upd1 hU30 (by omega)
   replace hb9 := hb9.upd1 hU30 (by omega)
   replace hBl11 := hBl11.upd1 hU30 (by omega)
   replace hT11 := hT11.upd1 hU30 (by omega)
   replace hb17 := hb17.upd1 hU30 (by omega)
   replace HU := HU.t1 hU30 (by omega)
   replace HB21 := HB21.trans1 hU30 (by show (B19 = B19 ∨ B19 = D21 + 1) ∨ w22.heap.size ≤ B19; omega)
   refine Wl_nil (W_seq (W_region ?_))
   refine Wl_load (v := .int .i64 0) isAgg3 rfl hb17 rfl ?_
   refine Wl_v (v := .bool true) (r_eq (a := 0) (b := 0) rfl rfl) ?_
   refine Wmv (.bool true) ?_
   refine Wl_guard_t rfl ?_
   refine Wl_load (v := .int .i64 (((i22 : Nat) : Int) + 1)) isAgg3 rfl hb19 rfl ?_
   refine Wl_guard_t rfl ?_
   refine Wl_load (v := .int .i64 many) isAgg3 rfl hb1 rfl ?_
   refine Wl_guard_t rfl ?_
   refine Wl_v (r_ge rfl rfl) ?_
   refine Wl_v (r_pick_t (v := .bool (decide (many ≤ (((i22 : Nat) : Int) + 1)))) rfl rfl) ?_
   refine Wl_nil ?_
   by_cases q5 : many ≤ (((i22 : Nat) : Int) + 1)
   ·rw [decide_eq_true q5]
    refine W_cond_t rfl ?_
    refine W_exit ?_
    refine ⟨rfl, _, hrc21, ?_⟩
    intro w31 hU31 hzz31 hrz
    have hzw31 := hU31.size
    replace hdf21 := hdf21.upd1 hU31 (by omega)
    replace hb19 := hb19.upd1 hU31 (by omega)
    replace ht := ht.upd1 hU31 (by omega)
    replace hb1 := hb1.upd1 hU31 (by omega)
    replace hb2 := hb2.upd1 hU31 (by omega)
    replace hS8 := hS8.upd1 hU31 (show ¬ ((w6.heap.size ≤ (D21 + 1) ∧ (D21 + 1) < w7.heap.size)) by omega)
    replace hP8 := hP8.upd1 hU31 (by omega)
    replace hb9 := hb9.upd1 hU31 (by omega)
    replace hBl11 := hBl11.upd1 hU31 (by omega)
    replace hT11 := hT11.upd1 hU31 (by omega)
    replace hb17 := hb17.upd1 hU31 (by omega)
    replace HU := HU.trans1 hU31 (by show (False) ∨ w.heap.size ≤ (D21 + 1); omega)
    replace HB21 := HB21.trans1 hU31 (by show ((D21 + 1) = B19 ∨ (D21 + 1) = D21 + 1) ∨ w22.heap.size ≤ (D21 + 1); omega)
    exact Or.inr ⟨rfl, HB21, (hJx21 _).2 (⟨i22, (by rw [hr21]; rw [hr21] at hrz; exact hrz), hdf21, hb19, ht, hb1, hb2, hS8, hP8, hb9, hBl11, hT11, hb17, HU, hi22, (by omega), (by omega)⟩)⟩
   rw [decide_eq_false q5]
   refine W_cond_f rfl ?_
   refine W_skip ?_
   refine ⟨rfl, _, hrc21, ?_⟩
   intro w32 hU32 hzz32 hrz
   have hzw32 := hU32.size
   replace hdf21 := hdf21.upd1 hU32 (by omega)
   replace hb19 := hb19.upd1 hU32 (by omega)
   replace ht := ht.upd1 hU32 (by omega)
   replace hb1 := hb1.upd1 hU32 (by omega)
   replace hb2 := hb2.upd1 hU32 (by omega)
   replace hS8 := hS8.upd1 hU32 (show ¬ ((w6.heap.size ≤ (D21 + 1) ∧ (D21 + 1) < w7.heap.size)) by omega)
   replace hP8 := hP8.upd1 hU32 (by omega)
   replace hb9 := hb9.upd1 hU32 (by omega)
   replace hBl11 := hBl11.upd1 hU32 (by omega)
   replace hT11 := hT11.upd1 hU32 (by omega)
   replace hb17 := hb17.upd1 hU32 (by omega)
   replace HU := HU.trans1 hU32 (by show (False) ∨ w.heap.size ≤ (D21 + 1); omega)
   replace HB21 := HB21.trans1 hU32 (by show ((D21 + 1) = B19 ∨ (D21 + 1) = D21 + 1) ∨ w22.heap.size ≤ (D21 + 1); omega)
   exact Or.inl ⟨rfl, HB21, (hJ21 _ _).2 ⟨(by rw [hr21]; rw [hr21] at hrz; exact hrz), hdf21, hb19, ht, hb1, hb2, hS8, hP8, hb9, hBl11, hT11, hb17, HU, (by omega)⟩⟩
  rintro b c w9 (⟨rfl, h1, h2⟩ | ⟨rfl, h1, h2⟩)
  ·exact Or.inl ⟨rfl, h1, h2⟩
  exact Or.inr ⟨rfl, h1, h2⟩
 rintro e w33 ⟨v, rfl, hh | hh⟩
 ·obtain ⟨hrc21, hdf21, hb19, ht, hb1, hb2, hS8, hP8, hb9, hBl11, hT11, hb17, HU, hpm⟩ := (hJ21 _ _).1 hh
  have hrl21 := hrc21.lt
  refine ⟨r21, hrc21, (by rw [hr21]; simp), ?_⟩
  intro w34 hU34 hzz34
  have hzw34 := hU34.size
  replace hdf21 := hdf21.upd1 hU34 (by omega)
  replace hb19 := hb19.upd1 hU34 (by omega)
  replace ht := ht.upd1 hU34 (by omega)
  replace hb1 := hb1.upd1 hU34 (by omega)
  replace hb2 := hb2.upd1 hU34 (by omega)
  replace hS8 := hS8.upd1 hU34 (show ¬ ((w6.heap.size ≤ (D21 + 1) ∧ (D21 + 1) < w7.heap.size)) by omega)
  replace hP8 := hP8.upd1 hU34 (by omega)
  replace hb9 := hb9.upd1 hU34 (by omega)
  replace hBl11 := hBl11.upd1 hU34 (by omega)
  replace hT11 := hT11.upd1 hU34 (by omega)
  replace hb17 := hb17.upd1 hU34 (by omega)
  replace HU := HU.trans1 hU34 (by show (False) ∨ w.heap.size ≤ (D21 + 1); omega)
  rw [hr21]
  skip
  refine W_seq (W_region ?_)
  refine Wl_load (v := .int .i64 0) isAgg3 rfl hb17 rfl ?_
  refine Wl_v (v := .bool true) (r_eq (a := 0) (b := 0) rfl rfl) ?_
  refine Wmv (.bool true) ?_
  refine Wl_guard_t rfl ?_
  refine Wl_load (v := .int .i64 (((ga bs 0).1.length : Nat) : Int)) isAgg3 rfl hb19 rfl ?_
  refine Wl_guard_t rfl ?_
  refine Wl_load (v := .slice a7 m7 c7) isAgg29 rfl hb9 rfl ?_
  refine Wl_guard_t rfl ?_
  refine Wl_v (r_len underlying29 rfl) ?_
  refine Wl_guard_t rfl ?_
  refine Wl_load (v := .int .i64 many) isAgg3 rfl hb1 rfl ?_
  refine Wl_guard_t rfl ?_
  refine Wl_v (r_max rfl rfl) ?_
  refine Wl_guard_t rfl ?_
  refine Wl_v (r_min rfl rfl) ?_
  refine Wl_guard_t rfl ?_
  refine Wl_v (r_ne rfl rfl) ?_
  refine Wl_v (r_pick_t (v := .bool (decide ((((ga bs 0).1.length : Nat) : Int) ≠ (min ((m7 : Nat) : Int) (max 1 many))))) rfl rfl) ?_
  refine Wmv (.bool (decide ((((ga bs 0).1.length : Nat) : Int) ≠ (min ((m7 : Nat) : Int) (max 1 many))))) ?_
  have q6 : ¬ ((((ga bs 0).1.length : Nat) : Int) ≠ (min ((m7 : Nat) : Int) (max 1 many))) := (by omega)
  rw [decide_eq_false q6]
  refine Wl_guard_t rfl ?_
  refine Wl_load (v := .int .i64 0) isAgg3 rfl hb17 rfl ?_
  refine Wl_guard_t rfl ?_
  refine Wl_v (v := .bool false) (r_eq (a := 0) (b := 1) rfl rfl) ?_
  refine Wl_guard_t rfl ?_
  refine Wmv (.bool false) ?_
  refine Wl_guard_f rfl (Wl_guard_f rfl (Wl_guard_f rfl (Wl_guard_f rfl (Wl_guard_t rfl ?_))))
  refine Wl_v (r_pick_f (v := .bool false) rfl rfl) ?_
  refine Wl_v (r_pick_f (v := .bool false) rfl rfl) ?_
  refine Wl_nil ?_
  refine W_cond_f rfl ?_
  refine W_skip (W_seq (W_seq (W_region ?_)))
  refine Wl_load (v := .int .i64 0) isAgg3 rfl hb17 rfl ?_
  refine Wl_nil (W_region ?_)
  refine Wl_alloc (cs := [.int .i64 0]) zeroValue3 rfl ?_
  intro B35 w35 hB35 hU35 hzz35 hb35
  have hzw35 := hU35.size
  replace hdf21 := hdf21.upd0 hU35
  replace hb19 := hb19.upd0 hU35
  replace ht := ht.upd0 hU35
  replace hb1 := hb1.upd0 hU35
  replace hb2 := hb2.upd0 hU35
  replace hS8 := hS8.upd0 hU35
  replace hP8 := hP8.upd0 hU35
  replace hb9 := hb9.upd0 hU35
  replace hBl11 := hBl11.upd0 hU35
  replace hT11 := hT11.upd0 hU35
  replace hb17 := hb17.upd0 hU35
  replace HU := HU.trans0 hU35
  refine Wl_store (v := .int .i64 0) (cs' := [.int .i64 0]) sizeOf3 rfl rfl rfl rfl hb35 rfl rfl ?_
  intro w36 hU36 hzz36 hb35n
  replace hb35 := hb35n; clear hb35n
  have hzw36 := hU36.size
  replace hdf21 := hdf21.upd1 hU36 (by omega)
  replace hb19 := hb19.upd1 hU36 (by omega)
  replace ht := ht.upd1 hU36 (by omega)
  replace hb1 := hb1.upd1 hU36 (by omega)
  replace hb2 := hb2.upd1 hU36 (by omega)
  replace hS8 := hS8.upd1 hU36 (show ¬ ((w6.heap.size ≤ B35 ∧ B35 < w7.heap.size)) by omega)
  replace hP8 := hP8.upd1 hU36 (by omega)
  replace hb9 := hb9.upd1 hU36 (by omega)
  replace hBl11 := hBl11.upd1 hU36 (by omega)
  replace hT11 := hT11.upd1 hU36 (by omega)
  replace hb17 := hb17.upd1 hU36 (by omega)
  replace HU := HU.t1 hU36 (by omega)
  refine Wl_nil (W_region ?_)
  refine Wl_load (v := .int .i64 0) isAgg3 rfl hb35 rfl ?_
  refine Wl_v (r_add rfl rfl (show IntKind.i64.wrap (0 + 1) = 1 by decide)) ?_
  refine Wl_store (v := .int .i64 1) (cs' := [.int .i64 1]) sizeOf3 rfl rfl rfl rfl hb35 rfl rfl ?_
  intro w37 hU37 hzz37 hb35n
  replace hb35 := hb35n; clear hb35n
  have hzw37 := hU37.size
  replace hdf21 := hdf21.upd1 hU37 (by omega)
  replace hb19 := hb19.upd1 hU37 (by omega)
  replace ht := ht.upd1 hU37 (by omega)
  replace hb1 := hb1.upd1 hU37 (by omega)
  replace hb2 := hb2.upd1 hU37 (by omega)
  replace hS8 := hS8.upd1 hU37 (show ¬ ((w6.heap.size ≤ B35 ∧ B35 < w7.heap.size)) by omega)
  replace hP8 := hP8.upd1 hU37 (by omega)
  replace hb9 := hb9.upd1 hU37 (by omega)
  replace hBl11 := hBl11.upd1 hU37 (by omega)
  replace hT11 := hT11.upd1 hU37 (by omega)
  replace hb17 := hb17.upd1 hU37 (by omega)
  replace HU := HU.t1 hU37 (by omega)
  refine Wl_nil (W_seq (W_seq (W_region ?_)))
  refine Wl_load (v := .int .i64 1) isAgg3 rfl hb35 rfl ?_
  refine Wl_v (v := .bool true) (r_lt (a := 1) (b := 2) rfl rfl) ?_
  refine Wl_nil ?_
  refine W_cond_t rfl ?_
  refine W_skip (W_seq (W_block (W_seq (W_region ?_))))
  refine Wl_alloc (cs := [.int .i64 0]) zeroValue3 rfl ?_
  intro B38 w38 hB38 hU38 hzz38 hb38
  have hzw38 := hU38.size
  replace hdf21 := hdf21.upd0 hU38
  replace hb19 := hb19.upd0 hU38
  replace ht := ht.upd0 hU38
  replace hb1 := hb1.upd0 hU38
  replace hb2 := hb2.upd0 hU38
  replace hS8 := hS8.upd0 hU38
  replace hP8 := hP8.upd0 hU38
  replace hb9 := hb9.upd0 hU38
  replace hBl11 := hBl11.upd0 hU38
  replace hT11 := hT11.upd0 hU38
  replace hb17 := hb17.upd0 hU38
  replace HU := HU.trans0 hU38
  replace hb35 := hb35.upd0 hU38
  refine Wl_store (v := .int .i64 0) (cs' := [.int .i64 0]) sizeOf3 rfl rfl rfl rfl hb38 rfl rfl ?_
  intro w39 hU39 hzz39 hb38n
  replace hb38 := hb38n; clear hb38n
  have hzw39 := hU39.size
  replace hdf21 := hdf21.upd1 hU39 (by omega)
  replace hb19 := hb19.upd1 hU39 (by omega)
  replace ht := ht.upd1 hU39 (by omega)
  replace hb1 := hb1.upd1 hU39 (by omega)
  replace hb2 := hb2.upd1 hU39 (by omega)
  replace hS8 := hS8.upd1 hU39 (show ¬ ((w6.heap.size ≤ B38 ∧ B38 < w7.heap.size)) by omega)
  replace hP8 := hP8.upd1 hU39 (by omega)
  replace hb9 := hb9.upd1 hU39 (by omega)
  replace hBl11 := hBl11.upd1 hU39 (by omega)
  replace hT11 := hT11.upd1 hU39 (by omega)
  replace hb17 := hb17.upd1 hU39 (by omega)
  replace HU := HU.t1 hU39 (by omega)
  replace hb35 := hb35.upd1 hU39 (by omega)
  refine Wl_nil (W_seq (W_seq (W_region ?_)))
  refine Wmv (.func (.func 37) #[] #[.pointer (some ⟨Bl11, 0, none⟩)]) ?_
  refine Wl_nil (W_block ?_)
  refine W_range (gf := 37) (ar := fun y => #[y, .pointer (some ⟨Bl11, 0, none⟩)]) rfl call37 (fun y => by simp) ?_
  intro D40 fn40 w40 hD40 hU40 hzz40 hdf40 hrc400
  have hzw40 := hU40.size
  replace hdf21 := hdf21.upd0 hU40
  replace hb19 := hb19.upd0 hU40
  replace ht := ht.upd0 hU40
  replace hb1 := hb1.upd0 hU40
  replace hb2 := hb2.upd0 hU40
  replace hS8 := hS8.upd0 hU40
  replace hP8 := hP8.upd0 hU40
  replace hb9 := hb9.upd0 hU40
  replace hBl11 := hBl11.upd0 hU40
  replace hT11 := hT11.upd0 hU40
  replace hb17 := hb17.upd0 hU40
  replace HU := HU.trans0 hU40
  replace hb35 := hb35.upd0 hU40
  replace hb38 := hb38.upd0 hU40
  obtain ⟨r40, hr40, hrc40⟩ : ∃ r, r = _ ∧ Rec w40 (D40 + 1) r := ⟨_, rfl, hrc400⟩
  clear hrc400
  obtain ⟨J40, hJ40⟩ : ∃ J : Nat → World → Prop, ∀ i w', J i w' ↔ (Rec w' (D40 + 1) r40 ∧ Dfr w' D40 ∧ Blk w' B38 [.int .i64 ((i : Nat) : Int)] ∧ Dfr w' D21 ∧ Blk w' B19 [.int .i64 (((ga bs 0).1.length : Nat) : Int)] ∧ Tab w' g0 ∧ Blk w' B1 [.int .i64 many] ∧ Blk w' B2 [.bool false] ∧ Sl w' (fun g => (w6.heap.size ≤ g ∧ g < w7.heap.size)) 10 (.slice a7 m7 c7) m7 (rows encP vs8) ∧ Pbs w' w6.heap.size w7.heap.size w7.heap.size vs8 ∧ Blk w' B9 [.slice a7 m7 c7] ∧ Blk w' Bl11 [.slice a11 m11 c11] ∧ Pts w' w10.heap.size G11 a11 m11 c11 ((ga bs 0).1) ∧ Blk w' B17 [.int .i64 0] ∧ Blk w' B35 [.int .i64 1] ∧ Upd No w w') := ⟨_, fun _ _ => Iff.rfl⟩
  obtain ⟨Jx40, hJx40⟩ : ∃ Jx : World → Prop, ∀ w', Jx w' ↔ (False) := ⟨_, fun _ => Iff.rfl⟩
  refine (each1_it (ly := (D40 + 1)) (J := J40) (Jx := Jx40) (Sb := (fun g => g = B38 ∨ g = D40 + 1)) w40 hBl11 hT11 (by omega) (by omega) (fun j => (ga_okd hb (by omega) j).1.bn) (by intro g h1 h2 h4; have h5 : g = B38 ∨ g = D40 + 1 := h4; omega) (by intro h4; have h5 : Bl11 = B38 ∨ Bl11 = D40 + 1 := h4; omega) (by intro g h1 h4; have h5 : g = B38 ∨ g = D40 + 1 := h4; omega) ?_ ?_ ?_ ?_).mono ?_
  ·exact (hJ40 _ _).2 ⟨hrc40, hdf40, hb38, hdf21, hb19, ht, hb1, hb2, hS8, hP8, hb9, hBl11, hT11, hb17, hb35, HU⟩
  ·intro i wa wb hh hUs
   obtain ⟨hrc40, hdf40, hb38, hdf21, hb19, ht, hb1, hb2, hS8, hP8, hb9, hBl11, hT11, hb17, hb35, HU⟩ := (hJ40 _ _).1 hh
   replace hrc40 := hrc40.upd hUs (by show ¬ (_ ≤ _); omega)
   replace hdf40 := hdf40.upd hUs (by show ¬ (_ ≤ _); omega)
   replace hb38 := hb38.upd hUs (by show ¬ (_ ≤ _); omega)
   replace hdf21 := hdf21.upd hUs (by show ¬ (_ ≤ _); omega)
   replace hb19 := hb19.upd hUs (by show ¬ (_ ≤ _); omega)
   replace ht := ht.upd hUs (by intro x hx; have hx2 : w40.heap.size ≤ x := hx; omega)
   replace hb1 := hb1.upd hUs (by show ¬ (_ ≤ _); omega)
   replace hb2 := hb2.upd hUs (by show ¬ (_ ≤ _); omega)
   replace hS8 := hS8.upd hUs (by intro x h1 h2; have h3 : (w6.heap.size ≤ x ∧ x < w7.heap.size) := h1; have h4 : w40.heap.size ≤ x := h2; omega)
   replace hP8 := hP8.upd hUs (by intro x hx; have hx2 : w40.heap.size ≤ x := hx; omega)
   replace hb9 := hb9.upd hUs (by show ¬ (_ ≤ _); omega)
   replace hBl11 := hBl11.upd hUs (by show ¬ (_ ≤ _); omega)
   replace hT11 := hT11.upd hUs (by intro x hx; have hx2 : w40.heap.size ≤ x := hx; omega)
   replace hb17 := hb17.upd hUs (by show ¬ (_ ≤ _); omega)
   replace hb35 := hb35.upd hUs (by show ¬ (_ ≤ _); omega)
   replace HU := HU.trans hUs (by intro x hx; have hx2 : w40.heap.size ≤ x := hx; show (False) ∨ w.heap.size ≤ x; omega)
   exact (hJ40 _ _).2 ⟨hrc40, hdf40, hb38, hdf21, hb19, ht, hb1, hb2, hS8, hP8, hb9, hBl11, hT11, hb17, hb35, HU⟩
  ·intro wa wb hh hUs
   exact ((hJx40 _).1 hh).elim
  ·intro i41 w41 hi41 hh
   obtain ⟨hrc40, hdf40, hb38, hdf21, hb19, ht, hb1, hb2, hS8, hP8, hb9, hBl11, hT11, hb17, hb35, HU⟩ := (hJ40 _ _).1 hh
   have hrl40 := hrc40.lt
   intro ax mx cx hsx
   replace hsx := hsx.tight
   have hl_hsx := rlen encK_len (by decide) hsx
   have hc_hsx := hsx.cap.1
   have hokx := (ga_okd hb (by omega) i41).1.bn
   have HB40 : Upd (fun g => g = B38 ∨ g = D40 + 1) w41 w41 := Upd.refl _ _
   refine yieldC_of_W (R := fun b c w' => (b = true ∧ Upd (fun g => g = B38 ∨ g = D40 + 1) w41 w' ∧ J40 (i41 + 1) w') ∨ (b = false ∧ Upd (fun g => g = B38 ∨ g = D40 + 1) w41 w' ∧ Jx40 w')) hrc40 (by rw [hr40]; rfl) (by rw [hr40]; exact zip2 _ _ _ _ _ _) ?_ ?_
   ·rw [hr40]
    refine W_seq (W_region ?_)
    refine Was (.int .i64 ((i41 : Nat) : Int)) ?_
    refine Wl_nil (W_region ?_)
    refine Wl_alloc (cs := [.int .i64 0, .int .i64 0, .bool false, .int .i64 0, .int .i64 0, .int .i64 0, .int .u32 0, .bool false, .slice none 0 0, .int .u32 0]) zeroValue45 rfl ?_
    intro B42 w42 hB42 hU42 hzz42 hb42
    have hzw42 := hU42.size
    replace hrc40 := hrc40.upd0 hU42
    replace hdf40 := hdf40.upd0 hU42
    replace hb38 := hb38.upd0 hU42
    replace hdf21 := hdf21.upd0 hU42
    replace hb19 := hb19.upd0 hU42
    replace ht := ht.upd0 hU42
    replace hb1 := hb1.upd0 hU42
    replace hb2 := hb2.upd0 hU42
    replace hS8 := hS8.upd0 hU42
    replace hP8 := hP8.upd0 hU42
    replace hb9 := hb9.upd0 hU42
    replace hBl11 := hBl11.upd0 hU42
    replace hT11 := hT11.upd0 hU42
    replace hb17 := hb17.upd0 hU42
    replace hb35 := hb35.upd0 hU42
    replace HU := HU.trans0 hU42
    replace hsx := hsx.upd0 hU42
    replace HB40 := HB40.trans0 hU42
    refine Wl_storea (off := 0) (vs := [.int .i64 (((ga bs 0).1.getD i41 pt0).at_), .int .i64 (((ga bs 0).1.getD i41 pt0).sz), .bool (decide (((ga bs 0).1.getD i41 pt0).sk = true)), .int .i64 (((ga bs 0).1.getD i41 pt0).pl), .int .i64 (((ga bs 0).1.getD i41 pt0).hd.1), .int .i64 (((ga bs 0).1.getD i41 pt0).hd.2.1), .int .u32 (((ga bs 0).1.getD i41 pt0).hd.2.2.1), .bool (decide (((ga bs 0).1.getD i41 pt0).hd.2.2.2 = true)), .slice ax mx cx, .int .u32 (((ga bs 0).1.getD i41 pt0).ck)]) (cs' := [.int .i64 (((ga bs 0).1.getD i41 pt0).at_), .int .i64 (((ga bs 0).1.getD i41 pt0).sz), .bool (decide (((ga bs 0).1.getD i41 pt0).sk = true)), .int .i64 (((ga bs 0).1.getD i41 pt0).pl), .int .i64 (((ga bs 0).1.getD i41 pt0).hd.1), .int .i64 (((ga bs 0).1.getD i41 pt0).hd.2.1), .int .u32 (((ga bs 0).1.getD i41 pt0).hd.2.2.1), .bool (decide (((ga bs 0).1.getD i41 pt0).hd.2.2.2 = true)), .slice ax mx cx, .int .u32 (((ga bs 0).1.getD i41 pt0).ck)]) sizeOf45 rfl rfl rfl (by simp only [List.mem_cons, List.not_mem_nil, or_false, forall_eq_or_imp, forall_eq]; exact ⟨rfl, rfl, rfl, rfl, rfl, rfl, rfl, rfl, rfl, rfl⟩) hb42 (by simp) rfl ?_
    intro w43 hU43 hzz43 hb42n
    replace hb42 := hb42n; clear hb42n
    have hzw43 := hU43.size
    replace hrc40 := hrc40.upd1 hU43 (by omega)
    replace hdf40 := hdf40.upd1 hU43 (by omega)
    replace hb38 := hb38.upd1 hU43 (by omega)
    replace hdf21 := hdf21.upd1 hU43 (by omega)
    replace hb19 := hb19.upd1 hU43 (by omega)
    replace ht := ht.upd1 hU43 (by omega)
    replace hb1 := hb1.upd1 hU43 (by omega)
    replace hb2 := hb2.upd1 hU43 (by omega)
    replace hS8 := hS8.upd1 hU43 (show ¬ ((w6.heap.size ≤ B42 ∧ B42 < w7.heap.size)) by omega)
    replace hP8 := hP8.upd1 hU43 (by omega)
    replace hb9 := hb9.upd1 hU43 (by omega)
    replace hBl11 := hBl11.upd1 hU43 (by omega)
    replace hT11 := hT11.upd1 hU43 (by omega)
    replace hb17 := hb17.upd1 hU43 (by omega)
    replace hb35 := hb35.upd1 hU43 (by omega)
    replace HU := HU.t1 hU43 (by omega)
    replace hsx := hsx.upd1 hU43 (show ¬ (((w40.heap.size ≤ B42) ∧ B42 < w41.heap.size)) by omega)
    replace HB40 := HB40.trans1 hU43 (by show (B42 = B38 ∨ B42 = D40 + 1) ∨ w41.heap.size ≤ B42; omega)
    refine Wl_nil ?_
    refine ⟨rfl, _, hrc40, (by rw [hr40]), ?_⟩
    intro w44 hU44 hzz44 hrc40b
    have hzw44 := hU44.size
    replace hdf40 := hdf40.upd1 hU44 (by omega)
    replace hb38 := hb38.upd1 hU44 (by omega)
    replace hdf21 := hdf21.upd1 hU44 (by omega)
    replace hb19 := hb19.upd1 hU44 (by omega)
    replace ht := ht.upd1 hU44 (by omega)
    replace hb1 := hb1.upd1 hU44 (by omega)
    replace hb2 := hb2.upd1 hU44 (by omega)
    replace hS8 := hS8.upd1 hU44 (show ¬ ((w6.heap.size ≤ (D40 + 1) ∧ (D40 + 1) < w7.heap.size)) by omega)
    replace hP8 := hP8.upd1 hU44 (by omega)
    replace hb9 := hb9.upd1 hU44 (by omega)
    replace hBl11 := hBl11.upd1 hU44 (by omega)
    replace hT11 := hT11.upd1 hU44 (by omega)
    replace hb17 := hb17.upd1 hU44 (by omega)
    replace hb35 := hb35.upd1 hU44 (by omega)
    replace HU := HU.trans1 hU44 (by show (False) ∨ w.heap.size ≤ (D40 + 1); omega)
    replace hsx := hsx.upd1 hU44 (show ¬ (((w40.heap.size ≤ (D40 + 1)) ∧ (D40 + 1) < w41.heap.size)) by omega)
    replace HB40 := HB40.trans1 hU44 (by show ((D40 + 1) = B38 ∨ (D40 + 1) = D40 + 1) ∨ w41.heap.size ≤ (D40 + 1); omega)
    replace hb42 := hb42.upd1 hU44 (by omega)
    clear hrc40
    have hrc40 := hrc40b
    clear hrc40b
    refine W_block (W_seq (W_seq ?_))
    refine W_drawt rfl (l0 := tf 0 18) (by kernel_rfl) ?_
    refine Tk 0 (tf 1 18) rfl (YI_v (v := .int .i64 ((i41 : Nat) : Int)) rfl (fun w' hw' => r_mv (v := .int .i64 ((i41 : Nat) : Int)) rfl)) ?_
    refine Tk 1 (tf 2 18) rfl (YI_v (v := .int .i64 ((i41 : Nat) : Int)) rfl (fun w' hw' => r_load isAgg3 rfl (by rw [(hb38.upd0 hw').cell]; rfl))) ?_
    refine Tk 2 (tf 3 18) rfl (YI_v (v := .bool (decide (((i41 : Nat) : Int) ≠ ((i41 : Nat) : Int)))) rfl (fun w' hw' => r_ne rfl rfl)) ?_
    refine Tk 3 (tf 4 18) rfl (YI_v (v := .bool (decide (((i41 : Nat) : Int) ≠ ((i41 : Nat) : Int)))) rfl (fun w' hw' => r_mv (v := .bool (decide (((i41 : Nat) : Int) ≠ ((i41 : Nat) : Int)))) rfl)) ?_
    have q7 : ¬ (((i41 : Nat) : Int) ≠ ((i41 : Nat) : Int)) := (by omega)
    rw [decide_eq_false q7]
    refine Tk 4 (tf 5 18) rfl (YI_v (v := .int .i64 ((i41 : Nat) : Int)) rfl (fun w' hw' => r_load isAgg3 rfl (by rw [(hb38.upd0 hw').cell]; rfl))) ?_
    refine Tk 5 (tf 6 18) rfl (YI_v (v := .slice a7 m7 c7) rfl (fun w' hw' => r_load isAgg29 rfl (by rw [(hb9.upd0 hw').cell]; rfl))) ?_
    refine Tk 6 (tf 7 18) rfl (YI_v (v := .int .i64 ((m7 : Nat) : Int)) rfl (fun w' hw' => r_len underlying29 rfl)) ?_
    refine Tk 7 (tf 8 18) rfl (YI_v (v := .bool (decide (((m7 : Nat) : Int) ≤ ((i41 : Nat) : Int)))) rfl (fun w' hw' => r_ge rfl rfl)) ?_
    refine Tk 8 (tf 9 18) rfl (YI_v rfl (fun w' hw' => r_pick_f (v := .bool (decide (((m7 : Nat) : Int) ≤ ((i41 : Nat) : Int)))) rfl rfl)) ?_
    refine Tk 9 (tf 10 18) rfl (YI_v (v := .bool (decide (((m7 : Nat) : Int) ≤ ((i41 : Nat) : Int)))) rfl (fun w' hw' => r_mv (v := .bool (decide (((m7 : Nat) : Int) ≤ ((i41 : Nat) : Int)))) rfl)) ?_
    have q8 : ¬ (((m7 : Nat) : Int) ≤ ((i41 : Nat) : Int)) := (by omega)
    rw [decide_eq_false q8]
    refine Tk 10 (tf 11 18) rfl (YI_v (v := .agg #[.int .i64 (((ga bs 0).1.getD i41 pt0).at_), .int .i64 (((ga bs 0).1.getD i41 pt0).sz), .bool (decide (((ga bs 0).1.getD i41 pt0).sk = true)), .int .i64 (((ga bs 0).1.getD i41 pt0).pl), .int .i64 (((ga bs 0).1.getD i41 pt0).hd.1), .int .i64 (((ga bs 0).1.getD i41 pt0).hd.2.1), .int .u32 (((ga bs 0).1.getD i41 pt0).hd.2.2.1), .bool (decide (((ga bs 0).1.getD i41 pt0).hd.2.2.2 = true)), .slice ax mx cx, .int .u32 (((ga bs 0).1.getD i41 pt0).ck)]) rfl (fun w' hw' => r_loada (b := B42) (off := 0) (cs := [.int .i64 (((ga bs 0).1.getD i41 pt0).at_), .int .i64 (((ga bs 0).1.getD i41 pt0).sz), .bool (decide (((ga bs 0).1.getD i41 pt0).sk = true)), .int .i64 (((ga bs 0).1.getD i41 pt0).pl), .int .i64 (((ga bs 0).1.getD i41 pt0).hd.1), .int .i64 (((ga bs 0).1.getD i41 pt0).hd.2.1), .int .u32 (((ga bs 0).1.getD i41 pt0).hd.2.2.1), .bool (decide (((ga bs 0).1.getD i41 pt0).hd.2.2.2 = true)), .slice ax mx cx, .int .u32 (((ga bs 0).1.getD i41 pt0).ck)]) isAgg45 sizeOf45 rfl rfl (fun j hj => by rw [(hb42.upd0 hw').cell]; match j, hj with | 0, _ => rfl | 1, _ => rfl | 2, _ => rfl | 3, _ => rfl | 4, _ => rfl | 5, _ => rfl | 6, _ => rfl | 7, _ => rfl | 8, _ => rfl | 9, _ => rfl))) ?_
    refine Tk 11 (tf 12 18) rfl (YI_v (v := .slice a7 m7 c7) rfl (fun w' hw' => r_load isAgg29 rfl (by rw [(hb9.upd0 hw').cell]; rfl))) ?_
    refine Tk 12 (tf 13 18) rfl (YI_v (v := .int .i64 ((i41 : Nat) : Int)) rfl (fun w' hw' => r_load isAgg3 rfl (by rw [(hb38.upd0 hw').cell]; rfl))) ?_
    obtain ⟨ib45, io45, ha45, hib45, hc45⟩ := Sl.rat pv0 encP_len (by decide) (hS8) (i := i41) (by omega)
    obtain ⟨ba46, bm46, bc46, hbe46⟩ := gd_part (i := i41) hv8
    rw [hbe46] at hc45
    have hB47 := hPget hP8 hbe46 (by omega)
    have hl_hB47 := rlen encK_len (by decide) hB47
    have hc_hB47 := hB47.cap.1
    have hbq : mx = bm46 := by omega
    subst hbq
    refine Tk 13 (tf 14 18) rfl (YI_v (v := .pointer (some ⟨ib45, io45 + i41 * 10, none⟩)) rfl (fun w' hw' => r_idx (b := ib45) (off := io45) (m := m7) (c := c7) (o' := io45 + i41 * 10) underlying29 sizeOf48 (by rw [← ha45]; rfl) rfl (by omega) (by omega) (by omega))) ?_
    refine Tk 14 (tf 15 18) rfl (YI_v (v := .agg #[.int .i64 (((ga bs 0).1.getD i41 pt0).at_), .int .i64 (((ga bs 0).1.getD i41 pt0).sz), .bool (decide (((ga bs 0).1.getD i41 pt0).sk = true)), .int .i64 (((ga bs 0).1.getD i41 pt0).pl), .int .i64 (((ga bs 0).1.getD i41 pt0).hd.1), .int .i64 (((ga bs 0).1.getD i41 pt0).hd.2.1), .int .u32 (((ga bs 0).1.getD i41 pt0).hd.2.2.1), .bool (decide (((ga bs 0).1.getD i41 pt0).hd.2.2.2 = true)), .slice ba46 mx bc46, .int .u32 (((ga bs 0).1.getD i41 pt0).ck)]) rfl (fun w' hw' => r_loada (cs := [.int .i64 (((ga bs 0).1.getD i41 pt0).at_), .int .i64 (((ga bs 0).1.getD i41 pt0).sz), .bool (decide (((ga bs 0).1.getD i41 pt0).sk = true)), .int .i64 (((ga bs 0).1.getD i41 pt0).pl), .int .i64 (((ga bs 0).1.getD i41 pt0).hd.1), .int .i64 (((ga bs 0).1.getD i41 pt0).hd.2.1), .int .u32 (((ga bs 0).1.getD i41 pt0).hd.2.2.1), .bool (decide (((ga bs 0).1.getD i41 pt0).hd.2.2.2 = true)), .slice ba46 mx bc46, .int .u32 (((ga bs 0).1.getD i41 pt0).ck)]) isAgg48 sizeOf48 rfl rfl (hw'.cellsk rfl hc45))) ?_
    refine Tk 15 (tf 16 18) rfl (YI_c (v := .bool true) rfl (fun w' => r_call2 rfl call21 rfl rfl) (fun w' hw' => same44 w' ((hsx.upd0 hw').any) ((hB47.upd0 hw').any) (by omega))) ?_
    refine Tk 16 (tf 17 18) rfl (YI_v (v := .bool false) rfl (fun w' hw' => r_not (b := true) rfl)) ?_
    refine Tk 17 (tf 18 18) rfl (YI_v rfl (fun w' hw' => r_pick_f (v := .bool false) rfl rfl)) ?_
    intro w48 hU48
    have hzw48 := hU48.size
    replace hrc40 := hrc40.upd0 hU48
    replace hdf40 := hdf40.upd0 hU48
    replace hb38 := hb38.upd0 hU48
    replace hdf21 := hdf21.upd0 hU48
    replace hb19 := hb19.upd0 hU48
    replace ht := ht.upd0 hU48
    replace hb1 := hb1.upd0 hU48
    replace hb2 := hb2.upd0 hU48
    replace hS8 := hS8.upd0 hU48
    replace hP8 := hP8.upd0 hU48
    replace hb9 := hb9.upd0 hU48
    replace hBl11 := hBl11.upd0 hU48
    replace hT11 := hT11.upd0 hU48
    replace hb17 := hb17.upd0 hU48
    replace hb35 := hb35.upd0 hU48
    replace HU := HU.trans0 hU48
    replace HB40 := HB40.trans0 hU48
    refine Wa_done (by kernel_rfl) ?_
    refine W_cond_f rfl ?_
    refine W_skip (W_seq (W_region ?_))
    refine Wl_load (v := .int .i64 ((i41 : Nat) : Int)) isAgg3 rfl hb38 rfl ?_
    refine Wl_v (r_add rfl rfl (wi64 (by omega) (by omega))) ?_
    refine Wl_store (v := .int .i64 (((i41 : Nat) : Int) + 1)) (cs' := [.int .i64 (((i41 : Nat) : Int) + 1)]) sizeOf3 rfl rfl rfl rfl hb38 rfl rfl ?_
    intro w49 hU49 hzz49 hb38n
    replace hb38 := hb38n; clear hb38n
    have hzw49 := hU49.size
    replace hrc40 := hrc40.upd1 hU49 (by omega)
    replace hdf40 := hdf40.upd1 hU49 (by omega)
    replace hdf21 := hdf21.upd1 hU49 (by omega)
    replace hb19 := hb19.upd1 hU49 (by omega)
    replace ht := ht.upd1 hU49 (by omega)
    replace hb1 := hb1.upd1 hU49 (by omega)
    replace hb2 := hb2.upd1 hU49 (by omega)
    replace hS8 := hS8.upd1 hU49 (show ¬ ((w6.heap.size ≤ B38 ∧ B38 < w7.heap.size)) by omega)
    replace hP8 := hP8.upd1 hU49 (by omega)
    replace hb9 := hb9.upd1 hU49 (by omega)
    replace hBl11 := hBl11.upd1 hU49 (by omega)
    replace hT11 := hT11.upd1 hU49 (by omega)
    replace hb17 := hb17.upd1 hU49 (by omega)
    replace hb35 := hb35.upd1 hU49 (by omega)
    replace HU := HU.t1 hU49 (by omega)
    replace HB40 := HB40.trans1 hU49 (by show (B38 = B38 ∨ B38 = D40 + 1) ∨ w41.heap.size ≤ B38; omega)
    refine Wl_nil (W_seq (W_region ?_))
    refine Wl_load (v := .int .i64 1) isAgg3 rfl hb35 rfl ?_
    refine Wl_v (v := .bool false) (r_eq (a := 1) (b := 0) rfl rfl) ?_
    refine Wmv (.bool false) ?_
    refine Wl_guard_f rfl (Wl_guard_f rfl (Wl_guard_f rfl ?_))
    refine Wl_v (r_pick_f (v := .bool false) rfl rfl) ?_
    refine Wl_nil ?_
    refine W_cond_f rfl ?_
    refine W_skip ?_
    refine ⟨rfl, _, hrc40, ?_⟩
    intro w50 hU50 hzz50 hrz
    have hzw50 := hU50.size
    replace hdf40 := hdf40.upd1 hU50 (by omega)
    replace hb38 := hb38.upd1 hU50 (by omega)
    replace hdf21 := hdf21.upd1 hU50 (by omega)
    replace hb19 := hb19.upd1 hU50 (by omega)
    replace ht := ht.upd1 hU50 (by omega)
    replace hb1 := hb1.upd1 hU50 (by omega)
    replace hb2 := hb2.upd1 hU50 (by omega)
    replace hS8 := hS8.upd1 hU50 (show ¬ ((w6.heap.size ≤ (D40 + 1) ∧ (D40 + 1) < w7.heap.size)) by omega)
    replace hP8 := hP8.upd1 hU50 (by omega)
    replace hb9 := hb9.upd1 hU50 (by omega)
    replace hBl11 := hBl11.upd1 hU50 (by omega)
    replace hT11 := hT11.upd1 hU50 (by omega)
    replace hb17 := hb17.upd1 hU50 (by omega)
    replace hb35 := hb35.upd1 hU50 (by omega)
    replace HU := HU.trans1 hU50 (by show (False) ∨ w.heap.size ≤ (D40 + 1); omega)
    replace HB40 := HB40.trans1 hU50 (by show ((D40 + 1) = B38 ∨ (D40 + 1) = D40 + 1) ∨ w41.heap.size ≤ (D40 + 1); omega)
    exact Or.inl ⟨rfl, HB40, (hJ40 _ _).2 ⟨(by rw [hr40]; rw [hr40] at hrz; exact hrz), hdf40, hb38, hdf21, hb19, ht, hb1, hb2, hS8, hP8, hb9, hBl11, hT11, hb17, hb35, HU⟩⟩
   rintro b c w9 (⟨rfl, h1, h2⟩ | ⟨rfl, h1, h2⟩)
   ·exact Or.inl ⟨rfl, h1, h2⟩
   exact Or.inr ⟨rfl, h1, h2⟩
  rintro e w51 ⟨v, rfl, hh | hh⟩
  ·obtain ⟨hrc40, hdf40, hb38, hdf21, hb19, ht, hb1, hb2, hS8, hP8, hb9, hBl11, hT11, hb17, hb35, HU⟩ := (hJ40 _ _).1 hh
   have hrl40 := hrc40.lt
   refine ⟨r40, hrc40, (by rw [hr40]; simp), ?_⟩
   intro w52 hU52 hzz52
   have hzw52 := hU52.size
   replace hdf40 := hdf40.upd1 hU52 (by omega)
   replace hb38 := hb38.upd1 hU52 (by omega)
   replace hdf21 := hdf21.upd1 hU52 (by omega)
   replace ht := ht.upd1 hU52 (by omega)
   replace hb2 := hb2.upd1 hU52 (by omega)
   replace hb9 := hb9.upd1 hU52 (by omega)
   replace hb35 := hb35.upd1 hU52 (by omega)
   replace HU := HU.trans1 hU52 (by show (False) ∨ w.heap.size ≤ (D40 + 1); omega)
   rw [hr40]
   skip
   refine W_seq (W_region ?_)
   refine Wl_load (v := .int .i64 1) isAgg3 rfl hb35 rfl ?_
   refine Wl_v (v := .bool false) (r_eq (a := 1) (b := 0) rfl rfl) ?_
   refine Wmv (.bool false) ?_
   refine Wl_guard_f rfl (Wl_guard_f rfl (Wl_guard_f rfl (Wl_guard_f rfl (Wl_guard_f rfl (Wl_guard_f rfl (Wl_guard_f rfl ?_))))))
   refine Wl_v (r_pick_f (v := .bool false) rfl rfl) ?_
   refine Wmv (.bool false) ?_
   refine Wl_guard_t rfl ?_
   refine Wl_load (v := .int .i64 1) isAgg3 rfl hb35 rfl ?_
   refine Wl_guard_t rfl ?_
   refine Wl_v (v := .bool true) (r_eq (a := 1) (b := 1) rfl rfl) ?_
   refine Wl_guard_t rfl ?_
   refine Wmv (.bool true) ?_
   refine Wl_guard_t rfl ?_
   refine Wl_load (v := .int .i64 (((ga bs 0).1.length : Nat) : Int)) isAgg3 rfl hb38 rfl ?_
   refine Wl_guard_t rfl ?_
   refine Wl_load (v := .slice a7 m7 c7) isAgg29 rfl hb9 rfl ?_
   refine Wl_guard_t rfl ?_
   refine Wl_v (r_len underlying29 rfl) ?_
   refine Wl_guard_t rfl ?_
   refine Wl_v (r_ne rfl rfl) ?_
   refine Wl_guard_t rfl ?_
   refine Wl_v (r_pick_t (v := .bool (decide ((((ga bs 0).1.length : Nat) : Int) ≠ ((m7 : Nat) : Int)))) rfl rfl) ?_
   refine Wl_v (r_pick_f (v := .bool (decide ((((ga bs 0).1.length : Nat) : Int) ≠ ((m7 : Nat) : Int)))) rfl rfl) ?_
   refine Wl_nil ?_
   have q9 : ¬ ((((ga bs 0).1.length : Nat) : Int) ≠ ((m7 : Nat) : Int)) := (by omega)
   rw [decide_eq_false q9]
   refine W_cond_f rfl ?_
   refine W_skip (W_seq (W_seq (W_region ?_)))
   refine Wl_load (v := .int .i64 1) isAgg3 rfl hb35 rfl ?_
   refine Wl_nil (W_region ?_)
   refine Wl_alloc (cs := [.int .i64 0]) zeroValue3 rfl ?_
   intro B53 w53 hB53 hU53 hzz53 hb53
   have hzw53 := hU53.size
   replace hdf40 := hdf40.upd0 hU53
   replace hdf21 := hdf21.upd0 hU53
   replace ht := ht.upd0 hU53
   replace hb2 := hb2.upd0 hU53
   replace HU := HU.trans0 hU53
   refine Wl_store (v := .int .i64 1) (cs' := [.int .i64 1]) sizeOf3 rfl rfl rfl rfl hb53 rfl rfl ?_
   intro w54 hU54 hzz54 hb53n
   replace hb53 := hb53n; clear hb53n
   have hzw54 := hU54.size
   replace hdf40 := hdf40.upd1 hU54 (by omega)
   replace hdf21 := hdf21.upd1 hU54 (by omega)
   replace ht := ht.upd1 hU54 (by omega)
   replace hb2 := hb2.upd1 hU54 (by omega)
   replace HU := HU.t1 hU54 (by omega)
   refine Wl_nil (W_region ?_)
   refine Wl_load (v := .int .i64 1) isAgg3 rfl hb53 rfl ?_
   refine Wl_v (r_add rfl rfl (show IntKind.i64.wrap (1 + 1) = 2 by decide)) ?_
   refine Wl_store (v := .int .i64 2) (cs' := [.int .i64 2]) sizeOf3 rfl rfl rfl rfl hb53 rfl rfl ?_
   intro w55 hU55 hzz55 hb53n
   replace hb53 := hb53n; clear hb53n
   have hzw55 := hU55.size
   replace hdf40 := hdf40.upd1 hU55 (by omega)
   replace hdf21 := hdf21.upd1 hU55 (by omega)
   replace ht := ht.upd1 hU55 (by omega)
   replace hb2 := hb2.upd1 hU55 (by omega)
   replace HU := HU.t1 hU55 (by omega)
   refine Wl_nil (W_seq (W_seq (W_region ?_)))
   refine Wl_load (v := .int .i64 2) isAgg3 rfl hb53 rfl ?_
   refine Wl_v (v := .bool false) (r_lt (a := 2) (b := 2) rfl rfl) ?_
   refine Wl_nil ?_
   refine W_cond_f rfl ?_
   refine W_exit ?_
   refine W_seq (W_region ?_)
   refine Wl_call (r_call0 rfl call10 ) (works44 _ ht) ?_
   rintro v w56 ⟨rfl, hU56⟩
   have hzw56 := hU56.size
   replace hdf40 := hdf40.upd0 hU56
   replace hdf21 := hdf21.upd0 hU56
   replace hb2 := hb2.upd0 hU56
   replace HU := HU.trans0 hU56
   refine Wl_store (v := .bool true) (cs' := [.bool true]) sizeOf4 rfl rfl rfl rfl hb2 rfl rfl ?_
   intro w57 hU57 hzz57 hb2n
   replace hb2 := hb2n; clear hb2n
   have hzw57 := hU57.size
   replace hdf40 := hdf40.upd1 hU57 (by omega)
   replace hdf21 := hdf21.upd1 hU57 (by omega)
   replace HU := HU.t1 hU57 (by omega)
   refine Wl_nil ?_
   refine W_ret ?_
   refine ret_ds rfl ?_
   refine lv_mark (by simp) hdf40 ?_
   intro w58 hU58 hzz58
   have hzw58 := hU58.size
   replace hdf21 := hdf21.upd1 hU58 (by omega)
   replace hb2 := hb2.upd1 hU58 (by omega)
   replace HU := HU.t1 hU58 (by omega)
   refine lv_mark (by simp) hdf21 ?_
   intro w59 hU59 hzz59
   have hzw59 := hU59.size
   replace hb2 := hb2.upd1 hU59 (by omega)
   replace HU := HU.t1 hU59 (by omega)
   refine lv_nil (v := .bool true) (rc1 results9 rfl (cellIs isAgg4 hb2)) ?_
   exact ⟨_, rfl, rfl, HU⟩
  exact ((hJx40 _).1 hh).elim
 obtain ⟨ij, hrc21, hdf21, hb19, ht, hb1, hb2, hS8, hP8, hb9, hBl11, hT11, hb17, HU, hq0, hq1, hq2⟩ := (hJx21 _).1 hh
 have hrl21 := hrc21.lt
 refine ⟨_, hrc21, (by simp), ?_⟩
 intro w60 hU60 hzz60
 have hzw60 := hU60.size
 replace hdf21 := hdf21.upd1 hU60 (by omega)
 replace hb19 := hb19.upd1 hU60 (by omega)
 replace ht := ht.upd1 hU60 (by omega)
 replace hb1 := hb1.upd1 hU60 (by omega)
 replace hb2 := hb2.upd1 hU60 (by omega)
 replace hS8 := hS8.upd1 hU60 (show ¬ ((w6.heap.size ≤ (D21 + 1) ∧ (D21 + 1) < w7.heap.size)) by omega)
 replace hP8 := hP8.upd1 hU60 (by omega)
 replace hb9 := hb9.upd1 hU60 (by omega)
 replace hBl11 := hBl11.upd1 hU60 (by omega)
 replace hT11 := hT11.upd1 hU60 (by omega)
 replace hb17 := hb17.upd1 hU60 (by omega)
 replace HU := HU.trans1 hU60 (by show (False) ∨ w.heap.size ≤ (D21 + 1); omega)
 refine W_exit ?_
 refine W_seq (W_region ?_)
 refine Wl_load (v := .int .i64 0) isAgg3 rfl hb17 rfl ?_
 refine Wl_v (v := .bool true) (r_eq (a := 0) (b := 0) rfl rfl) ?_
 refine Wmv (.bool true) ?_
 refine Wl_guard_t rfl ?_
 refine Wl_load (v := .int .i64 (((ij : Nat) : Int) + 1)) isAgg3 rfl hb19 rfl ?_
 refine Wl_guard_t rfl ?_
 refine Wl_load (v := .slice a7 m7 c7) isAgg29 rfl hb9 rfl ?_
 refine Wl_guard_t rfl ?_
 refine Wl_v (r_len underlying29 rfl) ?_
 refine Wl_guard_t rfl ?_
 refine Wl_load (v := .int .i64 many) isAgg3 rfl hb1 rfl ?_
 refine Wl_guard_t rfl ?_
 refine Wl_v (r_max rfl rfl) ?_
 refine Wl_guard_t rfl ?_
 refine Wl_v (r_min rfl rfl) ?_
 refine Wl_guard_t rfl ?_
 refine Wl_v (r_ne rfl rfl) ?_
 refine Wl_v (r_pick_t (v := .bool (decide ((((ij : Nat) : Int) + 1) ≠ (min ((m7 : Nat) : Int) (max 1 many))))) rfl rfl) ?_
 refine Wmv (.bool (decide ((((ij : Nat) : Int) + 1) ≠ (min ((m7 : Nat) : Int) (max 1 many))))) ?_
 have q10 : ¬ ((((ij : Nat) : Int) + 1) ≠ (min ((m7 : Nat) : Int) (max 1 many))) := (by omega)
 rw [decide_eq_false q10]
 refine Wl_guard_t rfl ?_
 refine Wl_load (v := .int .i64 0) isAgg3 rfl hb17 rfl ?_
 refine Wl_guard_t rfl ?_
 refine Wl_v (v := .bool false) (r_eq (a := 0) (b := 1) rfl rfl) ?_
 refine Wl_guard_t rfl ?_
 refine Wmv (.bool false) ?_
 refine Wl_guard_f rfl (Wl_guard_f rfl (Wl_guard_f rfl (Wl_guard_f rfl (Wl_guard_t rfl ?_))))
 refine Wl_v (r_pick_f (v := .bool false) rfl rfl) ?_
 refine Wl_v (r_pick_f (v := .bool false) rfl rfl) ?_
 refine Wl_nil ?_
 refine W_cond_f rfl ?_
 refine W_skip (W_seq (W_seq (W_region ?_)))
 refine Wl_load (v := .int .i64 0) isAgg3 rfl hb17 rfl ?_
 refine Wl_nil (W_region ?_)
 refine Wl_alloc (cs := [.int .i64 0]) zeroValue3 rfl ?_
 intro B61 w61 hB61 hU61 hzz61 hb61
 have hzw61 := hU61.size
 replace hdf21 := hdf21.upd0 hU61
 replace hb19 := hb19.upd0 hU61
 replace ht := ht.upd0 hU61
 replace hb1 := hb1.upd0 hU61
 replace hb2 := hb2.upd0 hU61
 replace hS8 := hS8.upd0 hU61
 replace hP8 := hP8.upd0 hU61
 replace hb9 := hb9.upd0 hU61
 replace hBl11 := hBl11.upd0 hU61
 replace hT11 := hT11.upd0 hU61
 replace hb17 := hb17.upd0 hU61
 replace HU := HU.trans0 hU61
 refine Wl_store (v := .int .i64 0) (cs' := [.int .i64 0]) sizeOf3 rfl rfl rfl rfl hb61 rfl rfl ?_
 intro w62 hU62 hzz62 hb61n
 replace hb61 := hb61n; clear hb61n
 have hzw62 := hU62.size
 replace hdf21 := hdf21.upd1 hU62 (by omega)
 replace hb19 := hb19.upd1 hU62 (by omega)
 replace ht := ht.upd1 hU62 (by omega)
 replace hb1 := hb1.upd1 hU62 (by omega)
 replace hb2 := hb2.upd1 hU62 (by omega)
 replace hS8 := hS8.upd1 hU62 (show ¬ ((w6.heap.size ≤ B61 ∧ B61 < w7.heap.size)) by omega)
 replace hP8 := hP8.upd1 hU62 (by omega)
 replace hb9 := hb9.upd1 hU62 (by omega)
 replace hBl11 := hBl11.upd1 hU62 (by omega)
 replace hT11 := hT11.upd1 hU62 (by omega)
 replace hb17 := hb17.upd1 hU62 (by omega)
 replace HU := HU.t1 hU62 (by omega)
 refine Wl_nil (W_region ?_)
 refine Wl_load (v := .int .i64 0) isAgg3 rfl hb61 rfl ?_
 refine Wl_v (r_add rfl rfl (show IntKind.i64.wrap (0 + 1) = 1 by decide)) ?_
 refine Wl_store (v := .int .i64 1) (cs' := [.int .i64 1]) sizeOf3 rfl rfl rfl rfl hb61 rfl rfl ?_
 intro w63 hU63 hzz63 hb61n
 replace hb61 := hb61n; clear hb61n
 have hzw63 := hU63.size
 replace hdf21 := hdf21.upd1 hU63 (by omega)
 replace hb19 := hb19.upd1 hU63 (by omega)
 replace ht := ht.upd1 hU63 (by omega)
 replace hb1 := hb1.upd1 hU63 (by omega)
 replace hb2 := hb2.upd1 hU63 (by omega)
 replace hS8 := hS8.upd1 hU63 (show ¬ ((w6.heap.size ≤ B61 ∧ B61 < w7.heap.size)) by omega)
 replace hP8 := hP8.upd1 hU63 (by omega)
 replace hb9 := hb9.upd1 hU63 (by omega)
 replace hBl11 := hBl11.upd1 hU63 (by omega)
 replace hT11 := hT11.upd1 hU63 (by omega)
 replace hb17 := hb17.upd1 hU63 (by omega)
 replace HU := HU.t1 hU63 (by omega)
 refine Wl_nil (W_seq (W_seq (W_region ?_)))
 refine Wl_load (v := .int .i64 1) isAgg3 rfl hb61 rfl ?_
 refine Wl_v (v := .bool true) (r_lt (a := 1) (b := 2) rfl rfl) ?_
 refine Wl_nil ?_
 refine W_cond_t rfl ?_
 refine W_skip (W_seq (W_block (W_seq (W_region ?_))))
 refine Wl_alloc (cs := [.int .i64 0]) zeroValue3 rfl ?_
 intro B64 w64 hB64 hU64 hzz64 hb64
 have hzw64 := hU64.size
 replace hdf21 := hdf21.upd0 hU64
 replace hb19 := hb19.upd0 hU64
 replace ht := ht.upd0 hU64
 replace hb1 := hb1.upd0 hU64
 replace hb2 := hb2.upd0 hU64
 replace hS8 := hS8.upd0 hU64
 replace hP8 := hP8.upd0 hU64
 replace hb9 := hb9.upd0 hU64
 replace hBl11 := hBl11.upd0 hU64
 replace hT11 := hT11.upd0 hU64
 replace hb17 := hb17.upd0 hU64
 replace HU := HU.trans0 hU64
 replace hb61 := hb61.upd0 hU64
 refine Wl_store (v := .int .i64 0) (cs' := [.int .i64 0]) sizeOf3 rfl rfl rfl rfl hb64 rfl rfl ?_
 intro w65 hU65 hzz65 hb64n
 replace hb64 := hb64n; clear hb64n
 have hzw65 := hU65.size
 replace hdf21 := hdf21.upd1 hU65 (by omega)
 replace hb19 := hb19.upd1 hU65 (by omega)
 replace ht := ht.upd1 hU65 (by omega)
 replace hb1 := hb1.upd1 hU65 (by omega)
 replace hb2 := hb2.upd1 hU65 (by omega)
 replace hS8 := hS8.upd1 hU65 (show ¬ ((w6.heap.size ≤ B64 ∧ B64 < w7.heap.size)) by omega)
 replace hP8 := hP8.upd1 hU65 (by omega)
 replace hb9 := hb9.upd1 hU65 (by omega)
 replace hBl11 := hBl11.upd1 hU65 (by omega)
 replace hT11 := hT11.upd1 hU65 (by omega)
 replace hb17 := hb17.upd1 hU65 (by omega)
 replace HU := HU.t1 hU65 (by omega)
 replace hb61 := hb61.upd1 hU65 (by omega)
 refine Wl_nil (W_seq (W_seq (W_region ?_)))
 refine Wmv (.func (.func 37) #[] #[.pointer (some ⟨Bl11, 0, none⟩)]) ?_
 refine Wl_nil (W_block ?_)
 refine W_range (gf := 37) (ar := fun y => #[y, .pointer (some ⟨Bl11, 0, none⟩)]) rfl call37 (fun y => by simp) ?_
 intro D66 fn66 w66 hD66 hU66 hzz66 hdf66 hrc660
 have hzw66 := hU66.size
 replace hdf21 := hdf21.upd0 hU66
 replace hb19 := hb19.upd0 hU66
 replace ht := ht.upd0 hU66
 replace hb1 := hb1.upd0 hU66
 replace hb2 := hb2.upd0 hU66
 replace hS8 := hS8.upd0 hU66
 replace hP8 := hP8.upd0 hU66
 replace hb9 := hb9.upd0 hU66
 replace hBl11 := hBl11.upd0 hU66
 replace hT11 := hT11.upd0 hU66
 replace hb17 := hb17.upd0 hU66
 replace HU := HU.trans0 hU66
 replace hb61 := hb61.upd0 hU66
 replace hb64 := hb64.upd0 hU66
 obtain ⟨r66, hr66, hrc66⟩ : ∃ r, r = _ ∧ Rec w66 (D66 + 1) r := ⟨_, rfl, hrc660⟩
 clear hrc660
 obtain ⟨J66, hJ66⟩ : ∃ J : Nat → World → Prop, ∀ i w', J i w' ↔ (Rec w' (D66 + 1) r66 ∧ Dfr w' D66 ∧ Blk w' B64 [.int .i64 ((i : Nat) : Int)] ∧ Dfr w' D21 ∧ Blk w' B19 [.int .i64 (((ij : Nat) : Int) + 1)] ∧ Tab w' g0 ∧ Blk w' B1 [.int .i64 many] ∧ Blk w' B2 [.bool false] ∧ Sl w' (fun g => (w6.heap.size ≤ g ∧ g < w7.heap.size)) 10 (.slice a7 m7 c7) m7 (rows encP vs8) ∧ Pbs w' w6.heap.size w7.heap.size w7.heap.size vs8 ∧ Blk w' B9 [.slice a7 m7 c7] ∧ Blk w' Bl11 [.slice a11 m11 c11] ∧ Pts w' w10.heap.size G11 a11 m11 c11 ((ga bs 0).1) ∧ Blk w' B17 [.int .i64 0] ∧ Blk w' B61 [.int .i64 1] ∧ Upd No w w') := ⟨_, fun _ _ => Iff.rfl⟩
 obtain ⟨Jx66, hJx66⟩ : ∃ Jx : World → Prop, ∀ w', Jx w' ↔ (False) := ⟨_, fun _ => Iff.rfl⟩
 refine (each1_it (ly := (D66 + 1)) (J := J66) (Jx := Jx66) (Sb := (fun g => g = B64 ∨ g = D66 + 1)) w66 hBl11 hT11 (by omega) (by omega) (fun j => (ga_okd hb (by omega) j).1.bn) (by intro g h1 h2 h4; have h5 : g = B64 ∨ g = D66 + 1 := h4; omega) (by intro h4; have h5 : Bl11 = B64 ∨ Bl11 = D66 + 1 := h4; omega) (by intro g h1 h4; have h5 : g = B64 ∨ g = D66 + 1 := h4; omega) ?_ ?_ ?_ ?_).mono ?_
 ·exact (hJ66 _ _).2 ⟨hrc66, hdf66, hb64, hdf21, hb19, ht, hb1, hb2, hS8, hP8, hb9, hBl11, hT11, hb17, hb61, HU⟩
 ·intro i wa wb hh hUs
  obtain ⟨hrc66, hdf66, hb64, hdf21, hb19, ht, hb1, hb2, hS8, hP8, hb9, hBl11, hT11, hb17, hb61, HU⟩ := (hJ66 _ _).1 hh
  replace hrc66 := hrc66.upd hUs (by show ¬ (_ ≤ _); omega)
  replace hdf66 := hdf66.upd hUs (by show ¬ (_ ≤ _); omega)
  replace hb64 := hb64.upd hUs (by show ¬ (_ ≤ _); omega)
  replace hdf21 := hdf21.upd hUs (by show ¬ (_ ≤ _); omega)
  replace hb19 := hb19.upd hUs (by show ¬ (_ ≤ _); omega)
  replace ht := ht.upd hUs (by intro x hx; have hx2 : w66.heap.size ≤ x := hx; omega)
  replace hb1 := hb1.upd hUs (by show ¬ (_ ≤ _); omega)
  replace hb2 := hb2.upd hUs (by show ¬ (_ ≤ _); omega)
  replace hS8 := hS8.upd hUs (by intro x h1 h2; have h3 : (w6.heap.size ≤ x ∧ x < w7.heap.size) := h1; have h4 : w66.heap.size ≤ x := h2; omega)
  replace hP8 := hP8.upd hUs (by intro x hx; have hx2 : w66.heap.size ≤ x := hx; omega)
  replace hb9 := hb9.upd hUs (by show ¬ (_ ≤ _); omega)
  replace hBl11 := hBl11.upd hUs (by show ¬ (_ ≤ _); omega)
  replace hT11 := hT11.upd hUs (by intro x hx; have hx2 : w66.heap.size ≤ x := hx; omega)
  replace hb17 := hb17.upd hUs (by show ¬ (_ ≤ _); omega)
  replace hb61 := hb61.upd hUs (by show ¬ (_ ≤ _); omega)
  replace HU := HU.trans hUs (by intro x hx; have hx2 : w66.heap.size ≤ x := hx; show (False) ∨ w.heap.size ≤ x; omega)
  exact (hJ66 _ _).2 ⟨hrc66, hdf66, hb64, hdf21, hb19, ht, hb1, hb2, hS8, hP8, hb9, hBl11, hT11, hb17, hb61, HU⟩
 ·intro wa wb hh hUs
  exact ((hJx66 _).1 hh).elim
 ·intro i67 w67 hi67 hh
  obtain ⟨hrc66, hdf66, hb64, hdf21, hb19, ht, hb1, hb2, hS8, hP8, hb9, hBl11, hT11, hb17, hb61, HU⟩ := (hJ66 _ _).1 hh
  have hrl66 := hrc66.lt
  intro ax mx cx hsx
  replace hsx := hsx.tight
  have hl_hsx := rlen encK_len (by decide) hsx
  have hc_hsx := hsx.cap.1
  have hokx := (ga_okd hb (by omega) i67).1.bn
  have HB66 : Upd (fun g => g = B64 ∨ g = D66 + 1) w67 w67 := Upd.refl _ _
  refine yieldC_of_W (R := fun b c w' => (b = true ∧ Upd (fun g => g = B64 ∨ g = D66 + 1) w67 w' ∧ J66 (i67 + 1) w') ∨ (b = false ∧ Upd (fun g => g = B64 ∨ g = D66 + 1) w67 w' ∧ Jx66 w')) hrc66 (by rw [hr66]; rfl) (by rw [hr66]; exact zip2 _ _ _ _ _ _) ?_ ?_
  ·rw [hr66]
   refine W_seq (W_region ?_)
   refine Was (.int .i64 ((i67 : Nat) : Int)) ?_
   refine Wl_nil (W_region ?_)
   refine Wl_alloc (cs := [.int .i64 0, .int .i64 0, .bool false, .int .i64 0, .int .i64 0, .int .i64 0, .int .u32 0, .bool false, .slice none 0 0, .int .u32 0]) zeroValue45 rfl ?_
   intro B68 w68 hB68 hU68 hzz68 hb68
   have hzw68 := hU68.size
   replace hrc66 := hrc66.upd0 hU68
   replace hdf66 := hdf66.upd0 hU68
   replace hb64 := hb64.upd0 hU68
   replace hdf21 := hdf21.upd0 hU68
   replace hb19 := hb19.upd0 hU68
   replace ht := ht.upd0 hU68
   replace hb1 := hb1.upd0 hU68
   replace hb2 := hb2.upd0 hU68
   replace hS8 := hS8.upd0 hU68
   replace hP8 := hP8.upd0 hU68
   replace hb9 := hb9.upd0 hU68
   replace hBl11 := hBl11.upd0 hU68
   replace hT11 := hT11.upd0 hU68
   replace hb17 := hb17.upd0 hU68
   replace hb61 := hb61.upd0 hU68
   replace HU := HU.trans0 hU68
   replace hsx := hsx.upd0 hU68
   replace HB66 := HB66.trans0 hU68
   refine Wl_storea (off := 0) (vs := [.int .i64 (((ga bs 0).1.getD i67 pt0).at_), .int .i64 (((ga bs 0).1.getD i67 pt0).sz), .bool (decide (((ga bs 0).1.getD i67 pt0).sk = true)), .int .i64 (((ga bs 0).1.getD i67 pt0).pl), .int .i64 (((ga bs 0).1.getD i67 pt0).hd.1), .int .i64 (((ga bs 0).1.getD i67 pt0).hd.2.1), .int .u32 (((ga bs 0).1.getD i67 pt0).hd.2.2.1), .bool (decide (((ga bs 0).1.getD i67 pt0).hd.2.2.2 = true)), .slice ax mx cx, .int .u32 (((ga bs 0).1.getD i67 pt0).ck)]) (cs' := [.int .i64 (((ga bs 0).1.getD i67 pt0).at_), .int .i64 (((ga bs 0).1.getD i67 pt0).sz), .bool (decide (((ga bs 0).1.getD i67 pt0).sk = true)), .int .i64 (((ga bs 0).1.getD i67 pt0).pl), .int .i64 (((ga bs 0).1.getD i67 pt0).hd.1), .int .i64 (((ga bs 0).1.getD i67 pt0).hd.2.1), .int .u32 (((ga bs 0).1.getD i67 pt0).hd.2.2.1), .bool (decide (((ga bs 0).1.getD i67 pt0).hd.2.2.2 = true)), .slice ax mx cx, .int .u32 (((ga bs 0).1.getD i67 pt0).ck)]) sizeOf45 rfl rfl rfl (by simp only [List.mem_cons, List.not_mem_nil, or_false, forall_eq_or_imp, forall_eq]; exact ⟨rfl, rfl, rfl, rfl, rfl, rfl, rfl, rfl, rfl, rfl⟩) hb68 (by simp) rfl ?_
   intro w69 hU69 hzz69 hb68n
   replace hb68 := hb68n; clear hb68n
   have hzw69 := hU69.size
   replace hrc66 := hrc66.upd1 hU69 (by omega)
   replace hdf66 := hdf66.upd1 hU69 (by omega)
   replace hb64 := hb64.upd1 hU69 (by omega)
   replace hdf21 := hdf21.upd1 hU69 (by omega)
   replace hb19 := hb19.upd1 hU69 (by omega)
   replace ht := ht.upd1 hU69 (by omega)
   replace hb1 := hb1.upd1 hU69 (by omega)
   replace hb2 := hb2.upd1 hU69 (by omega)
   replace hS8 := hS8.upd1 hU69 (show ¬ ((w6.heap.size ≤ B68 ∧ B68 < w7.heap.size)) by omega)
   replace hP8 := hP8.upd1 hU69 (by omega)
   replace hb9 := hb9.upd1 hU69 (by omega)
   replace hBl11 := hBl11.upd1 hU69 (by omega)
   replace hT11 := hT11.upd1 hU69 (by omega)
   replace hb17 := hb17.upd1 hU69 (by omega)
   replace hb61 := hb61.upd1 hU69 (by omega)
   replace HU := HU.t1 hU69 (by omega)
   replace hsx := hsx.upd1 hU69 (show ¬ (((w66.heap.size ≤ B68) ∧ B68 < w67.heap.size)) by omega)
   replace HB66 := HB66.trans1 hU69 (by show (B68 = B64 ∨ B68 = D66 + 1) ∨ w67.heap.size ≤ B68; omega)
   refine Wl_nil ?_
   refine ⟨rfl, _, hrc66, (by rw [hr66]), ?_⟩
   intro w70 hU70 hzz70 hrc66b
   have hzw70 := hU70.size
   replace hdf66 := hdf66.upd1 hU70 (by omega)
   replace hb64 := hb64.upd1 hU70 (by omega)
   replace hdf21 := hdf21.upd1 hU70 (by omega)
   replace hb19 := hb19.upd1 hU70 (by omega)
   replace ht := ht.upd1 hU70 (by omega)
   replace hb1 := hb1.upd1 hU70 (by omega)
   replace hb2 := hb2.upd1 hU70 (by omega)
   replace hS8 := hS8.upd1 hU70 (show ¬ ((w6.heap.size ≤ (D66 + 1) ∧ (D66 + 1) < w7.heap.size)) by omega)
   replace hP8 := hP8.upd1 hU70 (by omega)
   replace hb9 := hb9.upd1 hU70 (by omega)
   replace hBl11 := hBl11.upd1 hU70 (by omega)
   replace hT11 := hT11.upd1 hU70 (by omega)
   replace hb17 := hb17.upd1 hU70 (by omega)
   replace hb61 := hb61.upd1 hU70 (by omega)
   replace HU := HU.trans1 hU70 (by show (False) ∨ w.heap.size ≤ (D66 + 1); omega)
   replace hsx := hsx.upd1 hU70 (show ¬ (((w66.heap.size ≤ (D66 + 1)) ∧ (D66 + 1) < w67.heap.size)) by omega)
   replace HB66 := HB66.trans1 hU70 (by show ((D66 + 1) = B64 ∨ (D66 + 1) = D66 + 1) ∨ w67.heap.size ≤ (D66 + 1); omega)
   replace hb68 := hb68.upd1 hU70 (by omega)
   clear hrc66
   have hrc66 := hrc66b
   clear hrc66b
   refine W_block (W_seq (W_seq ?_))
   refine W_drawt rfl (l0 := tf 0 18) (by kernel_rfl) ?_
   refine Tk 0 (tf 1 18) rfl (YI_v (v := .int .i64 ((i67 : Nat) : Int)) rfl (fun w' hw' => r_mv (v := .int .i64 ((i67 : Nat) : Int)) rfl)) ?_
   refine Tk 1 (tf 2 18) rfl (YI_v (v := .int .i64 ((i67 : Nat) : Int)) rfl (fun w' hw' => r_load isAgg3 rfl (by rw [(hb64.upd0 hw').cell]; rfl))) ?_
   refine Tk 2 (tf 3 18) rfl (YI_v (v := .bool (decide (((i67 : Nat) : Int) ≠ ((i67 : Nat) : Int)))) rfl (fun w' hw' => r_ne rfl rfl)) ?_
   refine Tk 3 (tf 4 18) rfl (YI_v (v := .bool (decide (((i67 : Nat) : Int) ≠ ((i67 : Nat) : Int)))) rfl (fun w' hw' => r_mv (v := .bool (decide (((i67 : Nat) : Int) ≠ ((i67 : Nat) : Int)))) rfl)) ?_
   have q11 : ¬ (((i67 : Nat) : Int) ≠ ((i67 : Nat) : Int)) := (by omega)
   rw [decide_eq_false q11]
   refine Tk 4 (tf 5 18) rfl (YI_v (v := .int .i64 ((i67 : Nat) : Int)) rfl (fun w' hw' => r_load isAgg3 rfl (by rw [(hb64.upd0 hw').cell]; rfl))) ?_
   refine Tk 5 (tf 6 18) rfl (YI_v (v := .slice a7 m7 c7) rfl (fun w' hw' => r_load isAgg29 rfl (by rw [(hb9.upd0 hw').cell]; rfl))) ?_
   refine Tk 6 (tf 7 18) rfl (YI_v (v := .int .i64 ((m7 : Nat) : Int)) rfl (fun w' hw' => r_len underlying29 rfl)) ?_
   refine Tk 7 (tf 8 18) rfl (YI_v (v := .bool (decide (((m7 : Nat) : Int) ≤ ((i67 : Nat) : Int)))) rfl (fun w' hw' => r_ge rfl rfl)) ?_
   refine Tk 8 (tf 9 18) rfl (YI_v rfl (fun w' hw' => r_pick_f (v := .bool (decide (((m7 : Nat) : Int) ≤ ((i67 : Nat) : Int)))) rfl rfl)) ?_
   refine Tk 9 (tf 10 18) rfl (YI_v (v := .bool (decide (((m7 : Nat) : Int) ≤ ((i67 : Nat) : Int)))) rfl (fun w' hw' => r_mv (v := .bool (decide (((m7 : Nat) : Int) ≤ ((i67 : Nat) : Int)))) rfl)) ?_
   have q12 : ¬ (((m7 : Nat) : Int) ≤ ((i67 : Nat) : Int)) := (by omega)
   rw [decide_eq_false q12]
   refine Tk 10 (tf 11 18) rfl (YI_v (v := .agg #[.int .i64 (((ga bs 0).1.getD i67 pt0).at_), .int .i64 (((ga bs 0).1.getD i67 pt0).sz), .bool (decide (((ga bs 0).1.getD i67 pt0).sk = true)), .int .i64 (((ga bs 0).1.getD i67 pt0).pl), .int .i64 (((ga bs 0).1.getD i67 pt0).hd.1), .int .i64 (((ga bs 0).1.getD i67 pt0).hd.2.1), .int .u32 (((ga bs 0).1.getD i67 pt0).hd.2.2.1), .bool (decide (((ga bs 0).1.getD i67 pt0).hd.2.2.2 = true)), .slice ax mx cx, .int .u32 (((ga bs 0).1.getD i67 pt0).ck)]) rfl (fun w' hw' => r_loada (b := B68) (off := 0) (cs := [.int .i64 (((ga bs 0).1.getD i67 pt0).at_), .int .i64 (((ga bs 0).1.getD i67 pt0).sz), .bool (decide (((ga bs 0).1.getD i67 pt0).sk = true)), .int .i64 (((ga bs 0).1.getD i67 pt0).pl), .int .i64 (((ga bs 0).1.getD i67 pt0).hd.1), .int .i64 (((ga bs 0).1.getD i67 pt0).hd.2.1), .int .u32 (((ga bs 0).1.getD i67 pt0).hd.2.2.1), .bool (decide (((ga bs 0).1.getD i67 pt0).hd.2.2.2 = true)), .slice ax mx cx, .int .u32 (((ga bs 0).1.getD i67 pt0).ck)]) isAgg45 sizeOf45 rfl rfl (fun j hj => by rw [(hb68.upd0 hw').cell]; match j, hj with | 0, _ => rfl | 1, _ => rfl | 2, _ => rfl | 3, _ => rfl | 4, _ => rfl | 5, _ => rfl | 6, _ => rfl | 7, _ => rfl | 8, _ => rfl | 9, _ => rfl))) ?_
   refine Tk 11 (tf 12 18) rfl (YI_v (v := .slice a7 m7 c7) rfl (fun w' hw' => r_load isAgg29 rfl (by rw [(hb9.upd0 hw').cell]; rfl))) ?_
   refine Tk 12 (tf 13 18) rfl (YI_v (v := .int .i64 ((i67 : Nat) : Int)) rfl (fun w' hw' => r_load isAgg3 rfl (by rw [(hb64.upd0 hw').cell]; rfl))) ?_
   obtain ⟨ib71, io71, ha71, hib71, hc71⟩ := Sl.rat pv0 encP_len (by decide) (hS8) (i := i67) (by omega)
   obtain ⟨ba72, bm72, bc72, hbe72⟩ := gd_part (i := i67) hv8
   rw [hbe72] at hc71
   have hB73 := hPget hP8 hbe72 (by omega)
   have hl_hB73 := rlen encK_len (by decide) hB73
   have hc_hB73 := hB73.cap.1
   have hbq : mx = bm72 := by omega
   subst hbq
   refine Tk 13 (tf 14 18) rfl (YI_v (v := .pointer (some ⟨ib71, io71 + i67 * 10, none⟩)) rfl (fun w' hw' => r_idx (b := ib71) (off := io71) (m := m7) (c := c7) (o' := io71 + i67 * 10) underlying29 sizeOf48 (by rw [← ha71]; rfl) rfl (by omega) (by omega) (by omega))) ?_
   refine Tk 14 (tf 15 18) rfl (YI_v (v := .agg #[.int .i64 (((ga bs 0).1.getD i67 pt0).at_), .int .i64 (((ga bs 0).1.getD i67 pt0).sz), .bool (decide (((ga bs 0).1.getD i67 pt0).sk = true)), .int .i64 (((ga bs 0).1.getD i67 pt0).pl), .int .i64 (((ga bs 0).1.getD i67 pt0).hd.1), .int .i64 (((ga bs 0).1.getD i67 pt0).hd.2.1), .int .u32 (((ga bs 0).1.getD i67 pt0).hd.2.2.1), .bool (decide (((ga bs 0).1.getD i67 pt0).hd.2.2.2 = true)), .slice ba72 mx bc72, .int .u32 (((ga bs 0).1.getD i67 pt0).ck)]) rfl (fun w' hw' => r_loada (cs := [.int .i64 (((ga bs 0).1.getD i67 pt0).at_), .int .i64 (((ga bs 0).1.getD i67 pt0).sz), .bool (decide (((ga bs 0).1.getD i67 pt0).sk = true)), .int .i64 (((ga bs 0).1.getD i67 pt0).pl), .int .i64 (((ga bs 0).1.getD i67 pt0).hd.1), .int .i64 (((ga bs 0).1.getD i67 pt0).hd.2.1), .int .u32 (((ga bs 0).1.getD i67 pt0).hd.2.2.1), .bool (decide (((ga bs 0).1.getD i67 pt0).hd.2.2.2 = true)), .slice ba72 mx bc72, .int .u32 (((ga bs 0).1.getD i67 pt0).ck)]) isAgg48 sizeOf48 rfl rfl (hw'.cellsk rfl hc71))) ?_
   refine Tk 15 (tf 16 18) rfl (YI_c (v := .bool true) rfl (fun w' => r_call2 rfl call21 rfl rfl) (fun w' hw' => same44 w' ((hsx.upd0 hw').any) ((hB73.upd0 hw').any) (by omega))) ?_
   refine Tk 16 (tf 17 18) rfl (YI_v (v := .bool false) rfl (fun w' hw' => r_not (b := true) rfl)) ?_
   refine Tk 17 (tf 18 18) rfl (YI_v rfl (fun w' hw' => r_pick_f (v := .bool false) rfl rfl)) ?_
   intro w74 hU74
   have hzw74 := hU74.size
   replace hrc66 := hrc66.upd0 hU74
   replace hdf66 := hdf66.upd0 hU74
   replace hb64 := hb64.upd0 hU74
   replace hdf21 := hdf21.upd0 hU74
   replace hb19 := hb19.upd0 hU74
   replace ht := ht.upd0 hU74
   replace hb1 := hb1.upd0 hU74
   replace hb2 := hb2.upd0 hU74
   replace hS8 := hS8.upd0 hU74
   replace hP8 := hP8.upd0 hU74
   replace hb9 := hb9.upd0 hU74
   replace hBl11 := hBl11.upd0 hU74
   replace hT11 := hT11.upd0 hU74
   replace hb17 := hb17.upd0 hU74
   replace hb61 := hb61.upd0 hU74
   replace HU := HU.trans0 hU74
   replace HB66 := HB66.trans0 hU74
   refine Wa_done (by kernel_rfl) ?_
   refine W_cond_f rfl ?_
   refine W_skip (W_seq (W_region ?_))
   refine Wl_load (v := .int .i64 ((i67 : Nat) : Int)) isAgg3 rfl hb64 rfl ?_
   refine Wl_v (r_add rfl rfl (wi64 (by omega) (by omega))) ?_
   refine Wl_store (v := .int .i64 (((i67 : Nat) : Int) + 1)) (cs' := [.int .i64 (((i67 : Nat) : Int) + 1)]) sizeOf3 rfl rfl rfl rfl hb64 rfl rfl ?_
   intro w75 hU75 hzz75 hb64n
   replace hb64 := hb64n; clear hb64n
   have hzw75 := hU75.size
   replace hrc66 := hrc66.upd1 hU75 (by omega)
   replace hdf66 := hdf66.upd1 hU75 (by omega)
   replace hdf21 := hdf21.upd1 hU75 (by omega)
   replace hb19 := hb19.upd1 hU75 (by omega)
   replace ht := ht.upd1 hU75 (by omega)
   replace hb1 := hb1.upd1 hU75 (by omega)
   replace hb2 := hb2.upd1 hU75 (by omega)
   replace hS8 := hS8.upd1 hU75 (show ¬ ((w6.heap.size ≤ B64 ∧ B64 < w7.heap.size)) by omega)
   replace hP8 := hP8.upd1 hU75 (by omega)
   replace hb9 := hb9.upd1 hU75 (by omega)
   replace hBl11 := hBl11.upd1 hU75 (by omega)
   replace hT11 := hT11.upd1 hU75 (by omega)
   replace hb17 := hb17.upd1 hU75 (by omega)
   replace hb61 := hb61.upd1 hU75 (by omega)
   replace HU := HU.t1 hU75 (by omega)
   replace HB66 := HB66.trans1 hU75 (by show (B64 = B64 ∨ B64 = D66 + 1) ∨ w67.heap.size ≤ B64; omega)
   refine Wl_nil (W_seq (W_region ?_))
   refine Wl_load (v := .int .i64 1) isAgg3 rfl hb61 rfl ?_
   refine Wl_v (v := .bool false) (r_eq (a := 1) (b := 0) rfl rfl) ?_
   refine Wmv (.bool false) ?_
   refine Wl_guard_f rfl (Wl_guard_f rfl (Wl_guard_f rfl ?_))
   refine Wl_v (r_pick_f (v := .bool false) rfl rfl) ?_
   refine Wl_nil ?_
   refine W_cond_f rfl ?_
   refine W_skip ?_
   refine ⟨rfl, _, hrc66, ?_⟩
   intro w76 hU76 hzz76 hrz
   have hzw76 := hU76.size
   replace hdf66 := hdf66.upd1 hU76 (by omega)
   replace hb64 := hb64.upd1 hU76 (by omega)
   replace hdf21 := hdf21.upd1 hU76 (by omega)
   replace hb19 := hb19.upd1 hU76 (by omega)
   replace ht := ht.upd1 hU76 (by omega)
   replace hb1 := hb1.upd1 hU76 (by omega)
   replace hb2 := hb2.upd1 hU76 (by omega)
   replace hS8 := hS8.upd1 hU76 (show ¬ ((w6.heap.size ≤ (D66 + 1) ∧ (D66 + 1) < w7.heap.size)) by omega)
   replace hP8 := hP8.upd1 hU76 (by omega)
   replace hb9 := hb9.upd1 hU76 (by omega)
   replace hBl11 := hBl11.upd1 hU76 (by omega)
   replace hT11 := hT11.upd1 hU76 (by omega)
   replace hb17 := hb17.upd1 hU76 (by omega)
   replace hb61 := hb61.upd1 hU76 (by omega)
   replace HU := HU.trans1 hU76 (by show (False) ∨ w.heap.size ≤ (D66 + 1); omega)
   replace HB66 := HB66.trans1 hU76 (by show ((D66 + 1) = B64 ∨ (D66 + 1) = D66 + 1) ∨ w67.heap.size ≤ (D66 + 1); omega)
   exact Or.inl ⟨rfl, HB66, (hJ66 _ _).2 ⟨(by rw [hr66]; rw [hr66] at hrz; exact hrz), hdf66, hb64, hdf21, hb19, ht, hb1, hb2, hS8, hP8, hb9, hBl11, hT11, hb17, hb61, HU⟩⟩
  rintro b c w9 (⟨rfl, h1, h2⟩ | ⟨rfl, h1, h2⟩)
  ·exact Or.inl ⟨rfl, h1, h2⟩
  exact Or.inr ⟨rfl, h1, h2⟩
 rintro e w77 ⟨v, rfl, hh | hh⟩
 ·obtain ⟨hrc66, hdf66, hb64, hdf21, hb19, ht, hb1, hb2, hS8, hP8, hb9, hBl11, hT11, hb17, hb61, HU⟩ := (hJ66 _ _).1 hh
  have hrl66 := hrc66.lt
  refine ⟨r66, hrc66, (by rw [hr66]; simp), ?_⟩
  intro w78 hU78 hzz78
  have hzw78 := hU78.size
  replace hdf66 := hdf66.upd1 hU78 (by omega)
  replace hb64 := hb64.upd1 hU78 (by omega)
  replace hdf21 := hdf21.upd1 hU78 (by omega)
  replace ht := ht.upd1 hU78 (by omega)
  replace hb2 := hb2.upd1 hU78 (by omega)
  replace hb9 := hb9.upd1 hU78 (by omega)
  replace hb61 := hb61.upd1 hU78 (by omega)
  replace HU := HU.trans1 hU78 (by show (False) ∨ w.heap.size ≤ (D66 + 1); omega)
  rw [hr66]
  skip
  refine W_seq (W_region ?_)
  refine Wl_load (v := .int .i64 1) isAgg3 rfl hb61 rfl ?_
  refine Wl_v (v := .bool false) (r_eq (a := 1) (b := 0) rfl rfl) ?_
  refine Wmv (.bool false) ?_
  refine Wl_guard_f rfl (Wl_guard_f rfl (Wl_guard_f rfl (Wl_guard_f rfl (Wl_guard_f rfl (Wl_guard_f rfl (Wl_guard_f rfl ?_))))))
  refine Wl_v (r_pick_f (v := .bool false) rfl rfl) ?_
  refine Wmv (.bool false) ?_
  refine Wl_guard_t rfl ?_
  refine Wl_load (v := .int .i64 1) isAgg3 rfl hb61 rfl ?_
  refine Wl_guard_t rfl ?_
  refine Wl_v (v := .bool true) (r_eq (a := 1) (b := 1) rfl rfl) ?_
  refine Wl_guard_t rfl ?_
  refine Wmv (.bool true) ?_
  refine Wl_guard_t rfl ?_
  refine Wl_load (v := .int .i64 (((ga bs 0).1.length : Nat) : Int)) isAgg3 rfl hb64 rfl ?_
  refine Wl_guard_t rfl ?_
  refine Wl_load (v := .slice a7 m7 c7) isAgg29 rfl hb9 rfl ?_
  refine Wl_guard_t rfl ?_
  refine Wl_v (r_len underlying29 rfl) ?_
  refine Wl_guard_t rfl ?_
  refine Wl_v (r_ne rfl rfl) ?_
  refine Wl_guard_t rfl ?_
  refine Wl_v (r_pick_t (v := .bool (decide ((((ga bs 0).1.length : Nat) : Int) ≠ ((m7 : Nat) : Int)))) rfl rfl) ?_
  refine Wl_v (r_pick_f (v := .bool (decide ((((ga bs 0).1.length : Nat) : Int) ≠ ((m7 : Nat) : Int)))) rfl rfl) ?_
  refine Wl_nil ?_
  have q13 : ¬ ((((ga bs 0).1.length : Nat) : Int) ≠ ((m7 : Nat) : Int)) := (by omega)
  rw [decide_eq_false q13]
  refine W_cond_f rfl ?_
  refine W_skip (W_seq (W_seq (W_region ?_)))
  refine Wl_load (v := .int .i64 1) isAgg3 rfl hb61 rfl ?_
  refine Wl_nil (W_region ?_)
  refine Wl_alloc (cs := [.int .i64 0]) zeroValue3 rfl ?_
  intro B79 w79 hB79 hU79 hzz79 hb79
  have hzw79 := hU79.size
  replace hdf66 := hdf66.upd0 hU79
  replace hdf21 := hdf21.upd0 hU79
  replace ht := ht.upd0 hU79
  replace hb2 := hb2.upd0 hU79
  replace HU := HU.trans0 hU79
  refine Wl_store (v := .int .i64 1) (cs' := [.int .i64 1]) sizeOf3 rfl rfl rfl rfl hb79 rfl rfl ?_
  intro w80 hU80 hzz80 hb79n
  replace hb79 := hb79n; clear hb79n
  have hzw80 := hU80.size
  replace hdf66 := hdf66.upd1 hU80 (by omega)
  replace hdf21 := hdf21.upd1 hU80 (by omega)
  replace ht := ht.upd1 hU80 (by omega)
  replace hb2 := hb2.upd1 hU80 (by omega)
  replace HU := HU.t1 hU80 (by omega)
  refine Wl_nil (W_region ?_)
  refine Wl_load (v := .int .i64 1) isAgg3 rfl hb79 rfl ?_
  refine Wl_v (r_add rfl rfl (show IntKind.i64.wrap (1 + 1) = 2 by decide)) ?_
  refine Wl_store (v := .int .i64 2) (cs' := [.int .i64 2]) sizeOf3 rfl rfl rfl rfl hb79 rfl rfl ?_
  intro w81 hU81 hzz81 hb79n
  replace hb79 := hb79n; clear hb79n
  have hzw81 := hU81.size
  replace hdf66 := hdf66.upd1 hU81 (by omega)
  replace hdf21 := hdf21.upd1 hU81 (by omega)
  replace ht := ht.upd1 hU81 (by omega)
  replace hb2 := hb2.upd1 hU81 (by omega)
  replace HU := HU.t1 hU81 (by omega)
  refine Wl_nil (W_seq (W_seq (W_region ?_)))
  refine Wl_load (v := .int .i64 2) isAgg3 rfl hb79 rfl ?_
  refine Wl_v (v := .bool false) (r_lt (a := 2) (b := 2) rfl rfl) ?_
  refine Wl_nil ?_
  refine W_cond_f rfl ?_
  refine W_exit ?_
  refine W_seq (W_region ?_)
  refine Wl_call (r_call0 rfl call10 ) (works44 _ ht) ?_
  rintro v w82 ⟨rfl, hU82⟩
  have hzw82 := hU82.size
  replace hdf66 := hdf66.upd0 hU82
  replace hdf21 := hdf21.upd0 hU82
  replace hb2 := hb2.upd0 hU82
  replace HU := HU.trans0 hU82
  refine Wl_store (v := .bool true) (cs' := [.bool true]) sizeOf4 rfl rfl rfl rfl hb2 rfl rfl ?_
  intro w83 hU83 hzz83 hb2n
  replace hb2 := hb2n; clear hb2n
  have hzw83 := hU83.size
  replace hdf66 := hdf66.upd1 hU83 (by omega)
  replace hdf21 := hdf21.upd1 hU83 (by omega)
  replace HU := HU.t1 hU83 (by omega)
  refine Wl_nil ?_
  refine W_ret ?_
  refine ret_ds rfl ?_
  refine lv_mark (by simp) hdf66 ?_
  intro w84 hU84 hzz84
  have hzw84 := hU84.size
  replace hdf21 := hdf21.upd1 hU84 (by omega)
  replace hb2 := hb2.upd1 hU84 (by omega)
  replace HU := HU.t1 hU84 (by omega)
  refine lv_mark (by simp) hdf21 ?_
  intro w85 hU85 hzz85
  have hzw85 := hU85.size
  replace hb2 := hb2.upd1 hU85 (by omega)
  replace HU := HU.t1 hU85 (by omega)
  refine lv_nil (v := .bool true) (rc1 results9 rfl (cellIs isAgg4 hb2)) ?_
  exact ⟨_, rfl, rfl, HU⟩
 exact ((hJx66 _).1 hh).elim
end Go.Proofs.YtbjjhfoeckkacaaDoor
