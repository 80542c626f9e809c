/-
  Several texts of this project, put together.
-/
import Derived.Test.YtbjjhfoeckkacaaDoorGA
import Derived.Test.YtbjjhfoeckkacaaDoorSA
set_option linter.unusedVariables false
set_option linter.unusedSimpArgs false
set_option maxRecDepth 100000
namespace Go.Proofs.YtbjjhfoeckkacaaDoor
open Go.Fw _root_.Go.Proofs.Tryd
theorem read_all {a : Option Addr} {n c : Nat} {bs : List Int} (w : World) (hs : Sl w (fun g => g < w.heap.size) 1 (.slice a n c) n (ints .u8 bs)) (hb : Byt bs) (hm : n ≤ 100000) :
  Calls Tryd.prog 19 #[.slice a n c] w (Dual ((ga bs 0).2 = 0) (Ret fun v w' => ∃ (a' : Option Addr) (m' : Nat) (c' : Nat), v = .tuple #[.slice a' m' c', .int .i64 0] ∧ Pts w' w.heap.size w'.heap.size a' m' c' ((ga bs 0).1) ∧ Upd No w w') (Ret fun v w' => v = .tuple #[.slice none 0 0, .int .i64 ((ga bs 0).2)] ∧ Upd No w w')) := by
 have HU := Upd.rno w
 have hl_hs := ilen hs
 have hc_hs := hs.cap.1
 refine calls_of_W func19 rfl ntmps19 (by simp) ?_
 refine W_seq (W_region ?_)
 refine Was (.slice none 0 0) ?_
 refine Was (.int .i64 0) ?_
 refine Wl_nil (W_seq (W_region ?_))
 refine Wmv (.slice a n c) ?_
 refine Wl_call (r_call1 rfl call36 rfl) (all_spec _ hs.any hb (by omega)) ?_
 rintro v w1 ⟨a1, m1, c1, rfl, hT1, hU1⟩
 have hzw1 := hU1.size
 replace HU := HU.trans0 hU1
 refine Wmv (.tuple #[.slice a1 m1 c1, .int .i64 ((ga bs 0).2)]) ?_
 refine Wl_v (r_ext (v := .slice a1 m1 c1) rfl rfl) ?_
 refine Wl_v (r_ext (v := .int .i64 ((ga bs 0).2)) rfl rfl) ?_
 refine Was (.slice a1 m1 c1) ?_
 refine Was (.int .i64 ((ga bs 0).2)) ?_
 refine Wl_nil (W_seq (W_seq (W_region ?_)))
 refine Wmv (.int .i64 ((ga bs 0).2)) ?_
 refine Wl_v (r_ne rfl rfl) ?_
 refine Wl_nil ?_
 by_cases q1 : ((ga bs 0).2) ≠ 0
 ·rw [decide_eq_true q1]
  refine W_cond_t rfl ?_
  refine W_seq (W_region ?_)
  refine Wmv (.int .i64 ((ga bs 0).2)) ?_
  refine Was (.slice none 0 0) ?_
  refine Was (.int .i64 ((ga bs 0).2)) ?_
  refine Wl_nil ?_
  refine W_ret ?_
  refine ret_end (v := .tuple #[.slice none 0 0, .int .i64 ((ga bs 0).2)]) rfl (res2 results19 rfl rfl) ?_
  exact Or.inr ⟨(fun h2 => q1 h2), _, rfl, rfl, HU⟩
 rw [decide_eq_false q1]
 refine W_cond_f rfl ?_
 refine W_skip (W_seq (W_region ?_))
 refine Wmv (.slice a1 m1 c1) ?_
 refine Was (.slice a1 m1 c1) ?_
 refine Was (.int .i64 0) ?_
 refine Wl_nil ?_
 refine W_ret ?_
 refine ret_end (v := .tuple #[.slice a1 m1 c1, .int .i64 0]) rfl (res2 results19 rfl rfl) ?_
 refine Or.inl ⟨(Classical.not_not.1 q1), ?_⟩
 exact ⟨_, rfl, a1, m1, c1, rfl, (hT1), HU⟩
theorem read_ok {a : Option Addr} {n c : Nat} {bs : List Int} (w : World) (hs : Sl w (fun g => g < w.heap.size) 1 (.slice a n c) n (ints .u8 bs)) (hb : Byt bs) (hm : n ≤ 100000) (he : (ga bs 0).2 = 0) :
  Calls Tryd.prog 19 #[.slice a n c] w (Ret fun v w' => ∃ (a' : Option Addr) (m' : Nat) (c' : Nat), v = .tuple #[.slice a' m' c', .int .i64 0] ∧ Pts w' w.heap.size w'.heap.size a' m' c' ((ga bs 0).1) ∧ Upd No w w') :=
 (read_all w hs hb hm).mono fun e w1 h => Or.elim h (fun h => h.2) (fun h => absurd he h.1)
theorem read_no {a : Option Addr} {n c : Nat} {bs : List Int} (w : World) (hs : Sl w (fun g => g < w.heap.size) 1 (.slice a n c) n (ints .u8 bs)) (hb : Byt bs) (hm : n ≤ 100000) (he : ¬ (ga bs 0).2 = 0) :
  Calls Tryd.prog 19 #[.slice a n c] w (Ret fun v w' => v = .tuple #[.slice none 0 0, .int .i64 ((ga bs 0).2)] ∧ Upd No w w') :=
 (read_all w hs hb hm).mono fun e w1 h => Or.elim h (fun h => absurd h.1 he) (fun h => h.2)
theorem gd_part {vs : List PV} {L : List PT} {i : Nat} (h : vs.map (·.1) = L) : ∃ a m c, vs.getD i pv0 = (L.getD i pt0, a, m, c) := ⟨_, _, _, by rw [← h, map_gd]⟩
theorem hPget {w : World} {lo hi go : Nat} {vs : List PV} {i : Nat} {p : PT} {a : Option Addr} {m c : Nat} (h : Pbs w lo hi go vs) (he : vs.getD i pv0 = (p, a, m, c)) (hi2 : i < vs.length) :
  Sl w (fun g => lo ≤ g ∧ g < hi ∧ g ≠ go) 5 (.slice a m c) m (rows encK p.bl) := by
 have h1 := h.get hi2
 rw [he] at h1
 exact h1
theorem adds_0 {pt : Nat} {t : T7} {x : BK} (w : World) (hp : Blk w pt [.int .i64 t.1, .int .i64 t.2.1, .int .i64 t.2.2.1, .int .i64 t.2.2.2.1, .int .i64 t.2.2.2.2.1, .int .i64 t.2.2.2.2.2.1, .int .i64 t.2.2.2.2.2.2]) (ht : tbd t 4000000000000000) (hx : smB x) (hk : x.2.1 = 0) :
  Calls Tryd.prog 24 #[.pointer (some ⟨pt, 0, none⟩), .agg #[.int .i64 x.1, .int .i64 x.2.1, .int .i64 x.2.2.1, .int .i64 x.2.2.2.1, .bool (decide (x.2.2.2.2 = true))]] w (Ret fun v w' => v = .tuple #[] ∧ Blk w' pt [.int .i64 ((cb t x).1), .int .i64 ((cb t x).2.1), .int .i64 ((cb t x).2.2.1), .int .i64 ((cb t x).2.2.2.1), .int .i64 ((cb t x).2.2.2.2.1), .int .i64 ((cb t x).2.2.2.2.2.1), .int .i64 ((cb t x).2.2.2.2.2.2)] ∧ Upd (Is pt) w w') := by
 have HU : Upd (fun b => b = pt) w w := Upd.refl _ _
 have hbl_hp := hp.lt
 obtain ⟨a1, a2, a3, a4, a5, a6, a7⟩ := ht
 obtain ⟨hx1, hx2, hx3⟩ := hx
 refine calls_of_W func24 rfl ntmps24 (by simp) ?_
 refine W_seq (W_region ?_)
 refine Wl_box (v := .agg #[.int .i64 x.1, .int .i64 x.2.1, .int .i64 x.2.2.1, .int .i64 x.2.2.2.1, .bool (decide (x.2.2.2.2 = true))]) (cs := [.int .i64 x.1, .int .i64 x.2.1, .int .i64 x.2.2.1, .int .i64 x.2.2.2.1, .bool (decide (x.2.2.2.2 = true))]) rfl rfl ?_
 intro B1 w1 hB1 hU1 hzz1 hb1
 have hzw1 := hU1.size
 replace hp := hp.upd0 hU1
 replace HU := HU.trans0 hU1
 refine Wl_nil (W_seq ?_)
 refine W_drawt rfl (l0 := tf 0 12) (by kernel_rfl) ?_
 refine Tk 0 (tf 1 12) rfl (YI_v (v := .pointer (some ⟨pt, 0, none⟩)) rfl (fun w' hw' => r_mv (v := .pointer (some ⟨pt, 0, none⟩)) rfl)) ?_
 refine Tk 1 (tf 2 12) rfl (YI_v (v := .pointer (some ⟨pt, 0, none⟩)) rfl (fun w' hw' => r_nil rfl)) ?_
 refine Tk 2 (tf 3 12) rfl (YI_v (v := .pointer (some ⟨pt, 2, none⟩)) rfl (fun w' hw' => r_fld underlying25 rfl sizeOf3 rfl rfl)) ?_
 refine Tk 3 (tf 4 12) rfl (YI_v (v := .pointer (some ⟨pt, 0, none⟩)) rfl (fun w' hw' => r_mv (v := .pointer (some ⟨pt, 0, none⟩)) rfl)) ?_
 refine Tk 4 (tf 5 12) rfl (YI_v (v := .pointer (some ⟨pt, 0, none⟩)) rfl (fun w' hw' => r_nil rfl)) ?_
 refine Tk 5 (tf 6 12) rfl (YI_v (v := .pointer (some ⟨pt, 3, none⟩)) rfl (fun w' hw' => r_fld underlying25 rfl sizeOf3 rfl rfl)) ?_
 refine Tk 6 (tf 7 12) rfl (YI_v (v := .pointer (some ⟨pt, 0, none⟩)) rfl (fun w' hw' => r_mv (v := .pointer (some ⟨pt, 0, none⟩)) rfl)) ?_
 refine Tk 7 (tf 8 12) rfl (YI_v (v := .pointer (some ⟨pt, 0, none⟩)) rfl (fun w' hw' => r_nil rfl)) ?_
 refine Tk 8 (tf 9 12) rfl (YI_v (v := .pointer (some ⟨pt, 4, none⟩)) rfl (fun w' hw' => r_fld underlying25 rfl sizeOf3 rfl rfl)) ?_
 refine Tk 9 (tf 10 12) rfl (YI_v (v := .agg #[.pointer (some ⟨pt, 2, none⟩), .pointer (some ⟨pt, 3, none⟩), .pointer (some ⟨pt, 4, none⟩)]) rfl (fun w' hw' => r_builda (pv := [(0, .pointer (some ⟨pt, 2, none⟩)), (1, .pointer (some ⟨pt, 3, none⟩)), (2, .pointer (some ⟨pt, 4, none⟩))]) (cs := #[.pointer (some ⟨pt, 2, none⟩), .pointer (some ⟨pt, 3, none⟩), .pointer (some ⟨pt, 4, none⟩)]) zeroValue98 underlying98 sizeOf97 (by simp only [List.map_toArray, List.map_cons, List.map_nil] <;> rfl) (by kernel_rfl))) ?_
 intro w2 hU2
 have hzw2 := hU2.size
 replace hp := hp.upd0 hU2
 replace HU := HU.trans0 hU2
 replace hb1 := hb1.upd0 hU2
 refine Wa_one (i := 10) (listed' := tf 11 12) (by kernel_rfl) rfl (by kernel_rfl) ?_
 refine Ws_of_Wl ?_
 have hW : Upd No w1 w2 := hU2
 refine Wl_alloc (cs := [.pointer none, .pointer none, .pointer none]) zeroValue98 rfl ?_
 intro B3 w3 hB3 hU3 hzz3 hb3
 have hzw3 := hU3.size
 replace hp := hp.upd0 hU3
 replace HU := HU.trans0 hU3
 replace hb1 := hb1.upd0 hU3
 try replace hW := hW.trans0 hU3
 refine Wl_nil ?_
 intro w4 hS4
 have hX : Upd No w1 w4 := hW.trans0 hS4.upd
 refine ⟨fun _ => ⟨hX, ?_⟩, fun h => absurd h (by rw [show barOp _ 10 = false from by kernel_rfl]; simp)⟩
 have hU4 := hS4.upd
 have hzw4 := hU4.size
 replace hp := hp.upd0 hU4
 replace HU := HU.trans0 hU4
 replace hb1 := hb1.upd0 hU4
 replace hb3 := hb3.upd0 hU4
 try replace hW := hW.trans0 hU4
 refine Wt_base hX ?_
 intro w5 hU5
 have hzw5 := hU5.size
 replace hp := hp.upd0 hU5
 replace HU := HU.trans0 hU5
 replace hb1 := hb1.upd0 hU5
 replace hb3 := hb3.upd0 hU5
 try replace hW := hW.trans0 hU5
 refine Wa_one (i := 11) (listed' := tf 12 12) (by kernel_rfl) rfl (by kernel_rfl) ?_
 refine Ws_of_Wl ?_
 have hW : Upd No w4 w5 := hU5
 refine Wl_storea (off := 0) (vs := [.pointer (some ⟨pt, 2, none⟩), .pointer (some ⟨pt, 3, none⟩), .pointer (some ⟨pt, 4, none⟩)]) (cs' := [.pointer (some ⟨pt, 2, none⟩), .pointer (some ⟨pt, 3, none⟩), .pointer (some ⟨pt, 4, none⟩)]) sizeOf98 rfl rfl rfl (by simp only [List.mem_cons, List.not_mem_nil, or_false, forall_eq_or_imp, forall_eq]; exact ⟨rfl, rfl, rfl⟩) hb3 (by simp) rfl ?_
 intro w6 hU6 hzz6 hb3n
 replace hb3 := hb3n; clear hb3n
 have hzw6 := hU6.size
 replace hp := hp.upd1 hU6 (by omega)
 replace HU := HU.trans1 hU6 (by show (B3 = pt) ∨ w.heap.size ≤ B3; omega)
 replace hb1 := hb1.upd1 hU6 (by omega)
 refine Wl_nil ?_
 intro w7 hS7
 refine ⟨fun h => absurd h (by rw [show barOp _ 11 = true from by kernel_rfl]; simp), fun _ => ⟨Upd No w7, ?_⟩⟩
 have hU7 := hS7.upd
 have hzw7 := hU7.size
 replace hp := hp.upd0 hU7
 replace HU := HU.trans0 hU7
 replace hb1 := hb1.upd0 hU7
 replace hb3 := hb3.upd0 hU7
 try replace hW := hW.trans0 hU7
 refine Wa_done (by kernel_rfl) ?_
 refine W_seq (W_region ?_)
 refine Wl_v (r_fld underlying51 rfl sizeOf49 rfl rfl) ?_
 refine Wl_load (v := .int .i64 x.2.1) isAgg49 rfl hb1 rfl ?_
 rw [show (x.2.1 : Int) = 0 from hk]
 refine Wl_v (r_idxa (len := 3) (i' := 0) (o' := 0) underlying98 sizeOf97 rfl rfl (by omega) (by omega) (by omega)) ?_
 refine Wl_load (v := .pointer (some ⟨pt, 2, none⟩)) isAgg97 rfl hb3 rfl ?_
 refine Wl_v (r_nil rfl) ?_
 refine Wl_load (v := .int .i64 t.2.2.1) isAgg3 rfl hp rfl ?_
 refine Wl_v (r_add rfl rfl (wi64 (by omega) (by omega))) ?_
 refine Wl_v (r_nil rfl) ?_
 refine Wl_store (v := .int .i64 (t.2.2.1 + 1)) (cs' := [.int .i64 t.1, .int .i64 t.2.1, .int .i64 (t.2.2.1 + 1), .int .i64 t.2.2.2.1, .int .i64 t.2.2.2.2.1, .int .i64 t.2.2.2.2.2.1, .int .i64 t.2.2.2.2.2.2]) sizeOf3 rfl rfl rfl rfl hp rfl rfl ?_
 intro w8 hU8 hzz8 hpn
 replace hp := hpn; clear hpn
 have hzw8 := hU8.size
 replace HU := HU.trans1 hU8 (by show (pt = pt) ∨ w.heap.size ≤ pt; omega)
 replace hb1 := hb1.upd1 hU8 (by omega)
 refine Wl_nil (W_seq ?_)
 refine W_drawt rfl (l0 := tf 0 10) (by kernel_rfl) ?_
 refine Tk 0 (tf 1 10) rfl (YI_v (v := .pointer (some ⟨pt, 0, none⟩)) rfl (fun w' hw' => r_mv (v := .pointer (some ⟨pt, 0, none⟩)) rfl)) ?_
 refine Tk 1 (tf 2 10) rfl (YI_v (v := .pointer (some ⟨pt, 0, none⟩)) rfl (fun w' hw' => r_nil rfl)) ?_
 refine Tk 2 (tf 3 10) rfl (YI_v (v := .pointer (some ⟨pt, 6, none⟩)) rfl (fun w' hw' => r_fld underlying25 rfl sizeOf3 rfl rfl)) ?_
 refine Tk 3 (tf 4 10) rfl (YI_v (v := .int .i64 t.2.2.2.2.2.2) rfl (fun w' hw' => r_load isAgg3 rfl (by rw [(hp.upd0 hw').cell]; rfl))) ?_
 refine Tk 4 (tf 5 10) rfl (YI_v (v := .pointer (some ⟨B1, 3, none⟩)) rfl (fun w' hw' => r_fld underlying51 rfl sizeOf3 rfl rfl)) ?_
 refine Tk 5 (tf 6 10) rfl (YI_v (v := .int .i64 x.2.2.2.1) rfl (fun w' hw' => r_load isAgg3 rfl (by rw [(hb1.upd0 hw').cell]; rfl))) ?_
 refine Tk 6 (tf 7 10) rfl (YI_v (v := .int .i64 (t.2.2.2.2.2.2 + x.2.2.2.1)) rfl (fun w' hw' => r_add rfl rfl (wi64 (by omega) (by omega)))) ?_
 refine Tk 7 (tf 8 10) rfl (YI_v (v := .pointer (some ⟨pt, 0, none⟩)) rfl (fun w' hw' => r_nil rfl)) ?_
 refine Tk 8 (tf 9 10) rfl (YI_v (v := .pointer (some ⟨pt, 6, none⟩)) rfl (fun w' hw' => r_fld underlying25 rfl sizeOf3 rfl rfl)) ?_
 intro w9 hU9
 have hzw9 := hU9.size
 replace hp := hp.upd0 hU9
 replace HU := HU.trans0 hU9
 replace hb1 := hb1.upd0 hU9
 try replace hW := hW.trans0 hU9
 refine Wa_one (i := 9) (listed' := tf 10 10) (by kernel_rfl) rfl (by kernel_rfl) ?_
 refine Ws_of_Wl ?_
 have hW : Upd No w8 w9 := hU9
 refine Wl_store (v := .int .i64 (t.2.2.2.2.2.2 + x.2.2.2.1)) (cs' := [.int .i64 t.1, .int .i64 t.2.1, .int .i64 (t.2.2.1 + 1), .int .i64 t.2.2.2.1, .int .i64 t.2.2.2.2.1, .int .i64 t.2.2.2.2.2.1, .int .i64 (t.2.2.2.2.2.2 + x.2.2.2.1)]) sizeOf3 rfl rfl rfl rfl hp rfl rfl ?_
 intro w10 hU10 hzz10 hpn
 replace hp := hpn; clear hpn
 have hzw10 := hU10.size
 replace HU := HU.trans1 hU10 (by show (pt = pt) ∨ w.heap.size ≤ pt; omega)
 replace hb1 := hb1.upd1 hU10 (by omega)
 refine Wl_nil ?_
 intro w11 hS11
 refine ⟨fun h => absurd h (by rw [show barOp _ 9 = true from by kernel_rfl]; simp), fun _ => ⟨Upd No w11, ?_⟩⟩
 have hU11 := hS11.upd
 have hzw11 := hU11.size
 replace hp := hp.upd0 hU11
 replace HU := HU.trans0 hU11
 replace hb1 := hb1.upd0 hU11
 try replace hW := hW.trans0 hU11
 refine Wa_done (by kernel_rfl) ?_
 refine W_seq (W_region ?_)
 refine Wl_v (r_fld underlying51 rfl sizeOf49 rfl rfl) ?_
 refine Wl_load (v := .int .i64 x.2.1) isAgg49 rfl hb1 rfl ?_
 rw [show (x.2.1 : Int) = 0 from hk]
 refine Wl_v (v := .bool true) (r_ne (a := 0) (b := 2) rfl rfl) ?_
 refine Wl_nil ?_
 refine W_cond_t rfl ?_
 refine W_drawt rfl (l0 := tf 0 10) (by kernel_rfl) ?_
 refine Tk 0 (tf 1 10) rfl (YI_v (v := .pointer (some ⟨pt, 0, none⟩)) rfl (fun w' hw' => r_mv (v := .pointer (some ⟨pt, 0, none⟩)) rfl)) ?_
 refine Tk 1 (tf 2 10) rfl (YI_v (v := .pointer (some ⟨pt, 0, none⟩)) rfl (fun w' hw' => r_nil rfl)) ?_
 refine Tk 2 (tf 3 10) rfl (YI_v (v := .pointer (some ⟨pt, 5, none⟩)) rfl (fun w' hw' => r_fld underlying25 rfl sizeOf3 rfl rfl)) ?_
 refine Tk 3 (tf 4 10) rfl (YI_v (v := .int .i64 t.2.2.2.2.2.1) rfl (fun w' hw' => r_load isAgg3 rfl (by rw [(hp.upd0 hw').cell]; rfl))) ?_
 refine Tk 4 (tf 5 10) rfl (YI_v (v := .pointer (some ⟨B1, 2, none⟩)) rfl (fun w' hw' => r_fld underlying51 rfl sizeOf3 rfl rfl)) ?_
 refine Tk 5 (tf 6 10) rfl (YI_v (v := .int .i64 x.2.2.1) rfl (fun w' hw' => r_load isAgg3 rfl (by rw [(hb1.upd0 hw').cell]; rfl))) ?_
 refine Tk 6 (tf 7 10) rfl (YI_v (v := .int .i64 (t.2.2.2.2.2.1 + x.2.2.1)) rfl (fun w' hw' => r_add rfl rfl (wi64 (by omega) (by omega)))) ?_
 refine Tk 7 (tf 8 10) rfl (YI_v (v := .pointer (some ⟨pt, 0, none⟩)) rfl (fun w' hw' => r_nil rfl)) ?_
 refine Tk 8 (tf 9 10) rfl (YI_v (v := .pointer (some ⟨pt, 5, none⟩)) rfl (fun w' hw' => r_fld underlying25 rfl sizeOf3 rfl rfl)) ?_
 intro w12 hU12
 have hzw12 := hU12.size
 replace hp := hp.upd0 hU12
 replace HU := HU.trans0 hU12
 try replace hW := hW.trans0 hU12
 refine Wa_one (i := 9) (listed' := tf 10 10) (by kernel_rfl) rfl (by kernel_rfl) ?_
 refine Ws_of_Wl ?_
 have hW : Upd No w11 w12 := hU12
 refine Wl_store (v := .int .i64 (t.2.2.2.2.2.1 + x.2.2.1)) (cs' := [.int .i64 t.1, .int .i64 t.2.1, .int .i64 (t.2.2.1 + 1), .int .i64 t.2.2.2.1, .int .i64 t.2.2.2.2.1, .int .i64 (t.2.2.2.2.2.1 + x.2.2.1), .int .i64 (t.2.2.2.2.2.2 + x.2.2.2.1)]) sizeOf3 rfl rfl rfl rfl hp rfl rfl ?_
 intro w13 hU13 hzz13 hpn
 replace hp := hpn; clear hpn
 have hzw13 := hU13.size
 replace HU := HU.trans1 hU13 (by show (pt = pt) ∨ w.heap.size ≤ pt; omega)
 refine Wl_nil ?_
 intro w14 hS14
 refine ⟨fun h => absurd h (by rw [show barOp _ 9 = true from by kernel_rfl]; simp), fun _ => ⟨Upd No w14, ?_⟩⟩
 have hU14 := hS14.upd
 have hzw14 := hU14.size
 replace hp := hp.upd0 hU14
 replace HU := HU.trans0 hU14
 try replace hW := hW.trans0 hU14
 refine Wa_done (by kernel_rfl) ?_
 refine nrm_end (v := .tuple #[]) rfl (res0 results24) ?_
 exact ⟨_, rfl, rfl, (by rw [cb_0 hk]; exact hp), HU⟩
theorem adds_1 {pt : Nat} {t : T7} {x : BK} (w : World) (hp : Blk w pt [.int .i64 t.1, .int .i64 t.2.1, .int .i64 t.2.2.1, .int .i64 t.2.2.2.1, .int .i64 t.2.2.2.2.1, .int .i64 t.2.2.2.2.2.1, .int .i64 t.2.2.2.2.2.2]) (ht : tbd t 4000000000000000) (hx : smB x) (hk : x.2.1 = 1) :
  Calls Tryd.prog 24 #[.pointer (some ⟨pt, 0, none⟩), .agg #[.int .i64 x.1, .int .i64 x.2.1, .int .i64 x.2.2.1, .int .i64 x.2.2.2.1, .bool (decide (x.2.2.2.2 = true))]] w (Ret fun v w' => v = .tuple #[] ∧ Blk w' pt [.int .i64 ((cb t x).1), .int .i64 ((cb t x).2.1), .int .i64 ((cb t x).2.2.1), .int .i64 ((cb t x).2.2.2.1), .int .i64 ((cb t x).2.2.2.2.1), .int .i64 ((cb t x).2.2.2.2.2.1), .int .i64 ((cb t x).2.2.2.2.2.2)] ∧ Upd (Is pt) w w') := by
 have HU : Upd (fun b => b = pt) w w := Upd.refl _ _
 have hbl_hp := hp.lt
 obtain ⟨a1, a2, a3, a4, a5, a6, a7⟩ := ht
 obtain ⟨hx1, hx2, hx3⟩ := hx
 refine calls_of_W func24 rfl ntmps24 (by simp) ?_
 refine W_seq (W_region ?_)
 refine Wl_box (v := .agg #[.int .i64 x.1, .int .i64 x.2.1, .int .i64 x.2.2.1, .int .i64 x.2.2.2.1, .bool (decide (x.2.2.2.2 = true))]) (cs := [.int .i64 x.1, .int .i64 x.2.1, .int .i64 x.2.2.1, .int .i64 x.2.2.2.1, .bool (decide (x.2.2.2.2 = true))]) rfl rfl ?_
 intro B1 w1 hB1 hU1 hzz1 hb1
 have hzw1 := hU1.size
 replace hp := hp.upd0 hU1
 replace HU := HU.trans0 hU1
 refine Wl_nil (W_seq ?_)
 refine W_drawt rfl (l0 := tf 0 12) (by kernel_rfl) ?_
 refine Tk 0 (tf 1 12) rfl (YI_v (v := .pointer (some ⟨pt, 0, none⟩)) rfl (fun w' hw' => r_mv (v := .pointer (some ⟨pt, 0, none⟩)) rfl)) ?_
 refine Tk 1 (tf 2 12) rfl (YI_v (v := .pointer (some ⟨pt, 0, none⟩)) rfl (fun w' hw' => r_nil rfl)) ?_
 refine Tk 2 (tf 3 12) rfl (YI_v (v := .pointer (some ⟨pt, 2, none⟩)) rfl (fun w' hw' => r_fld underlying25 rfl sizeOf3 rfl rfl)) ?_
 refine Tk 3 (tf 4 12) rfl (YI_v (v := .pointer (some ⟨pt, 0, none⟩)) rfl (fun w' hw' => r_mv (v := .pointer (some ⟨pt, 0, none⟩)) rfl)) ?_
 refine Tk 4 (tf 5 12) rfl (YI_v (v := .pointer (some ⟨pt, 0, none⟩)) rfl (fun w' hw' => r_nil rfl)) ?_
 refine Tk 5 (tf 6 12) rfl (YI_v (v := .pointer (some ⟨pt, 3, none⟩)) rfl (fun w' hw' => r_fld underlying25 rfl sizeOf3 rfl rfl)) ?_
 refine Tk 6 (tf 7 12) rfl (YI_v (v := .pointer (some ⟨pt, 0, none⟩)) rfl (fun w' hw' => r_mv (v := .pointer (some ⟨pt, 0, none⟩)) rfl)) ?_
 refine Tk 7 (tf 8 12) rfl (YI_v (v := .pointer (some ⟨pt, 0, none⟩)) rfl (fun w' hw' => r_nil rfl)) ?_
 refine Tk 8 (tf 9 12) rfl (YI_v (v := .pointer (some ⟨pt, 4, none⟩)) rfl (fun w' hw' => r_fld underlying25 rfl sizeOf3 rfl rfl)) ?_
 refine Tk 9 (tf 10 12) rfl (YI_v (v := .agg #[.pointer (some ⟨pt, 2, none⟩), .pointer (some ⟨pt, 3, none⟩), .pointer (some ⟨pt, 4, none⟩)]) rfl (fun w' hw' => r_builda (pv := [(0, .pointer (some ⟨pt, 2, none⟩)), (1, .pointer (some ⟨pt, 3, none⟩)), (2, .pointer (some ⟨pt, 4, none⟩))]) (cs := #[.pointer (some ⟨pt, 2, none⟩), .pointer (some ⟨pt, 3, none⟩), .pointer (some ⟨pt, 4, none⟩)]) zeroValue98 underlying98 sizeOf97 (by simp only [List.map_toArray, List.map_cons, List.map_nil] <;> rfl) (by kernel_rfl))) ?_
 intro w2 hU2
 have hzw2 := hU2.size
 replace hp := hp.upd0 hU2
 replace HU := HU.trans0 hU2
 replace hb1 := hb1.upd0 hU2
 refine Wa_one (i := 10) (listed' := tf 11 12) (by kernel_rfl) rfl (by kernel_rfl) ?_
 refine Ws_of_Wl ?_
 have hW : Upd No w1 w2 := hU2
 refine Wl_alloc (cs := [.pointer none, .pointer none, .pointer none]) zeroValue98 rfl ?_
 intro B3 w3 hB3 hU3 hzz3 hb3
 have hzw3 := hU3.size
 replace hp := hp.upd0 hU3
 replace HU := HU.trans0 hU3
 replace hb1 := hb1.upd0 hU3
 try replace hW := hW.trans0 hU3
 refine Wl_nil ?_
 intro w4 hS4
 have hX : Upd No w1 w4 := hW.trans0 hS4.upd
 refine ⟨fun _ => ⟨hX, ?_⟩, fun h => absurd h (by rw [show barOp _ 10 = false from by kernel_rfl]; simp)⟩
 have hU4 := hS4.upd
 have hzw4 := hU4.size
 replace hp := hp.upd0 hU4
 replace HU := HU.trans0 hU4
 replace hb1 := hb1.upd0 hU4
 replace hb3 := hb3.upd0 hU4
 try replace hW := hW.trans0 hU4
 refine Wt_base hX ?_
 intro w5 hU5
 have hzw5 := hU5.size
 replace hp := hp.upd0 hU5
 replace HU := HU.trans0 hU5
 replace hb1 := hb1.upd0 hU5
 replace hb3 := hb3.upd0 hU5
 try replace hW := hW.trans0 hU5
 refine Wa_one (i := 11) (listed' := tf 12 12) (by kernel_rfl) rfl (by kernel_rfl) ?_
 refine Ws_of_Wl ?_
 have hW : Upd No w4 w5 := hU5
 refine Wl_storea (off := 0) (vs := [.pointer (some ⟨pt, 2, none⟩), .pointer (some ⟨pt, 3, none⟩), .pointer (some ⟨pt, 4, none⟩)]) (cs' := [.pointer (some ⟨pt, 2, none⟩), .pointer (some ⟨pt, 3, none⟩), .pointer (some ⟨pt, 4, none⟩)]) sizeOf98 rfl rfl rfl (by simp only [List.mem_cons, List.not_mem_nil, or_false, forall_eq_or_imp, forall_eq]; exact ⟨rfl, rfl, rfl⟩) hb3 (by simp) rfl ?_
 intro w6 hU6 hzz6 hb3n
 replace hb3 := hb3n; clear hb3n
 have hzw6 := hU6.size
 replace hp := hp.upd1 hU6 (by omega)
 replace HU := HU.trans1 hU6 (by show (B3 = pt) ∨ w.heap.size ≤ B3; omega)
 replace hb1 := hb1.upd1 hU6 (by omega)
 refine Wl_nil ?_
 intro w7 hS7
 refine ⟨fun h => absurd h (by rw [show barOp _ 11 = true from by kernel_rfl]; simp), fun _ => ⟨Upd No w7, ?_⟩⟩
 have hU7 := hS7.upd
 have hzw7 := hU7.size
 replace hp := hp.upd0 hU7
 replace HU := HU.trans0 hU7
 replace hb1 := hb1.upd0 hU7
 replace hb3 := hb3.upd0 hU7
 try replace hW := hW.trans0 hU7
 refine Wa_done (by kernel_rfl) ?_
 refine W_seq (W_region ?_)
 refine Wl_v (r_fld underlying51 rfl sizeOf49 rfl rfl) ?_
 refine Wl_load (v := .int .i64 x.2.1) isAgg49 rfl hb1 rfl ?_
 rw [show (x.2.1 : Int) = 1 from hk]
 refine Wl_v (r_idxa (len := 3) (i' := 1) (o' := 1) underlying98 sizeOf97 rfl rfl (by omega) (by omega) (by omega)) ?_
 refine Wl_load (v := .pointer (some ⟨pt, 3, none⟩)) isAgg97 rfl hb3 rfl ?_
 refine Wl_v (r_nil rfl) ?_
 refine Wl_load (v := .int .i64 t.2.2.2.1) isAgg3 rfl hp rfl ?_
 refine Wl_v (r_add rfl rfl (wi64 (by omega) (by omega))) ?_
 refine Wl_v (r_nil rfl) ?_
 refine Wl_store (v := .int .i64 (t.2.2.2.1 + 1)) (cs' := [.int .i64 t.1, .int .i64 t.2.1, .int .i64 t.2.2.1, .int .i64 (t.2.2.2.1 + 1), .int .i64 t.2.2.2.2.1, .int .i64 t.2.2.2.2.2.1, .int .i64 t.2.2.2.2.2.2]) sizeOf3 rfl rfl rfl rfl hp rfl rfl ?_
 intro w8 hU8 hzz8 hpn
 replace hp := hpn; clear hpn
 have hzw8 := hU8.size
 replace HU := HU.trans1 hU8 (by show (pt = pt) ∨ w.heap.size ≤ pt; omega)
 replace hb1 := hb1.upd1 hU8 (by omega)
 refine Wl_nil (W_seq ?_)
 refine W_drawt rfl (l0 := tf 0 10) (by kernel_rfl) ?_
 refine Tk 0 (tf 1 10) rfl (YI_v (v := .pointer (some ⟨pt, 0, none⟩)) rfl (fun w' hw' => r_mv (v := .pointer (some ⟨pt, 0, none⟩)) rfl)) ?_
 refine Tk 1 (tf 2 10) rfl (YI_v (v := .pointer (some ⟨pt, 0, none⟩)) rfl (fun w' hw' => r_nil rfl)) ?_
 refine Tk 2 (tf 3 10) rfl (YI_v (v := .pointer (some ⟨pt, 6, none⟩)) rfl (fun w' hw' => r_fld underlying25 rfl sizeOf3 rfl rfl)) ?_
 refine Tk 3 (tf 4 10) rfl (YI_v (v := .int .i64 t.2.2.2.2.2.2) rfl (fun w' hw' => r_load isAgg3 rfl (by rw [(hp.upd0 hw').cell]; rfl))) ?_
 refine Tk 4 (tf 5 10) rfl (YI_v (v := .pointer (some ⟨B1, 3, none⟩)) rfl (fun w' hw' => r_fld underlying51 rfl sizeOf3 rfl rfl)) ?_
 refine Tk 5 (tf 6 10) rfl (YI_v (v := .int .i64 x.2.2.2.1) rfl (fun w' hw' => r_load isAgg3 rfl (by rw [(hb1.upd0 hw').cell]; rfl))) ?_
 refine Tk 6 (tf 7 10) rfl (YI_v (v := .int .i64 (t.2.2.2.2.2.2 + x.2.2.2.1)) rfl (fun w' hw' => r_add rfl rfl (wi64 (by omega) (by omega)))) ?_
 refine Tk 7 (tf 8 10) rfl (YI_v (v := .pointer (some ⟨pt, 0, none⟩)) rfl (fun w' hw' => r_nil rfl)) ?_
 refine Tk 8 (tf 9 10) rfl (YI_v (v := .pointer (some ⟨pt, 6, none⟩)) rfl (fun w' hw' => r_fld underlying25 rfl sizeOf3 rfl rfl)) ?_
 intro w9 hU9
 have hzw9 := hU9.size
 replace hp := hp.upd0 hU9
 replace HU := HU.trans0 hU9
 replace hb1 := hb1.upd0 hU9
 try replace hW := hW.trans0 hU9
 refine Wa_one (i := 9) (listed' := tf 10 10) (by kernel_rfl) rfl (by kernel_rfl) ?_
 refine Ws_of_Wl ?_
 have hW : Upd No w8 w9 := hU9
 refine Wl_store (v := .int .i64 (t.2.2.2.2.2.2 + x.2.2.2.1)) (cs' := [.int .i64 t.1, .int .i64 t.2.1, .int .i64 t.2.2.1, .int .i64 (t.2.2.2.1 + 1), .int .i64 t.2.2.2.2.1, .int .i64 t.2.2.2.2.2.1, .int .i64 (t.2.2.2.2.2.2 + x.2.2.2.1)]) sizeOf3 rfl rfl rfl rfl hp rfl rfl ?_
 intro w10 hU10 hzz10 hpn
 replace hp := hpn; clear hpn
 have hzw10 := hU10.size
 replace HU := HU.trans1 hU10 (by show (pt = pt) ∨ w.heap.size ≤ pt; omega)
 replace hb1 := hb1.upd1 hU10 (by omega)
 refine Wl_nil ?_
 intro w11 hS11
 refine ⟨fun h => absurd h (by rw [show barOp _ 9 = true from by kernel_rfl]; simp), fun _ => ⟨Upd No w11, ?_⟩⟩
 have hU11 := hS11.upd
 have hzw11 := hU11.size
 replace hp := hp.upd0 hU11
 replace HU := HU.trans0 hU11
 replace hb1 := hb1.upd0 hU11
 try replace hW := hW.trans0 hU11
 refine Wa_done (by kernel_rfl) ?_
 refine W_seq (W_region ?_)
 refine Wl_v (r_fld underlying51 rfl sizeOf49 rfl rfl) ?_
 refine Wl_load (v := .int .i64 x.2.1) isAgg49 rfl hb1 rfl ?_
 rw [show (x.2.1 : Int) = 1 from hk]
 refine Wl_v (v := .bool true) (r_ne (a := 1) (b := 2) rfl rfl) ?_
 refine Wl_nil ?_
 refine W_cond_t rfl ?_
 refine W_drawt rfl (l0 := tf 0 10) (by kernel_rfl) ?_
 refine Tk 0 (tf 1 10) rfl (YI_v (v := .pointer (some ⟨pt, 0, none⟩)) rfl (fun w' hw' => r_mv (v := .pointer (some ⟨pt, 0, none⟩)) rfl)) ?_
 refine Tk 1 (tf 2 10) rfl (YI_v (v := .pointer (some ⟨pt, 0, none⟩)) rfl (fun w' hw' => r_nil rfl)) ?_
 refine Tk 2 (tf 3 10) rfl (YI_v (v := .pointer (some ⟨pt, 5, none⟩)) rfl (fun w' hw' => r_fld underlying25 rfl sizeOf3 rfl rfl)) ?_
 refine Tk 3 (tf 4 10) rfl (YI_v (v := .int .i64 t.2.2.2.2.2.1) rfl (fun w' hw' => r_load isAgg3 rfl (by rw [(hp.upd0 hw').cell]; rfl))) ?_
 refine Tk 4 (tf 5 10) rfl (YI_v (v := .pointer (some ⟨B1, 2, none⟩)) rfl (fun w' hw' => r_fld underlying51 rfl sizeOf3 rfl rfl)) ?_
 refine Tk 5 (tf 6 10) rfl (YI_v (v := .int .i64 x.2.2.1) rfl (fun w' hw' => r_load isAgg3 rfl (by rw [(hb1.upd0 hw').cell]; rfl))) ?_
 refine Tk 6 (tf 7 10) rfl (YI_v (v := .int .i64 (t.2.2.2.2.2.1 + x.2.2.1)) rfl (fun w' hw' => r_add rfl rfl (wi64 (by omega) (by omega)))) ?_
 refine Tk 7 (tf 8 10) rfl (YI_v (v := .pointer (some ⟨pt, 0, none⟩)) rfl (fun w' hw' => r_nil rfl)) ?_
 refine Tk 8 (tf 9 10) rfl (YI_v (v := .pointer (some ⟨pt, 5, none⟩)) rfl (fun w' hw' => r_fld underlying25 rfl sizeOf3 rfl rfl)) ?_
 intro w12 hU12
 have hzw12 := hU12.size
 replace hp := hp.upd0 hU12
 replace HU := HU.trans0 hU12
 try replace hW := hW.trans0 hU12
 refine Wa_one (i := 9) (listed' := tf 10 10) (by kernel_rfl) rfl (by kernel_rfl) ?_
 refine Ws_of_Wl ?_
 have hW : Upd No w11 w12 := hU12
 refine Wl_store (v := .int .i64 (t.2.2.2.2.2.1 + x.2.2.1)) (cs' := [.int .i64 t.1, .int .i64 t.2.1, .int .i64 t.2.2.1, .int .i64 (t.2.2.2.1 + 1), .int .i64 t.2.2.2.2.1, .int .i64 (t.2.2.2.2.2.1 + x.2.2.1), .int .i64 (t.2.2.2.2.2.2 + x.2.2.2.1)]) sizeOf3 rfl rfl rfl rfl hp rfl rfl ?_
 intro w13 hU13 hzz13 hpn
 replace hp := hpn; clear hpn
 have hzw13 := hU13.size
 replace HU := HU.trans1 hU13 (by show (pt = pt) ∨ w.heap.size ≤ pt; omega)
 refine Wl_nil ?_
 intro w14 hS14
 refine ⟨fun h => absurd h (by rw [show barOp _ 9 = true from by kernel_rfl]; simp), fun _ => ⟨Upd No w14, ?_⟩⟩
 have hU14 := hS14.upd
 have hzw14 := hU14.size
 replace hp := hp.upd0 hU14
 replace HU := HU.trans0 hU14
 try replace hW := hW.trans0 hU14
 refine Wa_done (by kernel_rfl) ?_
 refine nrm_end (v := .tuple #[]) rfl (res0 results24) ?_
 exact ⟨_, rfl, rfl, (by rw [cb_1 hk]; exact hp), HU⟩
theorem adds_2 {pt : Nat} {t : T7} {x : BK} (w : World) (hp : Blk w pt [.int .i64 t.1, .int .i64 t.2.1, .int .i64 t.2.2.1, .int .i64 t.2.2.2.1, .int .i64 t.2.2.2.2.1, .int .i64 t.2.2.2.2.2.1, .int .i64 t.2.2.2.2.2.2]) (ht : tbd t 4000000000000000) (hx : smB x) (hk : x.2.1 = 2) :
  Calls Tryd.prog 24 #[.pointer (some ⟨pt, 0, none⟩), .agg #[.int .i64 x.1, .int .i64 x.2.1, .int .i64 x.2.2.1, .int .i64 x.2.2.2.1, .bool (decide (x.2.2.2.2 = true))]] w (Ret fun v w' => v = .tuple #[] ∧ Blk w' pt [.int .i64 ((cb t x).1), .int .i64 ((cb t x).2.1), .int .i64 ((cb t x).2.2.1), .int .i64 ((cb t x).2.2.2.1), .int .i64 ((cb t x).2.2.2.2.1), .int .i64 ((cb t x).2.2.2.2.2.1), .int .i64 ((cb t x).2.2.2.2.2.2)] ∧ Upd (Is pt) w w') := by
 have HU : Upd (fun b => b = pt) w w := Upd.refl _ _
 have hbl_hp := hp.lt
 obtain ⟨a1, a2, a3, a4, a5, a6, a7⟩ := ht
 obtain ⟨hx1, hx2, hx3⟩ := hx
 refine calls_of_W func24 rfl ntmps24 (by simp) ?_
 refine W_seq (W_region ?_)
 refine Wl_box (v := .agg #[.int .i64 x.1, .int .i64 x.2.1, .int .i64 x.2.2.1, .int .i64 x.2.2.2.1, .bool (decide (x.2.2.2.2 = true))]) (cs := [.int .i64 x.1, .int .i64 x.2.1, .int .i64 x.2.2.1, .int .i64 x.2.2.2.1, .bool (decide (x.2.2.2.2 = true))]) rfl rfl ?_
 intro B1 w1 hB1 hU1 hzz1 hb1
 have hzw1 := hU1.size
 replace hp := hp.upd0 hU1
 replace HU := HU.trans0 hU1
 refine Wl_nil (W_seq ?_)
 refine W_drawt rfl (l0 := tf 0 12) (by kernel_rfl) ?_
 refine Tk 0 (tf 1 12) rfl (YI_v (v := .pointer (some ⟨pt, 0, none⟩)) rfl (fun w' hw' => r_mv (v := .pointer (some ⟨pt, 0, none⟩)) rfl)) ?_
 refine Tk 1 (tf 2 12) rfl (YI_v (v := .pointer (some ⟨pt, 0, none⟩)) rfl (fun w' hw' => r_nil rfl)) ?_
 refine Tk 2 (tf 3 12) rfl (YI_v (v := .pointer (some ⟨pt, 2, none⟩)) rfl (fun w' hw' => r_fld underlying25 rfl sizeOf3 rfl rfl)) ?_
 refine Tk 3 (tf 4 12) rfl (YI_v (v := .pointer (some ⟨pt, 0, none⟩)) rfl (fun w' hw' => r_mv (v := .pointer (some ⟨pt, 0, none⟩)) rfl)) ?_
 refine Tk 4 (tf 5 12) rfl (YI_v (v := .pointer (some ⟨pt, 0, none⟩)) rfl (fun w' hw' => r_nil rfl)) ?_
 refine Tk 5 (tf 6 12) rfl (YI_v (v := .pointer (some ⟨pt, 3, none⟩)) rfl (fun w' hw' => r_fld underlying25 rfl sizeOf3 rfl rfl)) ?_
 refine Tk 6 (tf 7 12) rfl (YI_v (v := .pointer (some ⟨pt, 0, none⟩)) rfl (fun w' hw' => r_mv (v := .pointer (some ⟨pt, 0, none⟩)) rfl)) ?_
 refine Tk 7 (tf 8 12) rfl (YI_v (v := .pointer (some ⟨pt, 0, none⟩)) rfl (fun w' hw' => r_nil rfl)) ?_
 refine Tk 8 (tf 9 12) rfl (YI_v (v := .pointer (some ⟨pt, 4, none⟩)) rfl (fun w' hw' => r_fld underlying25 rfl sizeOf3 rfl rfl)) ?_
 refine Tk 9 (tf 10 12) rfl (YI_v (v := .agg #[.pointer (some ⟨pt, 2, none⟩), .pointer (some ⟨pt, 3, none⟩), .pointer (some ⟨pt, 4, none⟩)]) rfl (fun w' hw' => r_builda (pv := [(0, .pointer (some ⟨pt, 2, none⟩)), (1, .pointer (some ⟨pt, 3, none⟩)), (2, .pointer (some ⟨pt, 4, none⟩))]) (cs := #[.pointer (some ⟨pt, 2, none⟩), .pointer (some ⟨pt, 3, none⟩), .pointer (some ⟨pt, 4, none⟩)]) zeroValue98 underlying98 sizeOf97 (by simp only [List.map_toArray, List.map_cons, List.map_nil] <;> rfl) (by kernel_rfl))) ?_
 intro w2 hU2
 have hzw2 := hU2.size
 replace hp := hp.upd0 hU2
 replace HU := HU.trans0 hU2
 replace hb1 := hb1.upd0 hU2
 refine Wa_one (i := 10) (listed' := tf 11 12) (by kernel_rfl) rfl (by kernel_rfl) ?_
 refine Ws_of_Wl ?_
 have hW : Upd No w1 w2 := hU2
 refine Wl_alloc (cs := [.pointer none, .pointer none, .pointer none]) zeroValue98 rfl ?_
 intro B3 w3 hB3 hU3 hzz3 hb3
 have hzw3 := hU3.size
 replace hp := hp.upd0 hU3
 replace HU := HU.trans0 hU3
 replace hb1 := hb1.upd0 hU3
 try replace hW := hW.trans0 hU3
 refine Wl_nil ?_
 intro w4 hS4
 have hX : Upd No w1 w4 := hW.trans0 hS4.upd
 refine ⟨fun _ => ⟨hX, ?_⟩, fun h => absurd h (by rw [show barOp _ 10 = false from by kernel_rfl]; simp)⟩
 have hU4 := hS4.upd
 have hzw4 := hU4.size
 replace hp := hp.upd0 hU4
 replace HU := HU.trans0 hU4
 replace hb1 := hb1.upd0 hU4
 replace hb3 := hb3.upd0 hU4
 try replace hW := hW.trans0 hU4
 refine Wt_base hX ?_
 intro w5 hU5
 have hzw5 := hU5.size
 replace hp := hp.upd0 hU5
 replace HU := HU.trans0 hU5
 replace hb1 := hb1.upd0 hU5
 replace hb3 := hb3.upd0 hU5
 try replace hW := hW.trans0 hU5
 refine Wa_one (i := 11) (listed' := tf 12 12) (by kernel_rfl) rfl (by kernel_rfl) ?_
 refine Ws_of_Wl ?_
 have hW : Upd No w4 w5 := hU5
 refine Wl_storea (off := 0) (vs := [.pointer (some ⟨pt, 2, none⟩), .pointer (some ⟨pt, 3, none⟩), .pointer (some ⟨pt, 4, none⟩)]) (cs' := [.pointer (some ⟨pt, 2, none⟩), .pointer (some ⟨pt, 3, none⟩), .pointer (some ⟨pt, 4, none⟩)]) sizeOf98 rfl rfl rfl (by simp only [List.mem_cons, List.not_mem_nil, or_false, forall_eq_or_imp, forall_eq]; exact ⟨rfl, rfl, rfl⟩) hb3 (by simp) rfl ?_
 intro w6 hU6 hzz6 hb3n
 replace hb3 := hb3n; clear hb3n
 have hzw6 := hU6.size
 replace hp := hp.upd1 hU6 (by omega)
 replace HU := HU.trans1 hU6 (by show (B3 = pt) ∨ w.heap.size ≤ B3; omega)
 replace hb1 := hb1.upd1 hU6 (by omega)
 refine Wl_nil ?_
 intro w7 hS7
 refine ⟨fun h => absurd h (by rw [show barOp _ 11 = true from by kernel_rfl]; simp), fun _ => ⟨Upd No w7, ?_⟩⟩
 have hU7 := hS7.upd
 have hzw7 := hU7.size
 replace hp := hp.upd0 hU7
 replace HU := HU.trans0 hU7
 replace hb1 := hb1.upd0 hU7
 replace hb3 := hb3.upd0 hU7
 try replace hW := hW.trans0 hU7
 refine Wa_done (by kernel_rfl) ?_
 refine W_seq (W_region ?_)
 refine Wl_v (r_fld underlying51 rfl sizeOf49 rfl rfl) ?_
 refine Wl_load (v := .int .i64 x.2.1) isAgg49 rfl hb1 rfl ?_
 rw [show (x.2.1 : Int) = 2 from hk]
 refine Wl_v (r_idxa (len := 3) (i' := 2) (o' := 2) underlying98 sizeOf97 rfl rfl (by omega) (by omega) (by omega)) ?_
 refine Wl_load (v := .pointer (some ⟨pt, 4, none⟩)) isAgg97 rfl hb3 rfl ?_
 refine Wl_v (r_nil rfl) ?_
 refine Wl_load (v := .int .i64 t.2.2.2.2.1) isAgg3 rfl hp rfl ?_
 refine Wl_v (r_add rfl rfl (wi64 (by omega) (by omega))) ?_
 refine Wl_v (r_nil rfl) ?_
 refine Wl_store (v := .int .i64 (t.2.2.2.2.1 + 1)) (cs' := [.int .i64 t.1, .int .i64 t.2.1, .int .i64 t.2.2.1, .int .i64 t.2.2.2.1, .int .i64 (t.2.2.2.2.1 + 1), .int .i64 t.2.2.2.2.2.1, .int .i64 t.2.2.2.2.2.2]) sizeOf3 rfl rfl rfl rfl hp rfl rfl ?_
 intro w8 hU8 hzz8 hpn
 replace hp := hpn; clear hpn
 have hzw8 := hU8.size
 replace HU := HU.trans1 hU8 (by show (pt = pt) ∨ w.heap.size ≤ pt; omega)
 replace hb1 := hb1.upd1 hU8 (by omega)
 refine Wl_nil (W_seq ?_)
 refine W_drawt rfl (l0 := tf 0 10) (by kernel_rfl) ?_
 refine Tk 0 (tf 1 10) rfl (YI_v (v := .pointer (some ⟨pt, 0, none⟩)) rfl (fun w' hw' => r_mv (v := .pointer (some ⟨pt, 0, none⟩)) rfl)) ?_
 refine Tk 1 (tf 2 10) rfl (YI_v (v := .pointer (some ⟨pt, 0, none⟩)) rfl (fun w' hw' => r_nil rfl)) ?_
 refine Tk 2 (tf 3 10) rfl (YI_v (v := .pointer (some ⟨pt, 6, none⟩)) rfl (fun w' hw' => r_fld underlying25 rfl sizeOf3 rfl rfl)) ?_
 refine Tk 3 (tf 4 10) rfl (YI_v (v := .int .i64 t.2.2.2.2.2.2) rfl (fun w' hw' => r_load isAgg3 rfl (by rw [(hp.upd0 hw').cell]; rfl))) ?_
 refine Tk 4 (tf 5 10) rfl (YI_v (v := .pointer (some ⟨B1, 3, none⟩)) rfl (fun w' hw' => r_fld underlying51 rfl sizeOf3 rfl rfl)) ?_
 refine Tk 5 (tf 6 10) rfl (YI_v (v := .int .i64 x.2.2.2.1) rfl (fun w' hw' => r_load isAgg3 rfl (by rw [(hb1.upd0 hw').cell]; rfl))) ?_
 refine Tk 6 (tf 7 10) rfl (YI_v (v := .int .i64 (t.2.2.2.2.2.2 + x.2.2.2.1)) rfl (fun w' hw' => r_add rfl rfl (wi64 (by omega) (by omega)))) ?_
 refine Tk 7 (tf 8 10) rfl (YI_v (v := .pointer (some ⟨pt, 0, none⟩)) rfl (fun w' hw' => r_nil rfl)) ?_
 refine Tk 8 (tf 9 10) rfl (YI_v (v := .pointer (some ⟨pt, 6, none⟩)) rfl (fun w' hw' => r_fld underlying25 rfl sizeOf3 rfl rfl)) ?_
 intro w9 hU9
 have hzw9 := hU9.size
 replace hp := hp.upd0 hU9
 replace HU := HU.trans0 hU9
 replace hb1 := hb1.upd0 hU9
 try replace hW := hW.trans0 hU9
 refine Wa_one (i := 9) (listed' := tf 10 10) (by kernel_rfl) rfl (by kernel_rfl) ?_
 refine Ws_of_Wl ?_
 have hW : Upd No w8 w9 := hU9
 refine Wl_store (v := .int .i64 (t.2.2.2.2.2.2 + x.2.2.2.1)) (cs' := [.int .i64 t.1, .int .i64 t.2.1, .int .i64 t.2.2.1, .int .i64 t.2.2.2.1, .int .i64 (t.2.2.2.2.1 + 1), .int .i64 t.2.2.2.2.2.1, .int .i64 (t.2.2.2.2.2.2 + x.2.2.2.1)]) sizeOf3 rfl rfl rfl rfl hp rfl rfl ?_
 intro w10 hU10 hzz10 hpn
 replace hp := hpn; clear hpn
 have hzw10 := hU10.size
 replace HU := HU.trans1 hU10 (by show (pt = pt) ∨ w.heap.size ≤ pt; omega)
 replace hb1 := hb1.upd1 hU10 (by omega)
 refine Wl_nil ?_
 intro w11 hS11
 refine ⟨fun h => absurd h (by rw [show barOp _ 9 = true from by kernel_rfl]; simp), fun _ => ⟨Upd No w11, ?_⟩⟩
 have hU11 := hS11.upd
 have hzw11 := hU11.size
 replace hp := hp.upd0 hU11
 replace HU := HU.trans0 hU11
 replace hb1 := hb1.upd0 hU11
 try replace hW := hW.trans0 hU11
 refine Wa_done (by kernel_rfl) ?_
 refine W_seq (W_region ?_)
 refine Wl_v (r_fld underlying51 rfl sizeOf49 rfl rfl) ?_
 refine Wl_load (v := .int .i64 x.2.1) isAgg49 rfl hb1 rfl ?_
 rw [show (x.2.1 : Int) = 2 from hk]
 refine Wl_v (v := .bool false) (r_ne (a := 2) (b := 2) rfl rfl) ?_
 refine Wl_nil ?_
 refine W_cond_f rfl ?_
 refine W_skip ?_
 refine nrm_end (v := .tuple #[]) rfl (res0 results24) ?_
 exact ⟨_, rfl, rfl, (by rw [cb_2 hk]; exact hp), HU⟩
theorem adds_spec {pt : Nat} {t : T7} {x : BK} (w : World) (hp : Blk w pt [.int .i64 t.1, .int .i64 t.2.1, .int .i64 t.2.2.1, .int .i64 t.2.2.2.1, .int .i64 t.2.2.2.2.1, .int .i64 t.2.2.2.2.2.1, .int .i64 t.2.2.2.2.2.2]) (ht : tbd t 4000000000000000) (hx : smB x) :
  Calls Tryd.prog 24 #[.pointer (some ⟨pt, 0, none⟩), .agg #[.int .i64 x.1, .int .i64 x.2.1, .int .i64 x.2.2.1, .int .i64 x.2.2.2.1, .bool (decide (x.2.2.2.2 = true))]] w (Ret fun v w' => v = .tuple #[] ∧ Blk w' pt [.int .i64 ((cb t x).1), .int .i64 ((cb t x).2.1), .int .i64 ((cb t x).2.2.1), .int .i64 ((cb t x).2.2.2.1), .int .i64 ((cb t x).2.2.2.2.1), .int .i64 ((cb t x).2.2.2.2.2.1), .int .i64 ((cb t x).2.2.2.2.2.2)] ∧ Upd (Is pt) w w') := by
 rcases hx.1 with h | h | h
 ·exact adds_0 w hp ht hx h
 ·exact adds_1 w hp ht hx h
 exact adds_2 w hp ht hx h
set_option maxHeartbeats 2000000 in
theorem count_ok {a : Option Addr} {n c : Nat} {bs : List Int} (w : World) (hs : Sl w (fun g => g < w.heap.size) 1 (.slice a n c) n (ints .u8 bs)) (hb : Byt bs) (hm : n ≤ 100000) (he : (ga bs 0).2 = 0) :
  Calls Tryd.prog 11 #[.slice a n c] w (Ret fun v w' => v = .tuple #[.agg #[.int .i64 ((cnts (ga bs 0).1).1), .int .i64 ((cnts (ga bs 0).1).2.1), .int .i64 ((cnts (ga bs 0).1).2.2.1), .int .i64 ((cnts (ga bs 0).1).2.2.2.1), .int .i64 ((cnts (ga bs 0).1).2.2.2.2.1), .int .i64 ((cnts (ga bs 0).1).2.2.2.2.2.1), .int .i64 ((cnts (ga bs 0).1).2.2.2.2.2.2)], .int .i64 0] ∧ Upd No w w') := by
 have HU := Upd.rno w
 have hl_hs := ilen hs
 have hc_hs := hs.cap.1
 refine calls_of_W func11 rfl ntmps11 (by simp) ?_
 refine W_seq (W_region ?_)
 refine Wl_alloc (cs := [.int .i64 0, .int .i64 0, .int .i64 0, .int .i64 0, .int .i64 0, .int .i64 0, .int .i64 0]) zeroValue25 rfl ?_
 intro B1 w1 hB1 hU1 hzz1 hb1
 have hzw1 := hU1.size
 replace hs := hs.upd0 hU1
 replace HU := HU.trans0 hU1
 refine Was (.int .i64 0) ?_
 refine Wl_nil (W_seq (W_region ?_))
 refine Wmv (.slice a n c) ?_
 refine Wl_call (r_call1 rfl call19 rfl) (read_ok _ hs.any hb (by omega) (by omega)) ?_
 rintro v w2 ⟨a2, m2, c2, rfl, hT2, hU2⟩
 have hzw2 := hU2.size
 replace HU := HU.trans0 hU2
 replace hb1 := hb1.upd0 hU2
 obtain ⟨vs3, hv3, hS3, hP3⟩ := hT2
 have hl_hS3 := rlen encP_len (by decide) hS3
 have hc_hS3 := hS3.cap.1
 have hlm3 : (ga bs 0).1.length = m2 := by rw [← hv3, List.length_map]; exact hl_hS3
 refine Wmv (.tuple #[.slice a2 m2 c2, .int .i64 0]) ?_
 refine Wl_v (r_ext (v := .slice a2 m2 c2) rfl rfl) ?_
 refine Wl_v (r_ext (v := .int .i64 0) rfl rfl) ?_
 refine Was (.slice a2 m2 c2) ?_
 refine Was (.int .i64 0) ?_
 refine Wl_nil (W_seq (W_seq (W_region ?_)))
 refine Wmv (.int .i64 0) ?_
 refine Wl_v (v := .bool false) (r_ne (a := 0) (b := 0) rfl rfl) ?_
 refine Wl_nil ?_
 refine W_cond_f rfl ?_
 refine W_skip (W_seq (W_seq (W_region ?_)))
 refine Wmv (.slice a2 m2 c2) ?_
 refine Wl_v (r_len underlying57 rfl) ?_
 refine Wmv (.int .i64 0) ?_
 refine Wl_nil (W_block ?_)
 refine W_loop (fun mu ρ ds w' => ∃ (k : Nat), m2 - k = mu ∧ ds = [] ∧ Liv ρ [(2, .pointer (some ⟨B1, 0, none⟩)), (18, .slice a2 m2 c2), (19, .int .i64 ((m2 : Nat) : Int)), (20, .int .i64 ((k : Nat) : Int))] ∧ k ≤ m2 ∧ Blk w' B1 [.int .i64 ((((ga bs 0).1.take k).foldl cp t70).1), .int .i64 ((((ga bs 0).1.take k).foldl cp t70).2.1), .int .i64 ((((ga bs 0).1.take k).foldl cp t70).2.2.1), .int .i64 ((((ga bs 0).1.take k).foldl cp t70).2.2.2.1), .int .i64 ((((ga bs 0).1.take k).foldl cp t70).2.2.2.2.1), .int .i64 ((((ga bs 0).1.take k).foldl cp t70).2.2.2.2.2.1), .int .i64 ((((ga bs 0).1.take k).foldl cp t70).2.2.2.2.2.2)] ∧ Upd (Is B1) w2 w') _ ⟨0, rfl, rfl, ⟨rfl, rfl, rfl, (by first | rfl | exact vint (by omega) | exact vint (by simp)), trivial⟩, (by omega), (by exact hb1), Upd.refl _ _⟩ ?_
 rintro m4 ρ4 ds4 w4 ⟨k, rfl, rfl, hl4, hk, hb1, hU4⟩
 obtain ⟨ρ4x, rfl⟩ : ∃ ρx, ρ4 = upds ρx [(2, .pointer (some ⟨B1, 0, none⟩)), (18, .slice a2 m2 c2), (19, .int .i64 ((m2 : Nat) : Int)), (20, .int .i64 ((k : Nat) : Int))] := ⟨_, upds_self hl4⟩
 clear hl4
 have hzw4 := hU4.size
 replace HU := HU.t1 hU4 (by omega)
 replace hS3 := hS3.upd1 hU4 (show ¬ ((w1.heap.size ≤ B1 ∧ B1 < w2.heap.size)) by omega)
 replace hP3 := hP3.upd1 hU4 (by omega)
 have htk := tbd_ga hb (by omega) k
 have hoks := (ga_okd hb (by omega) k).2
 have htk2 := htk
 obtain ⟨ha1, ha2, ha3, ha4, ha5, ha6, ha7⟩ := htk2
 have hgn := ga_len hb (by omega)
 have HL4 := hU4
 refine W_seq (W_region ?_)
 refine Wl_v (r_lt rfl rfl) ?_
 refine Wl_nil (W_seq ?_)
 by_cases q1 : ((k : Nat) : Int) < ((m2 : Nat) : Int)
 ·rw [decide_eq_true q1]
  refine W_cond_t rfl ?_
  refine W_skip (W_seq (W_block (W_seq (W_region ?_))))
  refine Wl_idxr pv0 encP_len (by decide) underlying57 sizeOf45 rfl rfl hS3 (by omega) (by omega) ?_
  intro ib5 io5 hc5
  try rw [Int.toNat_natCast] at hc5
  obtain ⟨ba6, bm6, bc6, hbe6⟩ := gd_part (i := k) hv3
  rw [hbe6] at hc5
  have hB7 := hPget hP3 hbe6 (by omega)
  have hl_hB7 := rlen encK_len (by decide) hB7
  have hc_hB7 := hB7.cap.1
  refine Wl_v (r_loada (cs := [.int .i64 (((ga bs 0).1.getD k pt0).at_), .int .i64 (((ga bs 0).1.getD k pt0).sz), .bool (decide (((ga bs 0).1.getD k pt0).sk = true)), .int .i64 (((ga bs 0).1.getD k pt0).pl), .int .i64 (((ga bs 0).1.getD k pt0).hd.1), .int .i64 (((ga bs 0).1.getD k pt0).hd.2.1), .int .u32 (((ga bs 0).1.getD k pt0).hd.2.2.1), .bool (decide (((ga bs 0).1.getD k pt0).hd.2.2.2 = true)), .slice ba6 bm6 bc6, .int .u32 (((ga bs 0).1.getD k pt0).ck)]) isAgg45 sizeOf45 rfl rfl hc5) ?_
  refine Wl_alloc (cs := [.int .i64 0, .int .i64 0, .bool false, .int .i64 0, .int .i64 0, .int .i64 0, .int .u32 0, .bool false, .slice none 0 0, .int .u32 0]) zeroValue45 rfl ?_
  intro B8 w8 hB8 hU8 hzz8 hb8
  have hzw8 := hU8.size
  replace hb1 := hb1.upd0 hU8
  replace HL4 := HL4.trans0 hU8
  replace hB7 := hB7.upd0 hU8
  refine Wl_storea (off := 0) (vs := [.int .i64 (((ga bs 0).1.getD k pt0).at_), .int .i64 (((ga bs 0).1.getD k pt0).sz), .bool (decide (((ga bs 0).1.getD k pt0).sk = true)), .int .i64 (((ga bs 0).1.getD k pt0).pl), .int .i64 (((ga bs 0).1.getD k pt0).hd.1), .int .i64 (((ga bs 0).1.getD k pt0).hd.2.1), .int .u32 (((ga bs 0).1.getD k pt0).hd.2.2.1), .bool (decide (((ga bs 0).1.getD k pt0).hd.2.2.2 = true)), .slice ba6 bm6 bc6, .int .u32 (((ga bs 0).1.getD k pt0).ck)]) (cs' := [.int .i64 (((ga bs 0).1.getD k pt0).at_), .int .i64 (((ga bs 0).1.getD k pt0).sz), .bool (decide (((ga bs 0).1.getD k pt0).sk = true)), .int .i64 (((ga bs 0).1.getD k pt0).pl), .int .i64 (((ga bs 0).1.getD k pt0).hd.1), .int .i64 (((ga bs 0).1.getD k pt0).hd.2.1), .int .u32 (((ga bs 0).1.getD k pt0).hd.2.2.1), .bool (decide (((ga bs 0).1.getD k pt0).hd.2.2.2 = true)), .slice ba6 bm6 bc6, .int .u32 (((ga bs 0).1.getD k pt0).ck)]) sizeOf45 rfl rfl rfl (by simp only [List.mem_cons, List.not_mem_nil, or_false, forall_eq_or_imp, forall_eq]; exact ⟨rfl, rfl, rfl, rfl, rfl, rfl, rfl, rfl, rfl, rfl⟩) hb8 (by simp) rfl ?_
  intro w9 hU9 hzz9 hb8n
  replace hb8 := hb8n; clear hb8n
  have hzw9 := hU9.size
  replace hb1 := hb1.upd1 hU9 (by omega)
  replace HL4 := HL4.trans1 hU9 (by show (B8 = B1) ∨ w2.heap.size ≤ B8; omega)
  replace hB7 := hB7.upd1 hU9 (show ¬ ((w1.heap.size ≤ B8 ∧ B8 < w2.heap.size ∧ B8 ≠ w2.heap.size)) by omega)
  refine Wl_nil (W_seq (W_seq (W_region ?_)))
  refine Wl_v (r_fld underlying45 rfl sizeOf4 rfl rfl) ?_
  refine Wl_load (v := .bool (decide (((ga bs 0).1.getD k pt0).sk = true))) isAgg4 rfl hb8 rfl ?_
  refine Wl_nil ?_
  by_cases q2 : ((ga bs 0).1.getD k pt0).sk = true
  ·rw [decide_eq_true q2]
   refine W_cond_t rfl ?_
   refine W_seq (W_region ?_)
   refine Wl_v (r_fld underlying25 rfl sizeOf3 rfl rfl) ?_
   refine Wl_load (v := .int .i64 ((((ga bs 0).1.take k).foldl cp t70).2.1)) isAgg3 rfl hb1 rfl ?_
   refine Wl_v (r_add rfl rfl (wi64 (by omega) (by omega))) ?_
   refine Wl_v (r_fld underlying25 rfl sizeOf3 rfl rfl) ?_
   refine Wl_store (v := .int .i64 (((((ga bs 0).1.take k).foldl cp t70).2.1) + 1)) (cs' := [.int .i64 ((((ga bs 0).1.take k).foldl cp t70).1), .int .i64 (((((ga bs 0).1.take k).foldl cp t70).2.1) + 1), .int .i64 ((((ga bs 0).1.take k).foldl cp t70).2.2.1), .int .i64 ((((ga bs 0).1.take k).foldl cp t70).2.2.2.1), .int .i64 ((((ga bs 0).1.take k).foldl cp t70).2.2.2.2.1), .int .i64 ((((ga bs 0).1.take k).foldl cp t70).2.2.2.2.2.1), .int .i64 ((((ga bs 0).1.take k).foldl cp t70).2.2.2.2.2.2)]) sizeOf3 rfl rfl rfl rfl hb1 rfl rfl ?_
   intro w10 hU10 hzz10 hb1n
   replace hb1 := hb1n; clear hb1n
   have hzw10 := hU10.size
   replace HL4 := HL4.trans1 hU10 (by show (B1 = B1) ∨ w2.heap.size ≤ B1; omega)
   refine Wl_nil ?_
   refine W_exit ?_
   refine W_region ?_
   refine Wl_v (r_add rfl rfl (wi64 (by omega) (by omega))) ?_
   refine Wmv (.int .i64 (((k : Nat) : Int) + 1)) ?_
   refine Wl_nil ?_
   refine ⟨_, ?_, (k + 1), rfl, rfl, ⟨rfl, rfl, rfl, (by first | rfl | exact vint (by omega) | exact vint (by simp)), trivial⟩, (by omega), (by rw [cp_snoc (by omega), cp_skip q2]; exact hb1), HL4⟩
   omega
  rw [decide_eq_false q2]
  refine W_cond_f rfl ?_
  refine W_skip (W_seq (W_region ?_))
  refine Wl_v (r_fld underlying25 rfl sizeOf3 rfl rfl) ?_
  refine Wl_load (v := .int .i64 ((((ga bs 0).1.take k).foldl cp t70).1)) isAgg3 rfl hb1 rfl ?_
  refine Wl_v (r_add rfl rfl (wi64 (by omega) (by omega))) ?_
  refine Wl_v (r_fld underlying25 rfl sizeOf3 rfl rfl) ?_
  refine Wl_store (v := .int .i64 (((((ga bs 0).1.take k).foldl cp t70).1) + 1)) (cs' := [.int .i64 (((((ga bs 0).1.take k).foldl cp t70).1) + 1), .int .i64 ((((ga bs 0).1.take k).foldl cp t70).2.1), .int .i64 ((((ga bs 0).1.take k).foldl cp t70).2.2.1), .int .i64 ((((ga bs 0).1.take k).foldl cp t70).2.2.2.1), .int .i64 ((((ga bs 0).1.take k).foldl cp t70).2.2.2.2.1), .int .i64 ((((ga bs 0).1.take k).foldl cp t70).2.2.2.2.2.1), .int .i64 ((((ga bs 0).1.take k).foldl cp t70).2.2.2.2.2.2)]) sizeOf3 rfl rfl rfl rfl hb1 rfl rfl ?_
  intro w11 hU11 hzz11 hb1n
  replace hb1 := hb1n; clear hb1n
  have hzw11 := hU11.size
  replace HL4 := HL4.trans1 hU11 (by show (B1 = B1) ∨ w2.heap.size ≤ B1; omega)
  replace hB7 := hB7.upd1 hU11 (show ¬ ((w1.heap.size ≤ B1 ∧ B1 < w2.heap.size ∧ B1 ≠ w2.heap.size)) by omega)
  replace hb8 := hb8.upd1 hU11 (by omega)
  refine Wl_nil (W_seq (W_region ?_))
  refine Wl_v (r_fld underlying45 rfl sizeOf43 rfl rfl) ?_
  refine Wl_load (v := .slice ba6 bm6 bc6) isAgg43 rfl hb8 rfl ?_
  refine Wl_v (r_len underlying43 rfl) ?_
  refine Wmv (.int .i64 0) ?_
  refine Wl_nil (W_block ?_)
  refine W_loop (fun mu ρ ds w' => ∃ (q : Nat), bm6 - q = mu ∧ ds = [] ∧ Liv ρ [(2, .pointer (some ⟨B1, 0, none⟩)), (18, .slice a2 m2 c2), (19, .int .i64 ((m2 : Nat) : Int)), (20, .int .i64 ((k : Nat) : Int)), (35, .slice ba6 bm6 bc6), (36, .int .i64 ((bm6 : Nat) : Int)), (37, .int .i64 ((q : Nat) : Int))] ∧ q ≤ bm6 ∧ Blk w' B1 [.int .i64 (((((ga bs 0).1.getD k pt0).bl.take q).foldl cb ((((ga bs 0).1.take k).foldl cp t70).1 + 1, (((ga bs 0).1.take k).foldl cp t70).2)).1), .int .i64 (((((ga bs 0).1.getD k pt0).bl.take q).foldl cb ((((ga bs 0).1.take k).foldl cp t70).1 + 1, (((ga bs 0).1.take k).foldl cp t70).2)).2.1), .int .i64 (((((ga bs 0).1.getD k pt0).bl.take q).foldl cb ((((ga bs 0).1.take k).foldl cp t70).1 + 1, (((ga bs 0).1.take k).foldl cp t70).2)).2.2.1), .int .i64 (((((ga bs 0).1.getD k pt0).bl.take q).foldl cb ((((ga bs 0).1.take k).foldl cp t70).1 + 1, (((ga bs 0).1.take k).foldl cp t70).2)).2.2.2.1), .int .i64 (((((ga bs 0).1.getD k pt0).bl.take q).foldl cb ((((ga bs 0).1.take k).foldl cp t70).1 + 1, (((ga bs 0).1.take k).foldl cp t70).2)).2.2.2.2.1), .int .i64 (((((ga bs 0).1.getD k pt0).bl.take q).foldl cb ((((ga bs 0).1.take k).foldl cp t70).1 + 1, (((ga bs 0).1.take k).foldl cp t70).2)).2.2.2.2.2.1), .int .i64 (((((ga bs 0).1.getD k pt0).bl.take q).foldl cb ((((ga bs 0).1.take k).foldl cp t70).1 + 1, (((ga bs 0).1.take k).foldl cp t70).2)).2.2.2.2.2.2)] ∧ Upd (Is B1) w11 w') _ ⟨0, rfl, rfl, ⟨rfl, rfl, rfl, rfl, rfl, rfl, (by first | rfl | exact vint (by omega) | exact vint (by simp)), trivial⟩, (by omega), (by exact hb1), Upd.refl _ _⟩ ?_
  rintro m12 ρ12 ds12 w12 ⟨q, rfl, rfl, hl12, hq, hb1, hU12⟩
  obtain ⟨ρ12x, rfl⟩ : ∃ ρx, ρ12 = upds ρx [(2, .pointer (some ⟨B1, 0, none⟩)), (18, .slice a2 m2 c2), (19, .int .i64 ((m2 : Nat) : Int)), (20, .int .i64 ((k : Nat) : Int)), (35, .slice ba6 bm6 bc6), (36, .int .i64 ((bm6 : Nat) : Int)), (37, .int .i64 ((q : Nat) : Int))] := ⟨_, upds_self hl12⟩
  clear hl12
  have hzw12 := hU12.size
  replace HL4 := HL4.trans1 hU12 (by show (B1 = B1) ∨ w2.heap.size ≤ B1; omega)
  replace hB7 := hB7.upd1 hU12 (show ¬ ((w1.heap.size ≤ B1 ∧ B1 < w2.heap.size ∧ B1 ≠ w2.heap.size)) by omega)
  have htq := tbd_in htk hoks q
  have hsq : smB (((ga bs 0).1.getD k pt0).bl.getD q (0, 0, 0, 0, false)) := smB_gd hoks.1 q
  have hbn := hoks.2
  have HL12 := hU12
  refine W_seq (W_region ?_)
  refine Wl_v (r_lt rfl rfl) ?_
  refine Wl_nil (W_seq ?_)
  by_cases q3 : ((q : Nat) : Int) < ((bm6 : Nat) : Int)
  ·rw [decide_eq_true q3]
   refine W_cond_t rfl ?_
   refine W_skip (W_seq (W_block (W_seq (W_region ?_))))
   refine Wl_idxr (0, 0, 0, 0, false) encK_len (by decide) underlying43 sizeOf51 rfl rfl hB7 (by omega) (by omega) ?_
   intro ib13 io13 hc13
   try rw [Int.toNat_natCast] at hc13
   refine Wl_v (r_loada (cs := [.int .i64 (((((ga bs 0).1.getD k pt0).bl).getD q (0, 0, 0, 0, false)).1), .int .i64 (((((ga bs 0).1.getD k pt0).bl).getD q (0, 0, 0, 0, false)).2.1), .int .i64 (((((ga bs 0).1.getD k pt0).bl).getD q (0, 0, 0, 0, false)).2.2.1), .int .i64 (((((ga bs 0).1.getD k pt0).bl).getD q (0, 0, 0, 0, false)).2.2.2.1), .bool (decide (((((ga bs 0).1.getD k pt0).bl).getD q (0, 0, 0, 0, false)).2.2.2.2 = true))]) isAgg51 sizeOf51 rfl rfl hc13) ?_
   refine Wl_alloc (cs := [.int .i64 0, .int .i64 0, .int .i64 0, .int .i64 0, .bool false]) zeroValue51 rfl ?_
   intro B14 w14 hB14 hU14 hzz14 hb14
   have hzw14 := hU14.size
   replace hb1 := hb1.upd0 hU14
   replace HL12 := HL12.trans0 hU14
   refine Wl_storea (off := 0) (vs := [.int .i64 (((((ga bs 0).1.getD k pt0).bl).getD q (0, 0, 0, 0, false)).1), .int .i64 (((((ga bs 0).1.getD k pt0).bl).getD q (0, 0, 0, 0, false)).2.1), .int .i64 (((((ga bs 0).1.getD k pt0).bl).getD q (0, 0, 0, 0, false)).2.2.1), .int .i64 (((((ga bs 0).1.getD k pt0).bl).getD q (0, 0, 0, 0, false)).2.2.2.1), .bool (decide (((((ga bs 0).1.getD k pt0).bl).getD q (0, 0, 0, 0, false)).2.2.2.2 = true))]) (cs' := [.int .i64 (((((ga bs 0).1.getD k pt0).bl).getD q (0, 0, 0, 0, false)).1), .int .i64 (((((ga bs 0).1.getD k pt0).bl).getD q (0, 0, 0, 0, false)).2.1), .int .i64 (((((ga bs 0).1.getD k pt0).bl).getD q (0, 0, 0, 0, false)).2.2.1), .int .i64 (((((ga bs 0).1.getD k pt0).bl).getD q (0, 0, 0, 0, false)).2.2.2.1), .bool (decide (((((ga bs 0).1.getD k pt0).bl).getD q (0, 0, 0, 0, false)).2.2.2.2 = true))]) sizeOf51 rfl rfl rfl (by simp only [List.mem_cons, List.not_mem_nil, or_false, forall_eq_or_imp, forall_eq]; exact ⟨rfl, rfl, rfl, rfl, rfl⟩) hb14 (by simp) rfl ?_
   intro w15 hU15 hzz15 hb14n
   replace hb14 := hb14n; clear hb14n
   have hzw15 := hU15.size
   replace hb1 := hb1.upd1 hU15 (by omega)
   replace HL12 := HL12.trans1 hU15 (by show (B14 = B1) ∨ w11.heap.size ≤ B14; omega)
   refine Wl_nil (W_region ?_)
   refine Wl_v (r_loada (b := B14) (off := 0) (cs := [.int .i64 (((((ga bs 0).1.getD k pt0).bl).getD q (0, 0, 0, 0, false)).1), .int .i64 (((((ga bs 0).1.getD k pt0).bl).getD q (0, 0, 0, 0, false)).2.1), .int .i64 (((((ga bs 0).1.getD k pt0).bl).getD q (0, 0, 0, 0, false)).2.2.1), .int .i64 (((((ga bs 0).1.getD k pt0).bl).getD q (0, 0, 0, 0, false)).2.2.2.1), .bool (decide (((((ga bs 0).1.getD k pt0).bl).getD q (0, 0, 0, 0, false)).2.2.2.2 = true))]) isAgg51 sizeOf51 rfl rfl (fun j hj => by rw [hb14.cell]; match j, hj with | 0, _ => rfl | 1, _ => rfl | 2, _ => rfl | 3, _ => rfl | 4, _ => rfl)) ?_
   refine Wl_call (r_call2 rfl call24 rfl rfl) (adds_spec _ hb1 htq hsq) ?_
   rintro v w16 ⟨rfl, hp16, hU16⟩
   have hzw16 := hU16.size
   replace HL12 := HL12.trans1 hU16 (by show (B1 = B1) ∨ w11.heap.size ≤ B1; omega)
   have hbl_hp16 := hp16.lt
   refine Wl_nil (W_region ?_)
   refine Wl_v (r_add rfl rfl (wi64 (by omega) (by omega))) ?_
   refine Wmv (.int .i64 (((q : Nat) : Int) + 1)) ?_
   refine Wl_nil ?_
   refine ⟨_, ?_, (q + 1), rfl, rfl, ⟨rfl, rfl, rfl, rfl, rfl, rfl, (by first | rfl | exact vint (by omega) | exact vint (by simp)), trivial⟩, (by omega), (by rw [cb_snoc (by omega)]; exact hp16), HL12⟩
   omega
  rw [decide_eq_false q3]
  refine W_cond_f rfl ?_
  refine W_exit ?_
  refine W_region ?_
  refine Wl_v (r_add rfl rfl (wi64 (by omega) (by omega))) ?_
  refine Wmv (.int .i64 (((k : Nat) : Int) + 1)) ?_
  refine Wl_nil ?_
  refine ⟨_, ?_, (k + 1), rfl, rfl, ⟨rfl, rfl, rfl, (by first | rfl | exact vint (by omega) | exact vint (by simp)), trivial⟩, (by omega), (by rw [cp_snoc (by omega), cp_fr q2]; rw [show q = ((ga bs 0).1.getD k pt0).bl.length from by omega, List.take_length] at hb1; exact hb1), HL4⟩
  omega
 rw [decide_eq_false q1]
 refine W_cond_f rfl ?_
 refine W_exit ?_
 refine W_seq (W_region ?_)
 refine Wl_v (r_loada (b := B1) (off := 0) (cs := [.int .i64 ((((ga bs 0).1.take k).foldl cp t70).1), .int .i64 ((((ga bs 0).1.take k).foldl cp t70).2.1), .int .i64 ((((ga bs 0).1.take k).foldl cp t70).2.2.1), .int .i64 ((((ga bs 0).1.take k).foldl cp t70).2.2.2.1), .int .i64 ((((ga bs 0).1.take k).foldl cp t70).2.2.2.2.1), .int .i64 ((((ga bs 0).1.take k).foldl cp t70).2.2.2.2.2.1), .int .i64 ((((ga bs 0).1.take k).foldl cp t70).2.2.2.2.2.2)]) isAgg25 sizeOf25 rfl rfl (fun j hj => by rw [hb1.cell]; match j, hj with | 0, _ => rfl | 1, _ => rfl | 2, _ => rfl | 3, _ => rfl | 4, _ => rfl | 5, _ => rfl | 6, _ => rfl)) ?_
 refine Wl_storea (off := 0) (vs := [.int .i64 ((((ga bs 0).1.take k).foldl cp t70).1), .int .i64 ((((ga bs 0).1.take k).foldl cp t70).2.1), .int .i64 ((((ga bs 0).1.take k).foldl cp t70).2.2.1), .int .i64 ((((ga bs 0).1.take k).foldl cp t70).2.2.2.1), .int .i64 ((((ga bs 0).1.take k).foldl cp t70).2.2.2.2.1), .int .i64 ((((ga bs 0).1.take k).foldl cp t70).2.2.2.2.2.1), .int .i64 ((((ga bs 0).1.take k).foldl cp t70).2.2.2.2.2.2)]) (cs' := [.int .i64 ((((ga bs 0).1.take k).foldl cp t70).1), .int .i64 ((((ga bs 0).1.take k).foldl cp t70).2.1), .int .i64 ((((ga bs 0).1.take k).foldl cp t70).2.2.1), .int .i64 ((((ga bs 0).1.take k).foldl cp t70).2.2.2.1), .int .i64 ((((ga bs 0).1.take k).foldl cp t70).2.2.2.2.1), .int .i64 ((((ga bs 0).1.take k).foldl cp t70).2.2.2.2.2.1), .int .i64 ((((ga bs 0).1.take k).foldl cp t70).2.2.2.2.2.2)]) sizeOf25 rfl rfl rfl (by simp only [List.mem_cons, List.not_mem_nil, or_false, forall_eq_or_imp, forall_eq]; exact ⟨rfl, rfl, rfl, rfl, rfl, rfl, rfl⟩) hb1 (by simp) rfl ?_
 intro w17 hU17 hzz17 hb1n
 replace hb1 := hb1n; clear hb1n
 have hzw17 := hU17.size
 replace HU := HU.t1 hU17 (by omega)
 refine Was (.int .i64 0) ?_
 refine Wl_nil ?_
 refine W_ret ?_
 refine ret_end (v := .tuple #[.agg #[.int .i64 ((((ga bs 0).1.take k).foldl cp t70).1), .int .i64 ((((ga bs 0).1.take k).foldl cp t70).2.1), .int .i64 ((((ga bs 0).1.take k).foldl cp t70).2.2.1), .int .i64 ((((ga bs 0).1.take k).foldl cp t70).2.2.2.1), .int .i64 ((((ga bs 0).1.take k).foldl cp t70).2.2.2.2.1), .int .i64 ((((ga bs 0).1.take k).foldl cp t70).2.2.2.2.2.1), .int .i64 ((((ga bs 0).1.take k).foldl cp t70).2.2.2.2.2.2)], .int .i64 0]) rfl (rm_ct results11 rfl rfl (cellAgg isAgg25 sizeOf25 rfl hb1)) ?_
 exact ⟨_, rfl, (vtup2 (by rw [show k = (ga bs 0).1.length from by omega, List.take_length]; rfl) rfl), HU⟩
end Go.Proofs.YtbjjhfoeckkacaaDoor
