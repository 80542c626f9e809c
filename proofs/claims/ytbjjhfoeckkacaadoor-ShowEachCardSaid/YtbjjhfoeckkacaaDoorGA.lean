/-
  Several texts of this project, put together.
-/
import Derived.Test.YtbjjhfoeckkacaaDoorKD
import Derived.Test.YtbjjhfoeckkacaaDoorSA
set_option linter.unusedVariables false
set_option linter.unusedSimpArgs false
set_option maxRecDepth 100000
namespace Go.Proofs.YtbjjhfoeckkacaaDoor
open Go.Fw _root_.Go.Proofs.Tryd
theorem scaught_ret {be : Nat} (w : World) :
  CD Tryd.prog 53 #[.pointer (some ⟨be, 0, none⟩)] (.returning) w (fun e u' w' => u' = .returning ∧ (Ret fun v w' => v = .tuple #[] ∧ Upd No w w') e w') := by
 have HU := Upd.rno w
 refine CD_recover (v := .nilIface) (u' := .returning) func53 rfl ntmps53 (by simp) rfl (fun ρ w => by simp [execOp, resolve, invoke, builtin]) rfl rfl (fun ρ w => by simp [execOp]) rfl rfl (by decide) (fun c₀ cs h => .inr ⟨rec_none c₀ cs h, rfl, rfl⟩) ?_
 refine W_seq (W_seq (W_region ?_))
 refine Wmv (.nilIface) ?_
 refine Wl_v (r_eqi_n underlying20 rfl rfl) ?_
 refine Wl_nil ?_
 refine W_cond_t rfl ?_
 refine W_ret ?_
 refine cd_ret (v := .tuple #[]) (res0 results53) ?_
 exact ⟨_, rfl, rfl, HU⟩
theorem scaught_pan {be : Nat} {er0 er : Int} (w : World) (hb : Blk w be [.int .i64 er0]) :
  CD Tryd.prog 53 #[.pointer (some ⟨be, 0, none⟩)] (.panicking (pan (.iface 26 (.int .i64 er)))) w (fun e u' w' => u' = .panicking [{ v := .iface 26 (.int .i64 er), recovered := true }] ∧ (Ret fun v w' => v = .tuple #[] ∧ Upd (Is be) w w' ∧ Blk w' be [.int .i64 er]) e w') := by
 have HU : Upd (fun b => b = be) w w := Upd.refl _ _
 refine CD_recover (v := .iface 26 (.int .i64 er)) (u' := .panicking [{ v := .iface 26 (.int .i64 er), recovered := true }]) func53 rfl ntmps53 (by simp) rfl (fun ρ w => by simp [execOp, resolve, invoke, builtin]) rfl rfl (fun ρ w => by simp [execOp]) rfl rfl (by decide) (fun c₀ cs h => .inl (rec_some c₀ cs h)) ?_
 refine W_seq (W_seq (W_region ?_))
 refine Wmv (.iface 26 (.int .i64 er)) ?_
 refine Wl_v (r_eqi_s underlying20 rfl rfl) ?_
 refine Wl_nil ?_
 refine W_cond_f rfl ?_
 refine W_skip (W_seq (W_region ?_))
 refine Wmv (.iface 26 (.int .i64 er)) ?_
 refine Wl_v (r_ta underlying26 (fun m h => by cases h) rfl) ?_
 refine Wmv (.tuple #[.int .i64 er, .bool true]) ?_
 refine Wl_v (r_ext (v := .int .i64 er) rfl rfl) ?_
 refine Wl_v (r_ext (v := .bool true) rfl rfl) ?_
 refine Was (.int .i64 er) ?_
 refine Was (.bool true) ?_
 refine Wl_nil (W_seq (W_seq (W_region ?_)))
 refine Wmv (.bool true) ?_
 refine Wl_v (r_not (b := true) rfl) ?_
 refine Wl_nil ?_
 refine W_cond_f rfl ?_
 refine W_skip (W_region ?_)
 refine Wmv (.pointer (some ⟨be, 0, none⟩)) ?_
 refine Wmv (.int .i64 er) ?_
 refine Wl_v (r_nil rfl) ?_
 refine Wl_store (v := .int .i64 er) (cs' := [.int .i64 er]) sizeOf26 rfl rfl rfl rfl hb rfl rfl ?_
 intro w1 hU1 hzz1 hbn
 replace hb := hbn; clear hbn
 have hzw1 := hU1.size
 replace HU := HU.trans1 hU1 (by show (be = be) ∨ w.heap.size ≤ be; omega)
 refine Wl_nil ?_
 refine cd_nrm (v := .tuple #[]) (res0 results53) ?_
 exact ⟨_, rfl, rfl, HU, hb⟩
theorem smust_t {er : Int} (w : World)  :
  Calls Tryd.prog 79 #[.bool true, .int .i64 er] w (Ret fun v w' => v = .tuple #[] ∧ Upd No w w') := by
 have HU := Upd.rno w
 refine calls_of_W func79 rfl ntmps79 (by simp) ?_
 refine W_seq (W_region ?_)
 refine Wmv (.bool true) ?_
 refine Wl_v (r_not (b := true) rfl) ?_
 refine Wl_nil ?_
 refine W_cond_f rfl ?_
 refine W_skip ?_
 refine nrm_end (v := .tuple #[]) rfl (res0 results79) ?_
 exact ⟨_, rfl, rfl, HU⟩
theorem smust_f {er : Int} (w : World)  :
  Calls Tryd.prog 79 #[.bool false, .int .i64 er] w (Pan (.iface 26 (.int .i64 er)) fun w' => Upd No w w') := by
 have HU := Upd.rno w
 refine calls_of_W func79 rfl ntmps79 (by simp) ?_
 refine W_seq (W_region ?_)
 refine Wmv (.bool false) ?_
 refine Wl_v (r_not (b := false) rfl) ?_
 refine Wl_nil ?_
 refine W_cond_t rfl ?_
 refine W_region ?_
 refine Wmv (.int .i64 er) ?_
 refine Wl_v (r_mki (by kernel_rfl) rfl) ?_
 refine Wl_panic rfl ?_
 refine pan_ds rfl ?_
 refine lv_panic ?_
 exact ⟨rfl, HU⟩
theorem got0_ok {v0 : Value} (w : World)  :
  Calls Tryd.prog 65 #[v0, .int .i64 0] w (Ret fun v w' => v = v0 ∧ Upd No w w') := by
 have HU := Upd.rno w
 refine calls_of_W func65 rfl ntmps65 (by simp) ?_
 refine W_seq (W_region ?_)
 refine Was (.bool false) ?_
 refine Wl_nil (W_seq (W_region ?_))
 refine Wmv (.int .i64 0) ?_
 refine Wl_v (v := .bool true) (r_eq (a := 0) (b := 0) rfl rfl) ?_
 refine Wmv (.int .i64 0) ?_
 refine Wl_call (r_call2 rfl call79 rfl rfl) (smust_t _ ) ?_
 rintro v w1 ⟨rfl, hU1⟩
 have hzw1 := hU1.size
 replace HU := HU.trans0 hU1
 refine Wl_nil (W_seq (W_region ?_))
 refine Wmv (v0) ?_
 refine Was (v0) ?_
 refine Wl_nil ?_
 refine W_ret ?_
 refine ret_end (v := v0) rfl (res1 results65 rfl) ?_
 exact ⟨_, rfl, rfl, HU⟩
theorem got0_no {v0 : Value} {er : Int} (w : World) (hl : ¬ er = 0) :
  Calls Tryd.prog 65 #[v0, .int .i64 er] w (Pan (.iface 26 (.int .i64 er)) fun w' => Upd No w w') := by
 have HU := Upd.rno w
 refine calls_of_W func65 rfl ntmps65 (by simp) ?_
 refine W_seq (W_region ?_)
 refine Was (.bool false) ?_
 refine Wl_nil (W_seq (W_region ?_))
 refine Wmv (.int .i64 er) ?_
 refine Wl_v (r_eq rfl rfl) ?_
 refine Wmv (.int .i64 er) ?_
 have q1 : ¬ (er = 0) := hl
 rw [decide_eq_false q1]
 refine Wl_callp (r_call2 rfl call79 rfl rfl) (smust_f _ ) ?_
 intro w1 hU1
 have hzw1 := hU1.size
 replace HU := HU.trans0 hU1
 refine pan_ds rfl ?_
 refine lv_panic ?_
 exact ⟨rfl, HU⟩
theorem got1_ok {v0 : Value} (w : World)  :
  Calls Tryd.prog 67 #[v0, .int .i64 0] w (Ret fun v w' => v = v0 ∧ Upd No w w') := by
 have HU := Upd.rno w
 refine calls_of_W func67 rfl ntmps67 (by simp) ?_
 refine W_seq (W_region ?_)
 refine Was (.slice none 0 0) ?_
 refine Wl_nil (W_seq (W_region ?_))
 refine Wmv (.int .i64 0) ?_
 refine Wl_v (v := .bool true) (r_eq (a := 0) (b := 0) rfl rfl) ?_
 refine Wmv (.int .i64 0) ?_
 refine Wl_call (r_call2 rfl call79 rfl rfl) (smust_t _ ) ?_
 rintro v w1 ⟨rfl, hU1⟩
 have hzw1 := hU1.size
 replace HU := HU.trans0 hU1
 refine Wl_nil (W_seq (W_region ?_))
 refine Wmv (v0) ?_
 refine Was (v0) ?_
 refine Wl_nil ?_
 refine W_ret ?_
 refine ret_end (v := v0) rfl (res1 results67 rfl) ?_
 exact ⟨_, rfl, rfl, HU⟩
theorem got1_no {v0 : Value} {er : Int} (w : World) (hl : ¬ er = 0) :
  Calls Tryd.prog 67 #[v0, .int .i64 er] w (Pan (.iface 26 (.int .i64 er)) fun w' => Upd No w w') := by
 have HU := Upd.rno w
 refine calls_of_W func67 rfl ntmps67 (by simp) ?_
 refine W_seq (W_region ?_)
 refine Was (.slice none 0 0) ?_
 refine Wl_nil (W_seq (W_region ?_))
 refine Wmv (.int .i64 er) ?_
 refine Wl_v (r_eq rfl rfl) ?_
 refine Wmv (.int .i64 er) ?_
 have q1 : ¬ (er = 0) := hl
 rw [decide_eq_false q1]
 refine Wl_callp (r_call2 rfl call79 rfl rfl) (smust_f _ ) ?_
 intro w1 hU1
 have hzw1 := hU1.size
 replace HU := HU.trans0 hU1
 refine pan_ds rfl ?_
 refine lv_panic ?_
 exact ⟨rfl, HU⟩
theorem got2_ok {v0 : Value} (w : World)  :
  Calls Tryd.prog 72 #[v0, .int .i64 0] w (Ret fun v w' => v = v0 ∧ Upd No w w') := by
 have HU := Upd.rno w
 refine calls_of_W func72 rfl ntmps72 (by simp) ?_
 refine W_seq (W_region ?_)
 refine Was (.int .u32 0) ?_
 refine Wl_nil (W_seq (W_region ?_))
 refine Wmv (.int .i64 0) ?_
 refine Wl_v (v := .bool true) (r_eq (a := 0) (b := 0) rfl rfl) ?_
 refine Wmv (.int .i64 0) ?_
 refine Wl_call (r_call2 rfl call79 rfl rfl) (smust_t _ ) ?_
 rintro v w1 ⟨rfl, hU1⟩
 have hzw1 := hU1.size
 replace HU := HU.trans0 hU1
 refine Wl_nil (W_seq (W_region ?_))
 refine Wmv (v0) ?_
 refine Was (v0) ?_
 refine Wl_nil ?_
 refine W_ret ?_
 refine ret_end (v := v0) rfl (res1 results72 rfl) ?_
 exact ⟨_, rfl, rfl, HU⟩
theorem got2_no {v0 : Value} {er : Int} (w : World) (hl : ¬ er = 0) :
  Calls Tryd.prog 72 #[v0, .int .i64 er] w (Pan (.iface 26 (.int .i64 er)) fun w' => Upd No w w') := by
 have HU := Upd.rno w
 refine calls_of_W func72 rfl ntmps72 (by simp) ?_
 refine W_seq (W_region ?_)
 refine Was (.int .u32 0) ?_
 refine Wl_nil (W_seq (W_region ?_))
 refine Wmv (.int .i64 er) ?_
 refine Wl_v (r_eq rfl rfl) ?_
 refine Wmv (.int .i64 er) ?_
 have q1 : ¬ (er = 0) := hl
 rw [decide_eq_false q1]
 refine Wl_callp (r_call2 rfl call79 rfl rfl) (smust_f _ ) ?_
 intro w1 hU1
 have hzw1 := hU1.size
 replace HU := HU.trans0 hU1
 refine pan_ds rfl ?_
 refine lv_panic ?_
 exact ⟨rfl, HU⟩
theorem got3_ok {wz sz dn : Int} {sm : Bool} (w : World)  :
  Calls Tryd.prog 69 #[.agg #[.int .i64 wz, .int .i64 sz, .int .u32 dn, .bool (decide (sm = true))], .int .i64 0] w (Ret fun v w' => v = .agg #[.int .i64 wz, .int .i64 sz, .int .u32 dn, .bool (decide (sm = true))] ∧ Upd No w w') := by
 have HU := Upd.rno w
 refine calls_of_W func69 rfl ntmps69 (by simp) ?_
 refine W_seq (W_region ?_)
 refine Wl_box (v := .agg #[.int .i64 wz, .int .i64 sz, .int .u32 dn, .bool (decide (sm = true))]) (cs := [.int .i64 wz, .int .i64 sz, .int .u32 dn, .bool (decide (sm = true))]) rfl rfl ?_
 intro B1 w1 hB1 hU1 hzz1 hb1
 have hzw1 := hU1.size
 replace HU := HU.trans0 hU1
 refine Wl_alloc (cs := [.int .i64 0, .int .i64 0, .int .u32 0, .bool false]) zeroValue41 rfl ?_
 intro B2 w2 hB2 hU2 hzz2 hb2
 have hzw2 := hU2.size
 replace HU := HU.trans0 hU2
 replace hb1 := hb1.upd0 hU2
 refine Wl_nil (W_seq (W_region ?_))
 refine Wmv (.int .i64 0) ?_
 refine Wl_v (v := .bool true) (r_eq (a := 0) (b := 0) rfl rfl) ?_
 refine Wmv (.int .i64 0) ?_
 refine Wl_call (r_call2 rfl call79 rfl rfl) (smust_t _ ) ?_
 rintro v w3 ⟨rfl, hU3⟩
 have hzw3 := hU3.size
 replace HU := HU.trans0 hU3
 replace hb1 := hb1.upd0 hU3
 replace hb2 := hb2.upd0 hU3
 refine Wl_nil (W_seq (W_region ?_))
 refine Wl_v (r_loada (b := B1) (off := 0) (cs := [.int .i64 wz, .int .i64 sz, .int .u32 dn, .bool (decide (sm = true))]) isAgg41 sizeOf41 rfl rfl (fun j hj => by rw [hb1.cell]; match j, hj with | 0, _ => rfl | 1, _ => rfl | 2, _ => rfl | 3, _ => rfl)) ?_
 refine Wl_storea (off := 0) (vs := [.int .i64 wz, .int .i64 sz, .int .u32 dn, .bool (decide (sm = true))]) (cs' := [.int .i64 wz, .int .i64 sz, .int .u32 dn, .bool (decide (sm = true))]) sizeOf41 rfl rfl rfl (by simp only [List.mem_cons, List.not_mem_nil, or_false, forall_eq_or_imp, forall_eq]; exact ⟨rfl, rfl, rfl, rfl⟩) hb2 (by simp) rfl ?_
 intro w4 hU4 hzz4 hb2n
 replace hb2 := hb2n; clear hb2n
 have hzw4 := hU4.size
 replace HU := HU.t1 hU4 (by omega)
 refine Wl_nil ?_
 refine W_ret ?_
 refine ret_end (v := .agg #[.int .i64 wz, .int .i64 sz, .int .u32 dn, .bool (decide (sm = true))]) rfl (rc1 results69 rfl (cellAgg isAgg41 sizeOf41 rfl hb2)) ?_
 exact ⟨_, rfl, rfl, HU⟩
theorem got3_no {wz sz dn : Int} {sm : Bool} {er : Int} (w : World) (hl : ¬ er = 0) :
  Calls Tryd.prog 69 #[.agg #[.int .i64 wz, .int .i64 sz, .int .u32 dn, .bool (decide (sm = true))], .int .i64 er] w (Pan (.iface 26 (.int .i64 er)) fun w' => Upd No w w') := by
 have HU := Upd.rno w
 refine calls_of_W func69 rfl ntmps69 (by simp) ?_
 refine W_seq (W_region ?_)
 refine Wl_box (v := .agg #[.int .i64 wz, .int .i64 sz, .int .u32 dn, .bool (decide (sm = true))]) (cs := [.int .i64 wz, .int .i64 sz, .int .u32 dn, .bool (decide (sm = true))]) rfl rfl ?_
 intro B1 w1 hB1 hU1 hzz1 hb1
 have hzw1 := hU1.size
 replace HU := HU.trans0 hU1
 refine Wl_alloc (cs := [.int .i64 0, .int .i64 0, .int .u32 0, .bool false]) zeroValue41 rfl ?_
 intro B2 w2 hB2 hU2 hzz2 hb2
 have hzw2 := hU2.size
 replace HU := HU.trans0 hU2
 refine Wl_nil (W_seq (W_region ?_))
 refine Wmv (.int .i64 er) ?_
 refine Wl_v (r_eq rfl rfl) ?_
 refine Wmv (.int .i64 er) ?_
 have q1 : ¬ (er = 0) := hl
 rw [decide_eq_false q1]
 refine Wl_callp (r_call2 rfl call79 rfl rfl) (smust_f _ ) ?_
 intro w3 hU3
 have hzw3 := hU3.size
 replace HU := HU.trans0 hU3
 refine pan_ds rfl ?_
 refine lv_panic ?_
 exact ⟨rfl, HU⟩
theorem kind_short {pb : Nat} {a : Option Addr} {n c p : Nat} {bs : List Int} (w : World) (hp : Blk w pb [.slice a n c, .int .i64 ((p : Nat) : Int)]) (hs : Sl w (fun g => g < w.heap.size ∧ g ≠ pb) 1 (.slice a n c) n (ints .u8 bs)) (hb : Byt bs) (hpn : p ≤ n) (hn : n ≤ 140737488355328) (h3 : n < p + 3) :
  Calls Tryd.prog 90 #[.pointer (some ⟨pb, 0, none⟩)] w (Ret fun v w' => v = .tuple #[.int .i64 0, .int .i64 0, .bool false, .int .i64 3] ∧ Upd No w w') := by
 have HU := Upd.rno w
 have hbl_hp := hp.lt
 have hl_hs := ilen hs
 have hc_hs := hs.cap.1
 refine calls_of_W func90 rfl ntmps90 (by simp) ?_
 refine W_seq (W_region ?_)
 refine Was (.int .i64 0) ?_
 refine Was (.int .i64 0) ?_
 refine Was (.bool false) ?_
 refine Was (.int .i64 0) ?_
 refine Wl_nil (W_seq (W_seq (W_region ?_)))
 refine Wmv (.pointer (some ⟨pb, 0, none⟩)) ?_
 refine Wl_v (r_eqpn_s underlying112 rfl rfl) ?_
 refine Wl_nil ?_
 refine W_cond_f rfl ?_
 refine W_skip (W_seq (W_region ?_))
 refine Wmv (.pointer (some ⟨pb, 0, none⟩)) ?_
 refine Wl_call (r_call2 rfl call81 rfl rfl) (peek_k (t := n - p) (K := 3) _ hp (hs.cur (by intro h1; have h3 : (pb < w.heap.size ∧ pb ≠ pb) := h1; first | omega | simp at h3)) hb (by omega) (by omega) (by omega)) ?_
 rintro v w1 ⟨a1, c1, rfl, hO1, hU1⟩
 have hzw1 := hU1.size
 replace HU := HU.trans0 hU1
 replace hO1 := hO1.tight
 have hl_hO1 := ilen hO1.sl
 have hc_hO1 := hO1.sl.cap.1
 refine Was (.slice a1 (n - p) c1) ?_
 refine Wl_nil (W_seq (W_seq (W_region ?_)))
 refine Wmv (.slice a1 (n - p) c1) ?_
 refine Wl_v (r_len underlying22 rfl) ?_
 refine Wl_v (r_lt rfl rfl) ?_
 refine Wl_nil ?_
 have q1 : ((n - p : Nat) : Int) < 3 := (by omega)
 rw [decide_eq_true q1]
 refine W_cond_t rfl ?_
 refine W_seq (W_region ?_)
 refine Was (.int .i64 0) ?_
 refine Was (.int .i64 0) ?_
 refine Was (.bool false) ?_
 refine Was (.int .i64 3) ?_
 refine Wl_nil ?_
 refine W_ret ?_
 refine ret_end (v := .tuple #[.int .i64 0, .int .i64 0, .bool false, .int .i64 3]) rfl (res4 results90 rfl rfl rfl rfl) ?_
 exact ⟨_, rfl, rfl, HU⟩
theorem kind_ok {pb : Nat} {a : Option Addr} {n c p : Nat} {bs : List Int} (w : World) (hp : Blk w pb [.slice a n c, .int .i64 ((p : Nat) : Int)]) (hs : Sl w (fun g => g < w.heap.size ∧ g ≠ pb) 1 (.slice a n c) n (ints .u8 bs)) (hb : Byt bs) (hpn : p ≤ n) (hn : n ≤ 140737488355328) (h3 : ¬ n < p + 3) :
  Calls Tryd.prog 90 #[.pointer (some ⟨pb, 0, none⟩)] w (Ret fun v w' => v = .tuple #[.int .i64 (bkd bs p), .int .i64 (bsz bs p), .bool (decide (bla bs p = true)), .int .i64 0] ∧ Upd No w w') := by
 have HU := Upd.rno w
 have hbl_hp := hp.lt
 have hl_hs := ilen hs
 have hc_hs := hs.cap.1
 have hq0 := byt_gd (byt_take (byt_drop hb p) 3) 0
 have hq1 := byt_gd (byt_take (byt_drop hb p) 3) 1
 have hq2 := byt_gd (byt_take (byt_drop hb p) 3) 2
 have hbn := bnum_bd hb p
 refine calls_of_W func90 rfl ntmps90 (by simp) ?_
 refine W_seq (W_region ?_)
 refine Was (.int .i64 0) ?_
 refine Was (.int .i64 0) ?_
 refine Was (.bool false) ?_
 refine Was (.int .i64 0) ?_
 refine Wl_nil (W_seq (W_seq (W_region ?_)))
 refine Wmv (.pointer (some ⟨pb, 0, none⟩)) ?_
 refine Wl_v (r_eqpn_s underlying112 rfl rfl) ?_
 refine Wl_nil ?_
 refine W_cond_f rfl ?_
 refine W_skip (W_seq (W_region ?_))
 refine Wmv (.pointer (some ⟨pb, 0, none⟩)) ?_
 refine Wl_call (r_call2 rfl call81 rfl rfl) (peek_k (t := 3) (K := 3) _ hp (hs.cur (by intro h1; have h3 : (pb < w.heap.size ∧ pb ≠ pb) := h1; first | omega | simp at h3)) hb (by omega) (by omega) (by omega)) ?_
 rintro v w1 ⟨a1, c1, rfl, hO1, hU1⟩
 have hzw1 := hU1.size
 replace HU := HU.trans0 hU1
 replace hO1 := hO1.tight
 have hl_hO1 := ilen hO1.sl
 have hc_hO1 := hO1.sl.cap.1
 refine Was (.slice a1 3 c1) ?_
 refine Wl_nil (W_seq (W_seq (W_region ?_)))
 refine Wmv (.slice a1 3 c1) ?_
 refine Wl_v (r_len underlying22 rfl) ?_
 refine Wl_v (v := .bool false) (r_lt (a := 3) (b := 3) rfl rfl) ?_
 refine Wl_nil ?_
 refine W_cond_f rfl ?_
 refine W_skip (W_seq ?_)
 refine W_drawt rfl (l0 := tf 0 17) (by kernel_rfl) ?_
 refine Tk 0 (tf 1 17) rfl (YI_v (v := .slice a1 3 c1) rfl (fun w' hw' => r_mv (v := .slice a1 3 c1) rfl)) ?_
 obtain ⟨ib2, io2, ha2, hib2, hc2⟩ := (hO1.sl).iat (i := 0) (by omega)
 replace hib2 : ((w.heap.size ≤ ib2) ∧ ib2 < w1.heap.size) := hib2
 refine Tk 1 (tf 2 17) rfl (YI_v (v := .pointer (some ⟨ib2, io2 + 0, none⟩)) rfl (fun w' hw' => r_idx (b := ib2) (off := io2) (m := 3) (c := c1) (o' := io2 + 0) underlying22 sizeOf5 (by rw [← ha2]; rfl) rfl (by omega) (by omega) (by omega))) ?_
 refine Tk 2 (tf 3 17) rfl (YI_v (v := .int .u8 (((bs.drop p).take 3).getD 0 0)) rfl (fun w' hw' => r_load isAgg5 rfl (hw'.cellk hc2))) ?_
 refine Tk 3 (tf 4 17) rfl (YI_v (v := .int .i64 (((bs.drop p).take 3).getD 0 0)) rfl (fun w' hw' => r_cvt underlying5 underlying3 rfl (wi64 (by omega) (by omega)))) ?_
 refine Tk 4 (tf 5 17) rfl (YI_v (v := .slice a1 3 c1) rfl (fun w' hw' => r_mv (v := .slice a1 3 c1) rfl)) ?_
 obtain ⟨ib3, io3, ha3, hib3, hc3⟩ := (hO1.sl).iat (i := 1) (by omega)
 replace hib3 : ((w.heap.size ≤ ib3) ∧ ib3 < w1.heap.size) := hib3
 refine Tk 5 (tf 6 17) rfl (YI_v (v := .pointer (some ⟨ib3, io3 + 1, none⟩)) rfl (fun w' hw' => r_idx (b := ib3) (off := io3) (m := 3) (c := c1) (o' := io3 + 1) underlying22 sizeOf5 (by rw [← ha3]; rfl) rfl (by omega) (by omega) (by omega))) ?_
 refine Tk 6 (tf 7 17) rfl (YI_v (v := .int .u8 (((bs.drop p).take 3).getD 1 0)) rfl (fun w' hw' => r_load isAgg5 rfl (hw'.cellk hc3))) ?_
 refine Tk 7 (tf 8 17) rfl (YI_v (v := .int .i64 (((bs.drop p).take 3).getD 1 0)) rfl (fun w' hw' => r_cvt underlying5 underlying3 rfl (wi64 (by omega) (by omega)))) ?_
 refine Tk 8 (tf 9 17) rfl (YI_v (v := .int .i64 ((((bs.drop p).take 3).getD 1 0) * 256)) rfl (fun w' hw' => r_shl rfl rfl (by decide) (shl8_i64 hq1.1 hq1.2))) ?_
 refine Tk 9 (tf 10 17) rfl (YI_v (v := .int .i64 (((bs.drop p).take 3).getD 0 0 + (((bs.drop p).take 3).getD 1 0) * 256)) rfl (fun w' hw' => r_or rfl rfl (or_i64 8 256 (by decide) hq0.1 hq0.2 hq1.1 (by omega)))) ?_
 refine Tk 10 (tf 11 17) rfl (YI_v (v := .slice a1 3 c1) rfl (fun w' hw' => r_mv (v := .slice a1 3 c1) rfl)) ?_
 obtain ⟨ib4, io4, ha4, hib4, hc4⟩ := (hO1.sl).iat (i := 2) (by omega)
 replace hib4 : ((w.heap.size ≤ ib4) ∧ ib4 < w1.heap.size) := hib4
 refine Tk 11 (tf 12 17) rfl (YI_v (v := .pointer (some ⟨ib4, io4 + 2, none⟩)) rfl (fun w' hw' => r_idx (b := ib4) (off := io4) (m := 3) (c := c1) (o' := io4 + 2) underlying22 sizeOf5 (by rw [← ha4]; rfl) rfl (by omega) (by omega) (by omega))) ?_
 refine Tk 12 (tf 13 17) rfl (YI_v (v := .int .u8 (((bs.drop p).take 3).getD 2 0)) rfl (fun w' hw' => r_load isAgg5 rfl (hw'.cellk hc4))) ?_
 refine Tk 13 (tf 14 17) rfl (YI_v (v := .int .i64 (((bs.drop p).take 3).getD 2 0)) rfl (fun w' hw' => r_cvt underlying5 underlying3 rfl (wi64 (by omega) (by omega)))) ?_
 refine Tk 14 (tf 15 17) rfl (YI_v (v := .int .i64 ((((bs.drop p).take 3).getD 2 0) * 65536)) rfl (fun w' hw' => r_shl rfl rfl (by decide) (shl16_i64 hq2.1 hq2.2))) ?_
 refine Tk 15 (tf 16 17) rfl (YI_v (v := .int .i64 (((bs.drop p).take 3).getD 0 0 + (((bs.drop p).take 3).getD 1 0) * 256 + (((bs.drop p).take 3).getD 2 0) * 65536)) rfl (fun w' hw' => r_or rfl rfl (or_i64 16 65536 (by decide) (by omega) (by omega) hq2.1 (by omega)))) ?_
 refine Tk 16 (tf 17 17) rfl (YI_v (v := .int .i64 (((bs.drop p).take 3).getD 0 0 + (((bs.drop p).take 3).getD 1 0) * 256 + (((bs.drop p).take 3).getD 2 0) * 65536)) rfl (fun w' hw' => r_as (v := .int .i64 (((bs.drop p).take 3).getD 0 0 + (((bs.drop p).take 3).getD 1 0) * 256 + (((bs.drop p).take 3).getD 2 0) * 65536)) rfl)) ?_
 rw [show (((bs.drop p).take 3).getD 0 0 + (((bs.drop p).take 3).getD 1 0) * 256 + (((bs.drop p).take 3).getD 2 0) * 65536 : Int) = bnum bs p from bnum_cut]
 intro w5 hU5
 have hzw5 := hU5.size
 replace HU := HU.trans0 hU5
 replace hc2 := cell_upd0 hU5 hc2
 replace hc3 := cell_upd0 hU5 hc3
 replace hc4 := cell_upd0 hU5 hc4
 refine Wa_done (by kernel_rfl) ?_
 refine W_seq (W_region ?_)
 refine Wmv (.int .i64 (bnum bs p)) ?_
 refine Wl_v (r_shr (c := (bnum bs p) / 2) rfl rfl (by decide) rfl) ?_
 refine Wl_v (r_and rfl rfl (and3_i64 (by omega) (by omega))) ?_
 refine Wmv (.int .i64 (bnum bs p)) ?_
 refine Wl_v (r_shr (c := (bnum bs p) / 8) rfl rfl (by decide) rfl) ?_
 refine Wmv (.int .i64 (bnum bs p)) ?_
 refine Wl_v (r_and rfl rfl (and1_i64 (by omega) (by omega))) ?_
 refine Wl_v (r_eq rfl rfl) ?_
 refine Was (.int .i64 (((bnum bs p) / 2) % 4)) ?_
 refine Was (.int .i64 ((bnum bs p) / 8)) ?_
 refine Was (.bool (decide (((bnum bs p) % 2) = 1))) ?_
 refine Was (.int .i64 0) ?_
 refine Wl_nil ?_
 refine W_ret ?_
 refine ret_end (v := .tuple #[.int .i64 (((bnum bs p) / 2) % 4), .int .i64 ((bnum bs p) / 8), .bool (decide (((bnum bs p) % 2) = 1)), .int .i64 0]) rfl (res4 results90 rfl rfl rfl rfl) ?_
 exact ⟨_, rfl, (vtup4 rfl rfl (vbool bla_iff) rfl), HU⟩
set_option maxHeartbeats 2000000 in
theorem blk_all {pb : Nat} {a : Option Addr} {n c p : Nat} {bs : List Int} (w : World) (hp : Blk w pb [.slice a n c, .int .i64 ((p : Nat) : Int)]) (hs : Sl w (fun g => g < w.heap.size ∧ g ≠ pb) 1 (.slice a n c) n (ints .u8 bs)) (hb : Byt bs) (hpn : p ≤ n) (hn : n ≤ 140737488355328) :
  Calls Tryd.prog 71 #[.agg #[.pointer (some ⟨pb, 0, none⟩)]] w (Dual (berr bs p = 0) (Ret fun v w' => v = .agg #[.int .i64 ((p : Nat) : Int), .int .i64 (bkd bs p), .int .i64 (bsz bs p), .int .i64 (bst bs p), .bool (decide (bla bs p = true))] ∧ Blk w' pb [.slice a n c, .int .i64 ((bnx bs p : Nat) : Int)] ∧ Upd (Is pb) w w') (Pan (.iface 26 (.int .i64 (berr bs p))) fun w' => Upd (Is pb) w w')) := by
 have HU : Upd (fun b => b = pb) w w := Upd.refl _ _
 have hbl_hp := hp.lt
 have hl_hs := ilen hs
 have hc_hs := hs.cap.1
 have hb3 := bst_bd hb p
 refine calls_of_W func71 rfl ntmps71 (by simp) ?_
 refine W_seq (W_region ?_)
 refine Wl_box (v := .agg #[.pointer (some ⟨pb, 0, none⟩)]) (cs := [.pointer (some ⟨pb, 0, none⟩)]) rfl rfl ?_
 intro B1 w1 hB1 hU1 hzz1 hb1
 have hzw1 := hU1.size
 replace hp := hp.upd0 hU1
 replace hs := hs.upd0 hU1
 replace HU := HU.trans0 hU1
 refine Wl_alloc (cs := [.int .i64 0, .int .i64 0, .int .i64 0, .int .i64 0, .bool false]) zeroValue51 rfl ?_
 intro B2 w2 hB2 hU2 hzz2 hb2
 have hzw2 := hU2.size
 replace hp := hp.upd0 hU2
 replace hs := hs.upd0 hU2
 replace HU := HU.trans0 hU2
 replace hb1 := hb1.upd0 hU2
 refine Wl_nil (W_seq (W_region ?_))
 refine Wl_v (r_fld underlying115 rfl sizeOf112 rfl rfl) ?_
 refine Wl_load (v := .pointer (some ⟨pb, 0, none⟩)) isAgg112 rfl hb1 rfl ?_
 refine Wl_call (r_call1 rfl call64 rfl) (at_spec _ hp (by omega) (by omega) (by omega)) ?_
 rintro v w3 ⟨rfl, hU3⟩
 have hzw3 := hU3.size
 replace hp := hp.upd0 hU3
 replace hs := hs.upd0 hU3
 replace HU := HU.trans0 hU3
 replace hb1 := hb1.upd0 hU3
 replace hb2 := hb2.upd0 hU3
 refine Wl_v (r_build (pl := #[(0, 1), (1, 1), (2, 1), (3, 1), (4, 1)]) (pv := [(0, .int .i64 ((p : Nat) : Int))]) (cs := #[.int .i64 ((p : Nat) : Int), .int .i64 0, .int .i64 0, .int .i64 0, .bool false]) zeroValue51 underlying51 (fun w => by kernel_rfl) (by simp only [List.map_toArray, List.map_cons, List.map_nil] <;> rfl) (by kernel_rfl)) ?_
 refine Wl_alloc (cs := [.int .i64 0, .int .i64 0, .int .i64 0, .int .i64 0, .bool false]) zeroValue51 rfl ?_
 intro B4 w4 hB4 hU4 hzz4 hb4
 have hzw4 := hU4.size
 replace hp := hp.upd0 hU4
 replace hs := hs.upd0 hU4
 replace HU := HU.trans0 hU4
 replace hb1 := hb1.upd0 hU4
 replace hb2 := hb2.upd0 hU4
 refine Wl_storea (off := 0) (vs := [.int .i64 ((p : Nat) : Int), .int .i64 0, .int .i64 0, .int .i64 0, .bool false]) (cs' := [.int .i64 ((p : Nat) : Int), .int .i64 0, .int .i64 0, .int .i64 0, .bool false]) sizeOf51 rfl rfl rfl (by simp only [List.mem_cons, List.not_mem_nil, or_false, forall_eq_or_imp, forall_eq]; exact ⟨rfl, rfl, rfl, rfl, rfl⟩) hb4 (by simp) rfl ?_
 intro w5 hU5 hzz5 hb4n
 replace hb4 := hb4n; clear hb4n
 have hzw5 := hU5.size
 replace hp := hp.upd1 hU5 (by omega)
 replace hs := hs.upd1 hU5 (show ¬ ((B4 < w.heap.size ∧ B4 ≠ pb)) by omega)
 replace HU := HU.trans1 hU5 (by show (B4 = pb) ∨ w.heap.size ≤ B4; omega)
 replace hb1 := hb1.upd1 hU5 (by omega)
 replace hb2 := hb2.upd1 hU5 (by omega)
 refine Wl_nil (W_seq (W_region ?_))
 refine Wl_v (r_fld underlying115 rfl sizeOf112 rfl rfl) ?_
 refine Wl_load (v := .pointer (some ⟨pb, 0, none⟩)) isAgg112 rfl hb1 rfl ?_
 by_cases q1 : n < p + 3
 ·refine Wl_call (r_call1 rfl call90 rfl) (kind_short _ hp (hs.cur (by intro h1; have h3 : (pb < w.heap.size ∧ pb ≠ pb) := h1; first | omega | simp at h3)) hb (by omega) (by omega) (by omega)) ?_
  rintro v w6 ⟨rfl, hU6⟩
  have hzw6 := hU6.size
  replace HU := HU.trans0 hU6
  refine Wmv (.tuple #[.int .i64 0, .int .i64 0, .bool false, .int .i64 3]) ?_
  refine Wl_v (r_ext (v := .int .i64 0) rfl rfl) ?_
  refine Wl_v (r_ext (v := .int .i64 0) rfl rfl) ?_
  refine Wl_v (r_ext (v := .bool false) rfl rfl) ?_
  refine Wl_v (r_ext (v := .int .i64 3) rfl rfl) ?_
  refine Was (.int .i64 0) ?_
  refine Was (.int .i64 0) ?_
  refine Was (.bool false) ?_
  refine Was (.int .i64 3) ?_
  refine Wl_nil (W_seq (W_region ?_))
  refine Wmv (.int .i64 3) ?_
  refine Wl_v (v := .bool false) (r_eq (a := 3) (b := 0) rfl rfl) ?_
  refine Wmv (.int .i64 3) ?_
  refine Wl_callp (r_call2 rfl call79 rfl rfl) (smust_f _ ) ?_
  intro w7 hU7
  have hzw7 := hU7.size
  replace HU := HU.trans0 hU7
  refine pan_ds rfl ?_
  refine lv_panic ?_
  exact Or.inr ⟨by rw [(berr_short (by omega))]; exact (by decide), by rw [(berr_short (by omega))], HU⟩
 refine Wl_call (r_call1 rfl call90 rfl) (kind_ok _ hp (hs.cur (by intro h1; have h3 : (pb < w.heap.size ∧ pb ≠ pb) := h1; first | omega | simp at h3)) hb (by omega) (by omega) (by omega)) ?_
 rintro v w8 ⟨rfl, hU8⟩
 have hzw8 := hU8.size
 replace hp := hp.upd0 hU8
 replace hs := hs.upd0 hU8
 replace HU := HU.trans0 hU8
 replace hb1 := hb1.upd0 hU8
 replace hb2 := hb2.upd0 hU8
 replace hb4 := hb4.upd0 hU8
 refine Wmv (.tuple #[.int .i64 (bkd bs p), .int .i64 (bsz bs p), .bool (decide (bla bs p = true)), .int .i64 0]) ?_
 refine Wl_v (r_ext (v := .int .i64 (bkd bs p)) rfl rfl) ?_
 refine Wl_v (r_ext (v := .int .i64 (bsz bs p)) rfl rfl) ?_
 refine Wl_v (r_ext (v := .bool (decide (bla bs p = true))) rfl rfl) ?_
 refine Wl_v (r_ext (v := .int .i64 0) rfl rfl) ?_
 refine Was (.int .i64 (bkd bs p)) ?_
 refine Was (.int .i64 (bsz bs p)) ?_
 refine Was (.bool (decide (bla bs p = true))) ?_
 refine Was (.int .i64 0) ?_
 refine Wl_nil (W_seq (W_region ?_))
 refine Wmv (.int .i64 0) ?_
 refine Wl_v (v := .bool true) (r_eq (a := 0) (b := 0) rfl rfl) ?_
 refine Wmv (.int .i64 0) ?_
 refine Wl_call (r_call2 rfl call79 rfl rfl) (smust_t _ ) ?_
 rintro v w9 ⟨rfl, hU9⟩
 have hzw9 := hU9.size
 replace hp := hp.upd0 hU9
 replace hs := hs.upd0 hU9
 replace HU := HU.trans0 hU9
 replace hb1 := hb1.upd0 hU9
 replace hb2 := hb2.upd0 hU9
 replace hb4 := hb4.upd0 hU9
 refine Wl_nil (W_seq (W_region ?_))
 refine Wmv (.int .i64 (bkd bs p)) ?_
 refine Wl_v (r_ne rfl rfl) ?_
 by_cases q2 : (bkd bs p) ≠ 3
 ·rw [decide_eq_true q2]
  refine Wl_call (r_call2 rfl call79 rfl rfl) (smust_t _ ) ?_
  rintro v w10 ⟨rfl, hU10⟩
  have hzw10 := hU10.size
  replace hp := hp.upd0 hU10
  replace hs := hs.upd0 hU10
  replace HU := HU.trans0 hU10
  replace hb1 := hb1.upd0 hU10
  replace hb2 := hb2.upd0 hU10
  replace hb4 := hb4.upd0 hU10
  refine Wl_nil (W_seq (W_region ?_))
  refine Wmv (.int .i64 (bkd bs p)) ?_
  refine Wmv (.int .i64 (bsz bs p)) ?_
  refine Wmv (.int .i64 (bsz bs p)) ?_
  refine Wmv (.bool (decide (bla bs p = true))) ?_
  refine Wl_v (r_fld underlying51 rfl sizeOf49 rfl rfl) ?_
  refine Wl_store (v := .int .i64 (bkd bs p)) (cs' := [.int .i64 ((p : Nat) : Int), .int .i64 (bkd bs p), .int .i64 0, .int .i64 0, .bool false]) sizeOf49 rfl rfl rfl rfl hb4 rfl rfl ?_
  intro w11 hU11 hzz11 hb4n
  replace hb4 := hb4n; clear hb4n
  have hzw11 := hU11.size
  replace hp := hp.upd1 hU11 (by omega)
  replace hs := hs.upd1 hU11 (show ¬ ((B4 < w.heap.size ∧ B4 ≠ pb)) by omega)
  replace HU := HU.trans1 hU11 (by show (B4 = pb) ∨ w.heap.size ≤ B4; omega)
  replace hb1 := hb1.upd1 hU11 (by omega)
  replace hb2 := hb2.upd1 hU11 (by omega)
  refine Wl_v (r_fld underlying51 rfl sizeOf3 rfl rfl) ?_
  refine Wl_store (v := .int .i64 (bsz bs p)) (cs' := [.int .i64 ((p : Nat) : Int), .int .i64 (bkd bs p), .int .i64 (bsz bs p), .int .i64 0, .bool false]) sizeOf3 rfl rfl rfl rfl hb4 rfl rfl ?_
  intro w12 hU12 hzz12 hb4n
  replace hb4 := hb4n; clear hb4n
  have hzw12 := hU12.size
  replace hp := hp.upd1 hU12 (by omega)
  replace hs := hs.upd1 hU12 (show ¬ ((B4 < w.heap.size ∧ B4 ≠ pb)) by omega)
  replace HU := HU.trans1 hU12 (by show (B4 = pb) ∨ w.heap.size ≤ B4; omega)
  replace hb1 := hb1.upd1 hU12 (by omega)
  replace hb2 := hb2.upd1 hU12 (by omega)
  refine Wl_v (r_fld underlying51 rfl sizeOf3 rfl rfl) ?_
  refine Wl_store (v := .int .i64 (bsz bs p)) (cs' := [.int .i64 ((p : Nat) : Int), .int .i64 (bkd bs p), .int .i64 (bsz bs p), .int .i64 (bsz bs p), .bool false]) sizeOf3 rfl rfl rfl rfl hb4 rfl rfl ?_
  intro w13 hU13 hzz13 hb4n
  replace hb4 := hb4n; clear hb4n
  have hzw13 := hU13.size
  replace hp := hp.upd1 hU13 (by omega)
  replace hs := hs.upd1 hU13 (show ¬ ((B4 < w.heap.size ∧ B4 ≠ pb)) by omega)
  replace HU := HU.trans1 hU13 (by show (B4 = pb) ∨ w.heap.size ≤ B4; omega)
  replace hb1 := hb1.upd1 hU13 (by omega)
  replace hb2 := hb2.upd1 hU13 (by omega)
  refine Wl_v (r_fld underlying51 rfl sizeOf4 rfl rfl) ?_
  refine Wl_store (v := .bool (decide (bla bs p = true))) (cs' := [.int .i64 ((p : Nat) : Int), .int .i64 (bkd bs p), .int .i64 (bsz bs p), .int .i64 (bsz bs p), .bool (decide (bla bs p = true))]) sizeOf4 rfl rfl rfl rfl hb4 rfl rfl ?_
  intro w14 hU14 hzz14 hb4n
  replace hb4 := hb4n; clear hb4n
  have hzw14 := hU14.size
  replace hp := hp.upd1 hU14 (by omega)
  replace hs := hs.upd1 hU14 (show ¬ ((B4 < w.heap.size ∧ B4 ≠ pb)) by omega)
  replace HU := HU.trans1 hU14 (by show (B4 = pb) ∨ w.heap.size ≤ B4; omega)
  replace hb1 := hb1.upd1 hU14 (by omega)
  replace hb2 := hb2.upd1 hU14 (by omega)
  refine Wl_nil (W_seq (W_seq (W_region ?_)))
  refine Wmv (.int .i64 (bkd bs p)) ?_
  refine Wl_v (r_eq rfl rfl) ?_
  refine Wl_nil ?_
  by_cases q3 : (bkd bs p) = 1
  ·have hst : bst bs p = 1 := if_pos q3
   have hg1 := berr_gb (bs := bs) (p := p) (by omega) (fun h2 => q2 h2) hb3.1
   rw [hst] at hg1
   rw [decide_eq_true q3]
   refine W_cond_t rfl ?_
   refine W_region ?_
   refine Wl_v (r_fld underlying51 rfl sizeOf3 rfl rfl) ?_
   refine Wl_store (v := .int .i64 1) (cs' := [.int .i64 ((p : Nat) : Int), .int .i64 (bkd bs p), .int .i64 (bsz bs p), .int .i64 1, .bool (decide (bla bs p = true))]) sizeOf3 rfl rfl rfl rfl hb4 rfl rfl ?_
   intro w15 hU15 hzz15 hb4n
   replace hb4 := hb4n; clear hb4n
   have hzw15 := hU15.size
   replace hp := hp.upd1 hU15 (by omega)
   replace hs := hs.upd1 hU15 (show ¬ ((B4 < w.heap.size ∧ B4 ≠ pb)) by omega)
   replace HU := HU.trans1 hU15 (by show (B4 = pb) ∨ w.heap.size ≤ B4; omega)
   replace hb1 := hb1.upd1 hU15 (by omega)
   replace hb2 := hb2.upd1 hU15 (by omega)
   refine Wl_nil (W_seq (W_region ?_))
   refine Wl_v (r_fld underlying115 rfl sizeOf112 rfl rfl) ?_
   refine Wl_load (v := .pointer (some ⟨pb, 0, none⟩)) isAgg112 rfl hb1 rfl ?_
   refine Wl_call (r_call2 rfl call82 rfl rfl) (cbytes_k (K := 3) _ hp (hs.cur (by intro h1; have h3 : (pb < w.heap.size ∧ pb ≠ pb) := h1; first | omega | simp at h3)) hb (by omega) (by omega) (by omega)) ?_
   rintro v w16 ⟨a16, c16, rfl, hp16, hO16, hU16⟩
   have hzw16 := hU16.size
   replace hs := hs.upd1 hU16 (show ¬ ((pb < w.heap.size ∧ pb ≠ pb)) by omega)
   replace HU := HU.trans1 hU16 (by show (pb = pb) ∨ w.heap.size ≤ pb; omega)
   replace hb1 := hb1.upd1 hU16 (by omega)
   replace hb2 := hb2.upd1 hU16 (by omega)
   replace hb4 := hb4.upd1 hU16 (by omega)
   have hbl_hp16 := hp16.lt
   replace hO16 := hO16.tight
   have hl_hO16 := ilen hO16.sl
   have hc_hO16 := hO16.sl.cap.1
   refine Wl_v (r_ext (v := .slice a16 3 c16) rfl rfl) ?_
   refine Wl_v (r_ext (v := .int .i64 0) rfl rfl) ?_
   have q4 : 0 = 0 := (by decide)
   refine Wl_call (r_call2 rfl call67 rfl rfl) (got1_ok _ ) ?_
   rintro v w17 ⟨rfl, hU17⟩
   have hzw17 := hU17.size
   replace hs := hs.upd0 hU17
   replace HU := HU.trans0 hU17
   replace hb1 := hb1.upd0 hU17
   replace hb2 := hb2.upd0 hU17
   replace hb4 := hb4.upd0 hU17
   replace hp16 := hp16.upd0 hU17
   refine Wl_nil (W_seq (W_region ?_))
   refine Wl_v (r_fld underlying115 rfl sizeOf112 rfl rfl) ?_
   refine Wl_load (v := .pointer (some ⟨pb, 0, none⟩)) isAgg112 rfl hb1 rfl ?_
   refine Wl_v (r_fld underlying51 rfl sizeOf3 rfl rfl) ?_
   refine Wl_load (v := .int .i64 1) isAgg3 rfl hb4 rfl ?_
   refine Wl_call (r_call2 rfl call82 rfl rfl) (bytes_spec _ hp16 (hs.cur (by intro h1; have h3 : (pb < w.heap.size ∧ pb ≠ pb) := h1; first | omega | simp at h3)) hb (by omega) (by omega)) ?_
   rintro v w18 ⟨a18, m18, c18, rfl, hp18, hO18, hm_18, hU18⟩
   have hzw18 := hU18.size
   replace HU := HU.trans1 hU18 (by show (pb = pb) ∨ w.heap.size ≤ pb; omega)
   replace hb2 := hb2.upd1 hU18 (by omega)
   replace hb4 := hb4.upd1 hU18 (by omega)
   have hbl_hp18 := hp18.lt
   replace hO18 := hO18.tight
   have hl_hO18 := ilen hO18.sl
   have hc_hO18 := hO18.sl.cap.1
   refine Wl_v (r_ext (v := .slice a18 m18 c18) rfl rfl) ?_
   refine Wl_v (r_ext (v := .int .i64 ((gbytes bs (p + 3) 1).2.2)) rfl rfl) ?_
   by_cases q5 : ((gbytes bs (p + 3) 1).2.2) = 0
   ·rw [q5]
    refine Wl_call (r_call2 rfl call67 rfl rfl) (got1_ok _ ) ?_
    rintro v w19 ⟨rfl, hU19⟩
    have hzw19 := hU19.size
    replace HU := HU.trans0 hU19
    replace hb2 := hb2.upd0 hU19
    replace hb4 := hb4.upd0 hU19
    replace hp18 := hp18.upd0 hU19
    refine Wl_nil (W_seq (W_region ?_))
    refine Wl_v (r_loada (b := B4) (off := 0) (cs := [.int .i64 ((p : Nat) : Int), .int .i64 (bkd bs p), .int .i64 (bsz bs p), .int .i64 1, .bool (decide (bla bs p = true))]) isAgg51 sizeOf51 rfl rfl (fun j hj => by rw [hb4.cell]; match j, hj with | 0, _ => rfl | 1, _ => rfl | 2, _ => rfl | 3, _ => rfl | 4, _ => rfl)) ?_
    refine Wl_storea (off := 0) (vs := [.int .i64 ((p : Nat) : Int), .int .i64 (bkd bs p), .int .i64 (bsz bs p), .int .i64 1, .bool (decide (bla bs p = true))]) (cs' := [.int .i64 ((p : Nat) : Int), .int .i64 (bkd bs p), .int .i64 (bsz bs p), .int .i64 1, .bool (decide (bla bs p = true))]) sizeOf51 rfl rfl rfl (by simp only [List.mem_cons, List.not_mem_nil, or_false, forall_eq_or_imp, forall_eq]; exact ⟨rfl, rfl, rfl, rfl, rfl⟩) hb2 (by simp) rfl ?_
    intro w20 hU20 hzz20 hb2n
    replace hb2 := hb2n; clear hb2n
    have hzw20 := hU20.size
    replace HU := HU.trans1 hU20 (by show (B2 = pb) ∨ w.heap.size ≤ B2; omega)
    replace hp18 := hp18.upd1 hU20 (by omega)
    refine Wl_nil ?_
    refine W_ret ?_
    refine ret_end (v := .agg #[.int .i64 ((p : Nat) : Int), .int .i64 (bkd bs p), .int .i64 (bsz bs p), .int .i64 1, .bool (decide (bla bs p = true))]) rfl (rc1 results71 rfl (cellAgg isAgg51 sizeOf51 rfl hb2)) ?_
    refine Or.inl ⟨(hg1.1).trans q5, ?_⟩
    exact ⟨_, rfl, (by rw [hst]), (by rw [← hg1.2 q5]; exact hp18), HU⟩
   refine Wl_callp (r_call2 rfl call67 rfl rfl) (got1_no _ q5) ?_
   intro w21 hU21
   have hzw21 := hU21.size
   replace HU := HU.trans0 hU21
   refine pan_ds rfl ?_
   refine lv_panic ?_
   exact Or.inr ⟨by rw [hg1.1]; exact q5, by rw [hg1.1], HU⟩
  have hst : bst bs p = bsz bs p := if_neg q3
  have hg1 := berr_gb (bs := bs) (p := p) (by omega) (fun h2 => q2 h2) hb3.1
  rw [hst] at hg1
  rw [decide_eq_false q3]
  refine W_cond_f rfl ?_
  refine W_skip (W_seq (W_region ?_))
  refine Wl_v (r_fld underlying115 rfl sizeOf112 rfl rfl) ?_
  refine Wl_load (v := .pointer (some ⟨pb, 0, none⟩)) isAgg112 rfl hb1 rfl ?_
  refine Wl_call (r_call2 rfl call82 rfl rfl) (cbytes_k (K := 3) _ hp (hs.cur (by intro h1; have h3 : (pb < w.heap.size ∧ pb ≠ pb) := h1; first | omega | simp at h3)) hb (by omega) (by omega) (by omega)) ?_
  rintro v w22 ⟨a22, c22, rfl, hp22, hO22, hU22⟩
  have hzw22 := hU22.size
  replace hs := hs.upd1 hU22 (show ¬ ((pb < w.heap.size ∧ pb ≠ pb)) by omega)
  replace HU := HU.trans1 hU22 (by show (pb = pb) ∨ w.heap.size ≤ pb; omega)
  replace hb1 := hb1.upd1 hU22 (by omega)
  replace hb2 := hb2.upd1 hU22 (by omega)
  replace hb4 := hb4.upd1 hU22 (by omega)
  have hbl_hp22 := hp22.lt
  replace hO22 := hO22.tight
  have hl_hO22 := ilen hO22.sl
  have hc_hO22 := hO22.sl.cap.1
  refine Wl_v (r_ext (v := .slice a22 3 c22) rfl rfl) ?_
  refine Wl_v (r_ext (v := .int .i64 0) rfl rfl) ?_
  have q6 : 0 = 0 := (by decide)
  refine Wl_call (r_call2 rfl call67 rfl rfl) (got1_ok _ ) ?_
  rintro v w23 ⟨rfl, hU23⟩
  have hzw23 := hU23.size
  replace hs := hs.upd0 hU23
  replace HU := HU.trans0 hU23
  replace hb1 := hb1.upd0 hU23
  replace hb2 := hb2.upd0 hU23
  replace hb4 := hb4.upd0 hU23
  replace hp22 := hp22.upd0 hU23
  refine Wl_nil (W_seq (W_region ?_))
  refine Wl_v (r_fld underlying115 rfl sizeOf112 rfl rfl) ?_
  refine Wl_load (v := .pointer (some ⟨pb, 0, none⟩)) isAgg112 rfl hb1 rfl ?_
  refine Wl_v (r_fld underlying51 rfl sizeOf3 rfl rfl) ?_
  refine Wl_load (v := .int .i64 (bsz bs p)) isAgg3 rfl hb4 rfl ?_
  refine Wl_call (r_call2 rfl call82 rfl rfl) (bytes_spec _ hp22 (hs.cur (by intro h1; have h3 : (pb < w.heap.size ∧ pb ≠ pb) := h1; first | omega | simp at h3)) hb (by omega) (by omega)) ?_
  rintro v w24 ⟨a24, m24, c24, rfl, hp24, hO24, hm_24, hU24⟩
  have hzw24 := hU24.size
  replace HU := HU.trans1 hU24 (by show (pb = pb) ∨ w.heap.size ≤ pb; omega)
  replace hb2 := hb2.upd1 hU24 (by omega)
  replace hb4 := hb4.upd1 hU24 (by omega)
  have hbl_hp24 := hp24.lt
  replace hO24 := hO24.tight
  have hl_hO24 := ilen hO24.sl
  have hc_hO24 := hO24.sl.cap.1
  refine Wl_v (r_ext (v := .slice a24 m24 c24) rfl rfl) ?_
  refine Wl_v (r_ext (v := .int .i64 ((gbytes bs (p + 3) (bsz bs p)).2.2)) rfl rfl) ?_
  by_cases q7 : ((gbytes bs (p + 3) (bsz bs p)).2.2) = 0
  ·rw [q7]
   refine Wl_call (r_call2 rfl call67 rfl rfl) (got1_ok _ ) ?_
   rintro v w25 ⟨rfl, hU25⟩
   have hzw25 := hU25.size
   replace HU := HU.trans0 hU25
   replace hb2 := hb2.upd0 hU25
   replace hb4 := hb4.upd0 hU25
   replace hp24 := hp24.upd0 hU25
   refine Wl_nil (W_seq (W_region ?_))
   refine Wl_v (r_loada (b := B4) (off := 0) (cs := [.int .i64 ((p : Nat) : Int), .int .i64 (bkd bs p), .int .i64 (bsz bs p), .int .i64 (bsz bs p), .bool (decide (bla bs p = true))]) isAgg51 sizeOf51 rfl rfl (fun j hj => by rw [hb4.cell]; match j, hj with | 0, _ => rfl | 1, _ => rfl | 2, _ => rfl | 3, _ => rfl | 4, _ => rfl)) ?_
   refine Wl_storea (off := 0) (vs := [.int .i64 ((p : Nat) : Int), .int .i64 (bkd bs p), .int .i64 (bsz bs p), .int .i64 (bsz bs p), .bool (decide (bla bs p = true))]) (cs' := [.int .i64 ((p : Nat) : Int), .int .i64 (bkd bs p), .int .i64 (bsz bs p), .int .i64 (bsz bs p), .bool (decide (bla bs p = true))]) sizeOf51 rfl rfl rfl (by simp only [List.mem_cons, List.not_mem_nil, or_false, forall_eq_or_imp, forall_eq]; exact ⟨rfl, rfl, rfl, rfl, rfl⟩) hb2 (by simp) rfl ?_
   intro w26 hU26 hzz26 hb2n
   replace hb2 := hb2n; clear hb2n
   have hzw26 := hU26.size
   replace HU := HU.trans1 hU26 (by show (B2 = pb) ∨ w.heap.size ≤ B2; omega)
   replace hp24 := hp24.upd1 hU26 (by omega)
   refine Wl_nil ?_
   refine W_ret ?_
   refine ret_end (v := .agg #[.int .i64 ((p : Nat) : Int), .int .i64 (bkd bs p), .int .i64 (bsz bs p), .int .i64 (bsz bs p), .bool (decide (bla bs p = true))]) rfl (rc1 results71 rfl (cellAgg isAgg51 sizeOf51 rfl hb2)) ?_
   refine Or.inl ⟨(hg1.1).trans q7, ?_⟩
   exact ⟨_, rfl, (by rw [hst]), (by rw [← hg1.2 q7]; exact hp24), HU⟩
  refine Wl_callp (r_call2 rfl call67 rfl rfl) (got1_no _ q7) ?_
  intro w27 hU27
  have hzw27 := hU27.size
  replace HU := HU.trans0 hU27
  refine pan_ds rfl ?_
  refine lv_panic ?_
  exact Or.inr ⟨by rw [hg1.1]; exact q7, by rw [hg1.1], HU⟩
 rw [decide_eq_false q2]
 refine Wl_callp (r_call2 rfl call79 rfl rfl) (smust_f _ ) ?_
 intro w28 hU28
 have hzw28 := hU28.size
 replace HU := HU.trans0 hU28
 refine pan_ds rfl ?_
 refine lv_panic ?_
 exact Or.inr ⟨by rw [(berr_none (by omega) (Classical.not_not.1 q2))]; exact (by decide), by rw [(berr_none (by omega) (Classical.not_not.1 q2))], HU⟩
theorem blk_ok {pb : Nat} {a : Option Addr} {n c p : Nat} {bs : List Int} (w : World) (hp : Blk w pb [.slice a n c, .int .i64 ((p : Nat) : Int)]) (hs : Sl w (fun g => g < w.heap.size ∧ g ≠ pb) 1 (.slice a n c) n (ints .u8 bs)) (hb : Byt bs) (hpn : p ≤ n) (hn : n ≤ 140737488355328) (he : berr bs p = 0) :
  Calls Tryd.prog 71 #[.agg #[.pointer (some ⟨pb, 0, none⟩)]] w (Ret fun v w' => v = .agg #[.int .i64 ((p : Nat) : Int), .int .i64 (bkd bs p), .int .i64 (bsz bs p), .int .i64 (bst bs p), .bool (decide (bla bs p = true))] ∧ Blk w' pb [.slice a n c, .int .i64 ((bnx bs p : Nat) : Int)] ∧ Upd (Is pb) w w') :=
 (blk_all w hp hs hb hpn hn).mono fun e w1 h => Or.elim h (fun h => h.2) (fun h => absurd he h.1)
theorem blk_no {pb : Nat} {a : Option Addr} {n c p : Nat} {bs : List Int} (w : World) (hp : Blk w pb [.slice a n c, .int .i64 ((p : Nat) : Int)]) (hs : Sl w (fun g => g < w.heap.size ∧ g ≠ pb) 1 (.slice a n c) n (ints .u8 bs)) (hb : Byt bs) (hpn : p ≤ n) (hn : n ≤ 140737488355328) (he : ¬ berr bs p = 0) :
  Calls Tryd.prog 71 #[.agg #[.pointer (some ⟨pb, 0, none⟩)]] w (Pan (.iface 26 (.int .i64 (berr bs p))) fun w' => Upd (Is pb) w w') :=
 (blk_all w hp hs hb hpn hn).mono fun e w1 h => Or.elim h (fun h => absurd h.1 he) (fun h => h.2)
set_option maxHeartbeats 4000000 in
theorem part_all {pb : Nat} {a : Option Addr} {n c p : Nat} {bs : List Int} (w : World) (hp : Blk w pb [.slice a n c, .int .i64 ((p : Nat) : Int)]) (hs : Sl w (fun g => g < w.heap.size ∧ g ≠ pb) 1 (.slice a n c) n (ints .u8 bs)) (hb : Byt bs) (hpn : p ≤ n) (hn : n ≤ 140737488355328) (hm : n ≤ 100000) :
  Calls Tryd.prog 56 #[.agg #[.pointer (some ⟨pb, 0, none⟩)]] w (Dual ((gpart bs p).2.2 = 0) (Ret fun v w' => ∃ (a' : Option Addr) (m' : Nat) (c' : Nat), v = .agg #[.int .i64 ((gpart bs p).1.at_), .int .i64 ((gpart bs p).1.sz), .bool (decide ((gpart bs p).1.sk = true)), .int .i64 ((gpart bs p).1.pl), .int .i64 ((gpart bs p).1.hd.1), .int .i64 ((gpart bs p).1.hd.2.1), .int .u32 ((gpart bs p).1.hd.2.2.1), .bool (decide ((gpart bs p).1.hd.2.2.2 = true)), .slice a' m' c', .int .u32 ((gpart bs p).1.ck)] ∧ Blk w' pb [.slice a n c, .int .i64 (((gpart bs p).2.1 : Nat) : Int)] ∧ Own w' (fun g => w.heap.size ≤ g) 51 5 (.slice a' m' c') m' (rows encK ((gpart bs p).1.bl)) ∧ Upd (Is pb) w w') (Pan (.iface 26 (.int .i64 ((gpart bs p).2.2))) fun w' => Upd (Is pb) w w')) := by
 have HU : Upd (fun b => b = pb) w w := Upd.refl _ _
 have hbl_hp := hp.lt
 have hl_hs := ilen hs
 have hc_hs := hs.cap.1
 refine calls_of_W func56 rfl ntmps56 (by simp) ?_
 refine W_seq (W_region ?_)
 refine Wl_box (v := .agg #[.pointer (some ⟨pb, 0, none⟩)]) (cs := [.pointer (some ⟨pb, 0, none⟩)]) rfl rfl ?_
 intro B1 w1 hB1 hU1 hzz1 hb1
 have hzw1 := hU1.size
 replace hp := hp.upd0 hU1
 replace hs := hs.upd0 hU1
 replace HU := HU.trans0 hU1
 refine Wl_alloc (cs := [.int .i64 0, .int .i64 0, .bool false, .int .i64 0, .int .i64 0, .int .i64 0, .int .u32 0, .bool false, .slice none 0 0, .int .u32 0]) zeroValue45 rfl ?_
 intro B2 w2 hB2 hU2 hzz2 hb2
 have hzw2 := hU2.size
 replace hp := hp.upd0 hU2
 replace hs := hs.upd0 hU2
 replace HU := HU.trans0 hU2
 replace hb1 := hb1.upd0 hU2
 refine Wl_nil (W_seq (W_region ?_))
 refine Wl_v (r_fld underlying115 rfl sizeOf112 rfl rfl) ?_
 refine Wl_load (v := .pointer (some ⟨pb, 0, none⟩)) isAgg112 rfl hb1 rfl ?_
 refine Wl_call (r_call1 rfl call64 rfl) (at_spec _ hp (by omega) (by omega) (by omega)) ?_
 rintro v w3 ⟨rfl, hU3⟩
 have hzw3 := hU3.size
 replace hp := hp.upd0 hU3
 replace hs := hs.upd0 hU3
 replace HU := HU.trans0 hU3
 replace hb1 := hb1.upd0 hU3
 replace hb2 := hb2.upd0 hU3
 refine Wl_v (r_fld underlying45 rfl sizeOf3 rfl rfl) ?_
 refine Wl_store (v := .int .i64 ((p : Nat) : Int)) (cs' := [.int .i64 ((p : Nat) : Int), .int .i64 0, .bool false, .int .i64 0, .int .i64 0, .int .i64 0, .int .u32 0, .bool false, .slice none 0 0, .int .u32 0]) sizeOf3 rfl rfl rfl rfl hb2 rfl rfl ?_
 intro w4 hU4 hzz4 hb2n
 replace hb2 := hb2n; clear hb2n
 have hzw4 := hU4.size
 replace hp := hp.upd1 hU4 (by omega)
 replace hs := hs.upd1 hU4 (show ¬ ((B2 < w.heap.size ∧ B2 ≠ pb)) by omega)
 replace HU := HU.trans1 hU4 (by show (B2 = pb) ∨ w.heap.size ≤ B2; omega)
 replace hb1 := hb1.upd1 hU4 (by omega)
 refine Wl_nil (W_seq (W_seq (W_region ?_)))
 refine Wl_v (r_fld underlying115 rfl sizeOf112 rfl rfl) ?_
 refine Wl_load (v := .pointer (some ⟨pb, 0, none⟩)) isAgg112 rfl hb1 rfl ?_
 refine Wl_call (r_call1 rfl call66 rfl) (isf_spec _ hp (hs.cur (by intro h1; have h3 : (pb < w.heap.size ∧ pb ≠ pb) := h1; first | omega | simp at h3)) hb (by omega) (by omega)) ?_
 rintro v w5 ⟨rfl, hU5⟩
 have hzw5 := hU5.size
 replace hp := hp.upd0 hU5
 replace hs := hs.upd0 hU5
 replace HU := HU.trans0 hU5
 replace hb1 := hb1.upd0 hU5
 replace hb2 := hb2.upd0 hU5
 refine Wl_v (r_ext (v := .bool (decide ((hmk bs p).1 = 1))) rfl rfl) ?_
 refine Wl_v (r_ext (v := .int .i64 ((hmk bs p).2)) rfl rfl) ?_
 by_cases q1 : ((hmk bs p).2) = 0
 ·rw [q1]
  refine Wl_call (r_call2 rfl call65 rfl rfl) (got0_ok _ ) ?_
  rintro v w6 ⟨rfl, hU6⟩
  have hzw6 := hU6.size
  replace hp := hp.upd0 hU6
  replace hs := hs.upd0 hU6
  replace HU := HU.trans0 hU6
  replace hb1 := hb1.upd0 hU6
  replace hb2 := hb2.upd0 hU6
  refine Wl_v (r_not rfl) ?_
  refine Wl_nil ?_
  by_cases q2 : (hmk bs p).1 = 1
  ·rw [decide_eq_true q2]
   simp only [Bool.not_true, Bool.not_false]
   refine W_cond_f rfl ?_
   refine W_skip (W_seq (W_region ?_))
   refine Wl_v (r_fld underlying115 rfl sizeOf112 rfl rfl) ?_
   refine Wl_load (v := .pointer (some ⟨pb, 0, none⟩)) isAgg112 rfl hb1 rfl ?_
   refine Wl_call (r_call1 rfl call70 rfl) (get_spec _ hp (hs.cur (by intro h1; have h3 : (pb < w.heap.size ∧ pb ≠ pb) := h1; first | omega | simp at h3)) hb (by omega) (by omega)) ?_
   rintro v w7 ⟨rfl, hp7, hU7⟩
   have hzw7 := hU7.size
   replace hs := hs.upd1 hU7 (show ¬ ((pb < w.heap.size ∧ pb ≠ pb)) by omega)
   replace HU := HU.trans1 hU7 (by show (pb = pb) ∨ w.heap.size ≤ pb; omega)
   replace hb1 := hb1.upd1 hU7 (by omega)
   replace hb2 := hb2.upd1 hU7 (by omega)
   have hbl_hp7 := hp7.lt
   refine Wl_v (r_ext (v := .agg #[.int .i64 ((ghead bs p).1.1), .int .i64 ((ghead bs p).1.2.1), .int .u32 ((ghead bs p).1.2.2.1), .bool (decide ((ghead bs p).1.2.2.2 = true))]) rfl rfl) ?_
   refine Wl_v (r_ext (v := .int .i64 ((ghead bs p).2.2)) rfl rfl) ?_
   by_cases q3 : ((ghead bs p).2.2) = 0
   ·have hgg := ghead_ge q3
    rw [q3]
    refine Wl_call (r_call2 rfl call69 rfl rfl) (got3_ok _ ) ?_
    rintro v w8 ⟨rfl, hU8⟩
    have hzw8 := hU8.size
    replace hs := hs.upd0 hU8
    replace HU := HU.trans0 hU8
    replace hb1 := hb1.upd0 hU8
    replace hb2 := hb2.upd0 hU8
    replace hp7 := hp7.upd0 hU8
    refine Wl_v (r_fld underlying45 rfl sizeOf41 rfl rfl) ?_
    refine Wl_storea (off := 4) (vs := [.int .i64 ((ghead bs p).1.1), .int .i64 ((ghead bs p).1.2.1), .int .u32 ((ghead bs p).1.2.2.1), .bool (decide ((ghead bs p).1.2.2.2 = true))]) (cs' := [.int .i64 ((p : Nat) : Int), .int .i64 0, .bool false, .int .i64 0, .int .i64 ((ghead bs p).1.1), .int .i64 ((ghead bs p).1.2.1), .int .u32 ((ghead bs p).1.2.2.1), .bool (decide ((ghead bs p).1.2.2.2 = true)), .slice none 0 0, .int .u32 0]) sizeOf41 rfl rfl rfl (by simp only [List.mem_cons, List.not_mem_nil, or_false, forall_eq_or_imp, forall_eq]; exact ⟨rfl, rfl, rfl, rfl⟩) hb2 (by simp) rfl ?_
    intro w9 hU9 hzz9 hb2n
    replace hb2 := hb2n; clear hb2n
    have hzw9 := hU9.size
    replace hs := hs.upd1 hU9 (show ¬ ((B2 < w.heap.size ∧ B2 ≠ pb)) by omega)
    replace HU := HU.trans1 hU9 (by show (B2 = pb) ∨ w.heap.size ≤ B2; omega)
    replace hb1 := hb1.upd1 hU9 (by omega)
    replace hp7 := hp7.upd1 hU9 (by omega)
    refine Wl_nil (W_seq (W_block ?_))
    refine W_loop (fun mu ρ ds w' => ∃ (q : Nat) (acc : List BK) (a1 : Option Addr) (m1 : Nat) (c1 : Nat), n - q = mu ∧ ds = [] ∧ Liv ρ [(1, .pointer (some ⟨B1, 0, none⟩)), (2, .pointer (some ⟨B2, 0, none⟩))] ∧ q ≤ n ∧ acc.length * 3 ≤ q ∧ gb bs (ghead bs p).2.1 = (acc ++ (gb bs q).1, (gb bs q).2) ∧ Blk w' B2 [.int .i64 ((p : Nat) : Int), .int .i64 0, .bool false, .int .i64 0, .int .i64 ((ghead bs p).1.1), .int .i64 ((ghead bs p).1.2.1), .int .u32 ((ghead bs p).1.2.2.1), .bool (decide ((ghead bs p).1.2.2.2 = true)), .slice a1 m1 c1, .int .u32 0] ∧ Blk w' pb [.slice a n c, .int .i64 ((q : Nat) : Int)] ∧ Own w' (fun g => w9.heap.size ≤ g) 51 5 (.slice a1 m1 c1) m1 (rows encK acc) ∧ Upd (fun g => g = pb ∨ g = B2 ∨ w9.heap.size ≤ g) w9 w') _ ⟨(ghead bs p).2.1, [], none, 0, 0, rfl, rfl, ⟨rfl, rfl, trivial⟩, (by omega), (by simp), (by simp), hb2, hp7, (by exact Own.nil _ _ _ _), Upd.refl _ _⟩ ?_
    rintro m10 ρ10 ds10 w10 ⟨q, acc, a1, m1, c1, rfl, rfl, hl10, hqn, hac, hgb, hb2, hp7, hO, hU10⟩
    obtain ⟨ρ10x, rfl⟩ : ∃ ρx, ρ10 = upds ρx [(1, .pointer (some ⟨B1, 0, none⟩)), (2, .pointer (some ⟨B2, 0, none⟩))] := ⟨_, upds_self hl10⟩
    clear hl10
    have hzw10 := hU10.size
    replace hs := hs.upd hU10 (by intro x h1 h2; have h3 : (x < w.heap.size ∧ x ≠ pb) := h1; have h4 : x = pb ∨ x = B2 ∨ w9.heap.size ≤ x := h2; omega)
    replace HU := HU.trans hU10 (by intro x hx; have hx2 : x = pb ∨ x = B2 ∨ w9.heap.size ≤ x := hx; show (x = pb) ∨ w.heap.size ≤ x; omega)
    replace hb1 := hb1.upd hU10 (by intro hx; have hx2 : B1 = pb ∨ B1 = B2 ∨ w9.heap.size ≤ B1 := hx; omega)
    replace hO := hO.tight
    have hl_hO := rlen encK_len (by decide) hO.sl
    have hc_hO := hO.sl.cap.1
    have HL10 := hU10
    refine W_block (W_seq (W_region ?_))
    refine Wl_v (r_loada (b := B1) (off := 0) (cs := [.pointer (some ⟨pb, 0, none⟩)]) isAgg115 sizeOf115 rfl rfl (fun j hj => by rw [hb1.cell]; match j, hj with | 0, _ => rfl)) ?_
    by_cases q4 : berr bs q = 0
    ·refine Wl_call (r_call1 rfl call71 rfl) (blk_ok (p := q) _ hp7 (hs.cur (by intro h1; have h3 : (pb < w.heap.size ∧ pb ≠ pb) := h1; first | omega | simp at h3)) hb (by omega) (by omega) q4) ?_
     rintro v w11 ⟨rfl, hp11, hU11⟩
     have hzw11 := hU11.size
     replace hs := hs.upd1 hU11 (show ¬ ((pb < w.heap.size ∧ pb ≠ pb)) by omega)
     replace HU := HU.trans1 hU11 (by show (pb = pb) ∨ w.heap.size ≤ pb; omega)
     replace hb1 := hb1.upd1 hU11 (by omega)
     replace hb2 := hb2.upd1 hU11 (by omega)
     replace hO := hO.upd1 hU11 (show ¬ (((w9.heap.size ≤ pb) ∧ pb < w10.heap.size)) by omega)
     replace HL10 := HL10.trans1 hU11 (by show (pb = pb ∨ pb = B2 ∨ w9.heap.size ≤ pb) ∨ w9.heap.size ≤ pb; omega)
     have hbl_hp11 := hp11.lt
     have hbx := bnx_le q4
     refine Wl_alloc (cs := [.int .i64 0, .int .i64 0, .int .i64 0, .int .i64 0, .bool false]) zeroValue51 rfl ?_
     intro B12 w12 hB12 hU12 hzz12 hb12
     have hzw12 := hU12.size
     replace hs := hs.upd0 hU12
     replace HU := HU.trans0 hU12
     replace hb1 := hb1.upd0 hU12
     replace hb2 := hb2.upd0 hU12
     replace hO := hO.upd0 hU12
     replace HL10 := HL10.trans0 hU12
     replace hp11 := hp11.upd0 hU12
     refine Wl_storea (off := 0) (vs := [.int .i64 ((q : Nat) : Int), .int .i64 (bkd bs q), .int .i64 (bsz bs q), .int .i64 (bst bs q), .bool (decide (bla bs q = true))]) (cs' := [.int .i64 ((q : Nat) : Int), .int .i64 (bkd bs q), .int .i64 (bsz bs q), .int .i64 (bst bs q), .bool (decide (bla bs q = true))]) sizeOf51 rfl rfl rfl (by simp only [List.mem_cons, List.not_mem_nil, or_false, forall_eq_or_imp, forall_eq]; exact ⟨rfl, rfl, rfl, rfl, rfl⟩) hb12 (by simp) rfl ?_
     intro w13 hU13 hzz13 hb12n
     replace hb12 := hb12n; clear hb12n
     have hzw13 := hU13.size
     replace hs := hs.upd1 hU13 (show ¬ ((B12 < w.heap.size ∧ B12 ≠ pb)) by omega)
     replace HU := HU.trans1 hU13 (by show (B12 = pb) ∨ w.heap.size ≤ B12; omega)
     replace hb1 := hb1.upd1 hU13 (by omega)
     replace hb2 := hb2.upd1 hU13 (by omega)
     replace hO := hO.upd1 hU13 (show ¬ (((w9.heap.size ≤ B12) ∧ B12 < w10.heap.size)) by omega)
     replace HL10 := HL10.trans1 hU13 (by show (B12 = pb ∨ B12 = B2 ∨ w9.heap.size ≤ B12) ∨ w9.heap.size ≤ B12; omega)
     replace hp11 := hp11.upd1 hU13 (by omega)
     refine Wl_nil (W_seq (W_region ?_))
     refine Wl_v (r_fld underlying45 rfl sizeOf43 rfl rfl) ?_
     refine Wl_load (v := .slice a1 m1 c1) isAgg43 rfl hb2 rfl ?_
     refine Wl_v (r_loada (b := B12) (off := 0) (cs := [.int .i64 ((q : Nat) : Int), .int .i64 (bkd bs q), .int .i64 (bsz bs q), .int .i64 (bst bs q), .bool (decide (bla bs q = true))]) isAgg51 sizeOf51 rfl rfl (fun j hj => by rw [hb12.cell]; match j, hj with | 0, _ => rfl | 1, _ => rfl | 2, _ => rfl | 3, _ => rfl | 4, _ => rfl)) ?_
     refine Wl_lit (pv := [(0, .agg #[.int .i64 ((q : Nat) : Int), .int .i64 (bkd bs q), .int .i64 (bsz bs q), .int .i64 (bst bs q), .bool (decide (bla bs q = true))])]) (cs := [.int .i64 ((q : Nat) : Int), .int .i64 (bkd bs q), .int .i64 (bsz bs q), .int .i64 (bst bs q), .bool (decide (bla bs q = true))]) underlying43 sizeOf51 zeroValue51 (by decide) (by decide) (by simp only [List.map_toArray, List.map_cons, List.map_nil] <;> rfl) (by kernel_rfl) rfl (by decide) ?_
     intro B14 w14 hB14 hU14 hzz14 hs14
     have hzw14 := hU14.size
     replace hs := hs.upd0 hU14
     replace HU := HU.trans0 hU14
     replace hb1 := hb1.upd0 hU14
     replace hb2 := hb2.upd0 hU14
     replace hO := hO.upd0 hU14
     replace HL10 := HL10.trans0 hU14
     replace hp11 := hp11.upd0 hU14
     replace hb12 := hb12.upd0 hU14
     replace hs14 : Own w14 (Is B14) 51 5 (.slice (some ⟨B14, 0, none⟩) 1 1) 1 (rows encK [bk bs q]) := hs14
     refine Wl_appendc (cs3 := rows encK (acc ++ [bk bs q])) (tot := m1 + 1) (by first | rfl | exact (rows_app _ _).symm | simp) underlying43 (ti := Tryd.t51) (z := .agg #[.int .i64 0, .int .i64 0, .int .i64 0, .int .i64 0, .bool false]) (sz := 5) (by' := 40) rfl rfl rfl rfl rfl (by decide) rfl hO rfl hs14.sl (rows_one encK_one _) (by omega) (by simp only [maxLen]; omega) (by omega) ?_
     intro a15 c15 w15 hU15 hzz15 hO15
     clear hO
     have hzw15 := hU15.size
     replace hs := hs.upd hU15 (by intro x h1 h2; have h3 : (x < w.heap.size ∧ x ≠ pb) := h1; have h4 : ((w9.heap.size ≤ x) ∧ x < w10.heap.size) := h2; omega)
     replace HU := HU.trans hU15 (by intro x hx; have hx2 : ((w9.heap.size ≤ x) ∧ x < w10.heap.size) := hx; show (x = pb) ∨ w.heap.size ≤ x; omega)
     replace hb1 := hb1.upd hU15 (by intro hx; have hx2 : ((w9.heap.size ≤ B1) ∧ B1 < w10.heap.size) := hx; omega)
     replace hb2 := hb2.upd hU15 (by intro hx; have hx2 : ((w9.heap.size ≤ B2) ∧ B2 < w10.heap.size) := hx; omega)
     replace HL10 := HL10.trans hU15 (by intro x hx; have hx2 : ((w9.heap.size ≤ x) ∧ x < w10.heap.size) := hx; show (x = pb ∨ x = B2 ∨ w9.heap.size ≤ x) ∨ w9.heap.size ≤ x; omega)
     replace hp11 := hp11.upd hU15 (by intro hx; have hx2 : ((w9.heap.size ≤ pb) ∧ pb < w10.heap.size) := hx; omega)
     replace hb12 := hb12.upd hU15 (by intro hx; have hx2 : ((w9.heap.size ≤ B12) ∧ B12 < w10.heap.size) := hx; omega)
     replace hO15 := hO15.tight
     have hl_hO15 := rlen encK_len (by decide) hO15.sl
     have hc_hO15 := hO15.sl.cap.1
     refine Wl_v (r_fld underlying45 rfl sizeOf43 rfl rfl) ?_
     refine Wl_store (v := .slice a15 (m1 + 1) c15) (cs' := [.int .i64 ((p : Nat) : Int), .int .i64 0, .bool false, .int .i64 0, .int .i64 ((ghead bs p).1.1), .int .i64 ((ghead bs p).1.2.1), .int .u32 ((ghead bs p).1.2.2.1), .bool (decide ((ghead bs p).1.2.2.2 = true)), .slice a15 (m1 + 1) c15, .int .u32 0]) sizeOf43 rfl rfl rfl rfl hb2 rfl rfl ?_
     intro w16 hU16 hzz16 hb2n
     replace hb2 := hb2n; clear hb2n
     have hzw16 := hU16.size
     replace hs := hs.upd1 hU16 (show ¬ ((B2 < w.heap.size ∧ B2 ≠ pb)) by omega)
     replace HU := HU.trans1 hU16 (by show (B2 = pb) ∨ w.heap.size ≤ B2; omega)
     replace hb1 := hb1.upd1 hU16 (by omega)
     replace HL10 := HL10.trans1 hU16 (by show (B2 = pb ∨ B2 = B2 ∨ w9.heap.size ≤ B2) ∨ w9.heap.size ≤ B2; omega)
     replace hp11 := hp11.upd1 hU16 (by omega)
     replace hb12 := hb12.upd1 hU16 (by omega)
     replace hO15 := hO15.upd1 hU16 (by intro h1; have h3 : ((((((w9.heap.size ≤ B2) ∧ B2 < w10.heap.size)) ∨ B2 = w14.heap.size)) ∧ B2 < w15.heap.size) := h1; omega)
     refine Wl_nil (W_seq (W_region ?_))
     refine Wl_v (r_fld underlying51 rfl sizeOf4 rfl rfl) ?_
     refine Wl_load (v := .bool (decide (bla bs q = true))) isAgg4 rfl hb12 rfl ?_
     refine Wl_nil ?_
     by_cases q5 : bla bs q = true
     ·have hgt := gb_last q4 q5
      have hgl : gb bs (ghead bs p).2.1 = (acc ++ [bk bs q], bnx bs q, 0) := by rw [hgb, hgt]
      have hge : (gb bs (ghead bs p).2.1).2.2 = 0 := by rw [hgl]
      have hgq : (gword bs (gb bs (ghead bs p).2.1).2.1) = gword bs (bnx bs q) := by rw [hgl]
      rw [decide_eq_true q5]
      refine W_cond_t rfl ?_
      refine W_exit ?_
      refine W_seq (W_seq (W_region ?_))
      refine Wl_v (r_fld underlying45 rfl sizeOf41 rfl rfl) ?_
      refine Wl_v (r_fld underlying41 rfl sizeOf4 rfl rfl) ?_
      refine Wl_load (v := .bool (decide ((ghead bs p).1.2.2.2 = true))) isAgg4 rfl hb2 rfl ?_
      refine Wl_nil ?_
      by_cases q6 : (ghead bs p).1.2.2.2 = true
      ·rw [decide_eq_true q6]
       refine W_cond_t rfl ?_
       refine W_region ?_
       refine Wl_v (r_fld underlying115 rfl sizeOf112 rfl rfl) ?_
       refine Wl_load (v := .pointer (some ⟨pb, 0, none⟩)) isAgg112 rfl hb1 rfl ?_
       refine Wl_call (r_call1 rfl call73 rfl) (cword_spec _ hp11 (hs.cur (by intro h1; have h3 : (pb < w.heap.size ∧ pb ≠ pb) := h1; first | omega | simp at h3)) hb (by omega) (by omega)) ?_
       rintro v w17 ⟨rfl, hp17, hU17⟩
       have hzw17 := hU17.size
       replace HU := HU.trans1 hU17 (by show (pb = pb) ∨ w.heap.size ≤ pb; omega)
       replace hb1 := hb1.upd1 hU17 (by omega)
       replace hb2 := hb2.upd1 hU17 (by omega)
       replace hO15 := hO15.upd1 hU17 (by intro h1; have h3 : ((((((w9.heap.size ≤ pb) ∧ pb < w10.heap.size)) ∨ pb = w14.heap.size)) ∧ pb < w15.heap.size) := h1; omega)
       have hbl_hp17 := hp17.lt
       refine Wl_v (r_ext (v := .int .u32 ((gword bs (bnx bs q)).1)) rfl rfl) ?_
       refine Wl_v (r_ext (v := .int .i64 ((gword bs (bnx bs q)).2.2)) rfl rfl) ?_
       by_cases q7 : ((gword bs (bnx bs q)).2.2) = 0
       ·have hgi := gword_in (bs := bs) q7
        rw [q7]
        refine Wl_call (r_call2 rfl call72 rfl rfl) (got2_ok _ ) ?_
        rintro v w18 ⟨rfl, hU18⟩
        have hzw18 := hU18.size
        replace HU := HU.trans0 hU18
        replace hb1 := hb1.upd0 hU18
        replace hb2 := hb2.upd0 hU18
        replace hO15 := hO15.upd0 hU18
        replace hp17 := hp17.upd0 hU18
        refine Wl_v (r_fld underlying45 rfl sizeOf39 rfl rfl) ?_
        refine Wl_store (v := .int .u32 ((gword bs (bnx bs q)).1)) (cs' := [.int .i64 ((p : Nat) : Int), .int .i64 0, .bool false, .int .i64 0, .int .i64 ((ghead bs p).1.1), .int .i64 ((ghead bs p).1.2.1), .int .u32 ((ghead bs p).1.2.2.1), .bool (decide ((ghead bs p).1.2.2.2 = true)), .slice a15 (m1 + 1) c15, .int .u32 ((gword bs (bnx bs q)).1)]) sizeOf39 rfl rfl rfl rfl hb2 rfl rfl ?_
        intro w19 hU19 hzz19 hb2n
        replace hb2 := hb2n; clear hb2n
        have hzw19 := hU19.size
        replace HU := HU.trans1 hU19 (by show (B2 = pb) ∨ w.heap.size ≤ B2; omega)
        replace hb1 := hb1.upd1 hU19 (by omega)
        replace hO15 := hO15.upd1 hU19 (by intro h1; have h3 : ((((((w9.heap.size ≤ B2) ∧ B2 < w10.heap.size)) ∨ B2 = w14.heap.size)) ∧ B2 < w15.heap.size) := h1; omega)
        replace hp17 := hp17.upd1 hU19 (by omega)
        refine Wl_nil (W_seq ?_)
        refine W_drawt rfl (l0 := tf 0 8) (by kernel_rfl) ?_
        refine Tk 0 (tf 1 8) rfl (YI_v (v := .pointer (some ⟨B1, 0, none⟩)) rfl (fun w' hw' => r_fld underlying115 rfl sizeOf112 rfl rfl)) ?_
        refine Tk 1 (tf 2 8) rfl (YI_v (v := .pointer (some ⟨pb, 0, none⟩)) rfl (fun w' hw' => r_load isAgg112 rfl (by rw [(hb1.upd0 hw').cell]; rfl))) ?_
        refine Tk 2 (tf 3 8) rfl (YI_c (v := .int .i64 (((gword bs (bnx bs q)).2.1 : Nat) : Int)) rfl (fun w' => r_call1 rfl call64 rfl) (fun w' hw' => at_spec w' (hp17.upd0 hw') (by omega) (by omega) (by omega))) ?_
        refine Tk 3 (tf 4 8) rfl (YI_v (v := .pointer (some ⟨B2, 0, none⟩)) rfl (fun w' hw' => r_fld underlying45 rfl sizeOf3 rfl rfl)) ?_
        refine Tk 4 (tf 5 8) rfl (YI_v (v := .int .i64 ((p : Nat) : Int)) rfl (fun w' hw' => r_load isAgg3 rfl (by rw [(hb2.upd0 hw').cell]; rfl))) ?_
        refine Tk 5 (tf 6 8) rfl (YI_v (v := .int .i64 ((((gword bs (bnx bs q)).2.1 : Nat) : Int) - ((p : Nat) : Int))) rfl (fun w' hw' => r_sub rfl rfl (wi64 (by omega) (by omega)))) ?_
        refine Tk 6 (tf 7 8) rfl (YI_v (v := .pointer (some ⟨B2, 1, none⟩)) rfl (fun w' hw' => r_fld underlying45 rfl sizeOf3 rfl rfl)) ?_
        intro w20 hU20
        have hzw20 := hU20.size
        replace HU := HU.trans0 hU20
        replace hb2 := hb2.upd0 hU20
        replace hO15 := hO15.upd0 hU20
        replace hp17 := hp17.upd0 hU20
        refine Wa_one (i := 7) (listed' := tf 8 8) (by kernel_rfl) rfl (by kernel_rfl) ?_
        refine Ws_of_Wl ?_
        have hW : Upd No w19 w20 := hU20
        refine Wl_store (v := .int .i64 ((((gword bs (bnx bs q)).2.1 : Nat) : Int) - ((p : Nat) : Int))) (cs' := [.int .i64 ((p : Nat) : Int), .int .i64 ((((gword bs (bnx bs q)).2.1 : Nat) : Int) - ((p : Nat) : Int)), .bool false, .int .i64 0, .int .i64 ((ghead bs p).1.1), .int .i64 ((ghead bs p).1.2.1), .int .u32 ((ghead bs p).1.2.2.1), .bool (decide ((ghead bs p).1.2.2.2 = true)), .slice a15 (m1 + 1) c15, .int .u32 ((gword bs (bnx bs q)).1)]) sizeOf3 rfl rfl rfl rfl hb2 rfl rfl ?_
        intro w21 hU21 hzz21 hb2n
        replace hb2 := hb2n; clear hb2n
        have hzw21 := hU21.size
        replace HU := HU.trans1 hU21 (by show (B2 = pb) ∨ w.heap.size ≤ B2; omega)
        replace hO15 := hO15.upd1 hU21 (by intro h1; have h3 : ((((((w9.heap.size ≤ B2) ∧ B2 < w10.heap.size)) ∨ B2 = w14.heap.size)) ∧ B2 < w15.heap.size) := h1; omega)
        replace hp17 := hp17.upd1 hU21 (by omega)
        refine Wl_nil ?_
        intro w22 hS22
        refine ⟨fun h => absurd h (by rw [show barOp _ 7 = true from by kernel_rfl]; simp), fun _ => ⟨Upd No w22, ?_⟩⟩
        have hU22 := hS22.upd
        have hzw22 := hU22.size
        replace HU := HU.trans0 hU22
        replace hb2 := hb2.upd0 hU22
        replace hO15 := hO15.upd0 hU22
        replace hp17 := hp17.upd0 hU22
        try replace hW := hW.trans0 hU22
        refine Wa_done (by kernel_rfl) ?_
        refine W_seq (W_region ?_)
        refine Wl_v (r_loada (b := B2) (off := 0) (cs := [.int .i64 ((p : Nat) : Int), .int .i64 ((((gword bs (bnx bs q)).2.1 : Nat) : Int) - ((p : Nat) : Int)), .bool false, .int .i64 0, .int .i64 ((ghead bs p).1.1), .int .i64 ((ghead bs p).1.2.1), .int .u32 ((ghead bs p).1.2.2.1), .bool (decide ((ghead bs p).1.2.2.2 = true)), .slice a15 (m1 + 1) c15, .int .u32 ((gword bs (bnx bs q)).1)]) isAgg45 sizeOf45 rfl rfl (fun j hj => by rw [hb2.cell]; match j, hj with | 0, _ => rfl | 1, _ => rfl | 2, _ => rfl | 3, _ => rfl | 4, _ => rfl | 5, _ => rfl | 6, _ => rfl | 7, _ => rfl | 8, _ => rfl | 9, _ => rfl)) ?_
        refine Wl_storea (off := 0) (vs := [.int .i64 ((p : Nat) : Int), .int .i64 ((((gword bs (bnx bs q)).2.1 : Nat) : Int) - ((p : Nat) : Int)), .bool false, .int .i64 0, .int .i64 ((ghead bs p).1.1), .int .i64 ((ghead bs p).1.2.1), .int .u32 ((ghead bs p).1.2.2.1), .bool (decide ((ghead bs p).1.2.2.2 = true)), .slice a15 (m1 + 1) c15, .int .u32 ((gword bs (bnx bs q)).1)]) (cs' := [.int .i64 ((p : Nat) : Int), .int .i64 ((((gword bs (bnx bs q)).2.1 : Nat) : Int) - ((p : Nat) : Int)), .bool false, .int .i64 0, .int .i64 ((ghead bs p).1.1), .int .i64 ((ghead bs p).1.2.1), .int .u32 ((ghead bs p).1.2.2.1), .bool (decide ((ghead bs p).1.2.2.2 = true)), .slice a15 (m1 + 1) c15, .int .u32 ((gword bs (bnx bs q)).1)]) sizeOf45 rfl rfl rfl (by simp only [List.mem_cons, List.not_mem_nil, or_false, forall_eq_or_imp, forall_eq]; exact ⟨rfl, rfl, rfl, rfl, rfl, rfl, rfl, rfl, rfl, rfl⟩) hb2 (by simp) rfl ?_
        intro w23 hU23 hzz23 hb2n
        replace hb2 := hb2n; clear hb2n
        have hzw23 := hU23.size
        replace HU := HU.trans1 hU23 (by show (B2 = pb) ∨ w.heap.size ≤ B2; omega)
        replace hO15 := hO15.upd1 hU23 (by intro h1; have h3 : ((((((w9.heap.size ≤ B2) ∧ B2 < w10.heap.size)) ∨ B2 = w14.heap.size)) ∧ B2 < w15.heap.size) := h1; omega)
        replace hp17 := hp17.upd1 hU23 (by omega)
        refine Wl_nil ?_
        refine W_ret ?_
        refine ret_end (v := .agg #[.int .i64 ((p : Nat) : Int), .int .i64 ((((gword bs (bnx bs q)).2.1 : Nat) : Int) - ((p : Nat) : Int)), .bool false, .int .i64 0, .int .i64 ((ghead bs p).1.1), .int .i64 ((ghead bs p).1.2.1), .int .u32 ((ghead bs p).1.2.2.1), .bool (decide ((ghead bs p).1.2.2.2 = true)), .slice a15 (m1 + 1) c15, .int .u32 ((gword bs (bnx bs q)).1)]) rfl (rc1 results56 rfl (cellAgg isAgg45 sizeOf45 rfl hb2)) ?_
        have hgw : (gword bs (gb bs (ghead bs p).2.1).2.1).2.2 = 0 := by rw [hgq]; exact q7
        have HG := gp_sum q1 q2 q3 hge q6 hgw
        refine Or.inl ⟨by rw [HG], ?_⟩
        exact ⟨_, rfl, _, _, _, by rw [HG, hgl]; rfl, (by rw [HG, hgl]; exact hp17), (by rw [HG, hgl]; exact hO15.weak (by intro g hg; have h3 : ((((((w9.heap.size ≤ g) ∧ g < w10.heap.size)) ∨ g = w14.heap.size)) ∧ g < w15.heap.size) := hg; show w.heap.size ≤ g; omega)), HU⟩
       refine Wl_callp (r_call2 rfl call72 rfl rfl) (got2_no _ q7) ?_
       intro w24 hU24
       have hzw24 := hU24.size
       replace HU := HU.trans0 hU24
       refine pan_ds rfl ?_
       refine lv_panic ?_
       have hgwx : ¬ (gword bs (gb bs (ghead bs p).2.1).2.1).2.2 = 0 := by rw [hgq]; exact q7
       exact Or.inr ⟨by rw [gp_word q1 q2 q3 hge q6 hgwx]; exact hgwx, by rw [gp_word q1 q2 q3 hge q6 hgwx, hgq], HU⟩
      rw [decide_eq_false q6]
      refine W_cond_f rfl ?_
      refine W_skip (W_seq ?_)
      refine W_drawt rfl (l0 := tf 0 8) (by kernel_rfl) ?_
      refine Tk 0 (tf 1 8) rfl (YI_v (v := .pointer (some ⟨B1, 0, none⟩)) rfl (fun w' hw' => r_fld underlying115 rfl sizeOf112 rfl rfl)) ?_
      refine Tk 1 (tf 2 8) rfl (YI_v (v := .pointer (some ⟨pb, 0, none⟩)) rfl (fun w' hw' => r_load isAgg112 rfl (by rw [(hb1.upd0 hw').cell]; rfl))) ?_
      refine Tk 2 (tf 3 8) rfl (YI_c (v := .int .i64 ((bnx bs q : Nat) : Int)) rfl (fun w' => r_call1 rfl call64 rfl) (fun w' hw' => at_spec w' (hp11.upd0 hw') (by omega) (by omega) (by omega))) ?_
      refine Tk 3 (tf 4 8) rfl (YI_v (v := .pointer (some ⟨B2, 0, none⟩)) rfl (fun w' hw' => r_fld underlying45 rfl sizeOf3 rfl rfl)) ?_
      refine Tk 4 (tf 5 8) rfl (YI_v (v := .int .i64 ((p : Nat) : Int)) rfl (fun w' hw' => r_load isAgg3 rfl (by rw [(hb2.upd0 hw').cell]; rfl))) ?_
      refine Tk 5 (tf 6 8) rfl (YI_v (v := .int .i64 (((bnx bs q : Nat) : Int) - ((p : Nat) : Int))) rfl (fun w' hw' => r_sub rfl rfl (wi64 (by omega) (by omega)))) ?_
      refine Tk 6 (tf 7 8) rfl (YI_v (v := .pointer (some ⟨B2, 1, none⟩)) rfl (fun w' hw' => r_fld underlying45 rfl sizeOf3 rfl rfl)) ?_
      intro w25 hU25
      have hzw25 := hU25.size
      replace HU := HU.trans0 hU25
      replace hb2 := hb2.upd0 hU25
      replace hp11 := hp11.upd0 hU25
      replace hO15 := hO15.upd0 hU25
      refine Wa_one (i := 7) (listed' := tf 8 8) (by kernel_rfl) rfl (by kernel_rfl) ?_
      refine Ws_of_Wl ?_
      have hW : Upd No w16 w25 := hU25
      refine Wl_store (v := .int .i64 (((bnx bs q : Nat) : Int) - ((p : Nat) : Int))) (cs' := [.int .i64 ((p : Nat) : Int), .int .i64 (((bnx bs q : Nat) : Int) - ((p : Nat) : Int)), .bool false, .int .i64 0, .int .i64 ((ghead bs p).1.1), .int .i64 ((ghead bs p).1.2.1), .int .u32 ((ghead bs p).1.2.2.1), .bool (decide ((ghead bs p).1.2.2.2 = true)), .slice a15 (m1 + 1) c15, .int .u32 0]) sizeOf3 rfl rfl rfl rfl hb2 rfl rfl ?_
      intro w26 hU26 hzz26 hb2n
      replace hb2 := hb2n; clear hb2n
      have hzw26 := hU26.size
      replace HU := HU.trans1 hU26 (by show (B2 = pb) ∨ w.heap.size ≤ B2; omega)
      replace hp11 := hp11.upd1 hU26 (by omega)
      replace hO15 := hO15.upd1 hU26 (by intro h1; have h3 : ((((((w9.heap.size ≤ B2) ∧ B2 < w10.heap.size)) ∨ B2 = w14.heap.size)) ∧ B2 < w15.heap.size) := h1; omega)
      refine Wl_nil ?_
      intro w27 hS27
      refine ⟨fun h => absurd h (by rw [show barOp _ 7 = true from by kernel_rfl]; simp), fun _ => ⟨Upd No w27, ?_⟩⟩
      have hU27 := hS27.upd
      have hzw27 := hU27.size
      replace HU := HU.trans0 hU27
      replace hb2 := hb2.upd0 hU27
      replace hp11 := hp11.upd0 hU27
      replace hO15 := hO15.upd0 hU27
      try replace hW := hW.trans0 hU27
      refine Wa_done (by kernel_rfl) ?_
      refine W_seq (W_region ?_)
      refine Wl_v (r_loada (b := B2) (off := 0) (cs := [.int .i64 ((p : Nat) : Int), .int .i64 (((bnx bs q : Nat) : Int) - ((p : Nat) : Int)), .bool false, .int .i64 0, .int .i64 ((ghead bs p).1.1), .int .i64 ((ghead bs p).1.2.1), .int .u32 ((ghead bs p).1.2.2.1), .bool (decide ((ghead bs p).1.2.2.2 = true)), .slice a15 (m1 + 1) c15, .int .u32 0]) isAgg45 sizeOf45 rfl rfl (fun j hj => by rw [hb2.cell]; match j, hj with | 0, _ => rfl | 1, _ => rfl | 2, _ => rfl | 3, _ => rfl | 4, _ => rfl | 5, _ => rfl | 6, _ => rfl | 7, _ => rfl | 8, _ => rfl | 9, _ => rfl)) ?_
      refine Wl_storea (off := 0) (vs := [.int .i64 ((p : Nat) : Int), .int .i64 (((bnx bs q : Nat) : Int) - ((p : Nat) : Int)), .bool false, .int .i64 0, .int .i64 ((ghead bs p).1.1), .int .i64 ((ghead bs p).1.2.1), .int .u32 ((ghead bs p).1.2.2.1), .bool (decide ((ghead bs p).1.2.2.2 = true)), .slice a15 (m1 + 1) c15, .int .u32 0]) (cs' := [.int .i64 ((p : Nat) : Int), .int .i64 (((bnx bs q : Nat) : Int) - ((p : Nat) : Int)), .bool false, .int .i64 0, .int .i64 ((ghead bs p).1.1), .int .i64 ((ghead bs p).1.2.1), .int .u32 ((ghead bs p).1.2.2.1), .bool (decide ((ghead bs p).1.2.2.2 = true)), .slice a15 (m1 + 1) c15, .int .u32 0]) sizeOf45 rfl rfl rfl (by simp only [List.mem_cons, List.not_mem_nil, or_false, forall_eq_or_imp, forall_eq]; exact ⟨rfl, rfl, rfl, rfl, rfl, rfl, rfl, rfl, rfl, rfl⟩) hb2 (by simp) rfl ?_
      intro w28 hU28 hzz28 hb2n
      replace hb2 := hb2n; clear hb2n
      have hzw28 := hU28.size
      replace HU := HU.trans1 hU28 (by show (B2 = pb) ∨ w.heap.size ≤ B2; omega)
      replace hp11 := hp11.upd1 hU28 (by omega)
      replace hO15 := hO15.upd1 hU28 (by intro h1; have h3 : ((((((w9.heap.size ≤ B2) ∧ B2 < w10.heap.size)) ∨ B2 = w14.heap.size)) ∧ B2 < w15.heap.size) := h1; omega)
      refine Wl_nil ?_
      refine W_ret ?_
      refine ret_end (v := .agg #[.int .i64 ((p : Nat) : Int), .int .i64 (((bnx bs q : Nat) : Int) - ((p : Nat) : Int)), .bool false, .int .i64 0, .int .i64 ((ghead bs p).1.1), .int .i64 ((ghead bs p).1.2.1), .int .u32 ((ghead bs p).1.2.2.1), .bool (decide ((ghead bs p).1.2.2.2 = true)), .slice a15 (m1 + 1) c15, .int .u32 0]) rfl (rc1 results56 rfl (cellAgg isAgg45 sizeOf45 rfl hb2)) ?_
      have HG := gp_frame q1 q2 q3 hge q6
      refine Or.inl ⟨by rw [HG], ?_⟩
      exact ⟨_, rfl, _, _, _, by rw [HG, hgl]; rfl, (by rw [HG, hgl]; exact hp11), (by rw [HG, hgl]; exact hO15.weak (by intro g hg; have h3 : ((((((w9.heap.size ≤ g) ∧ g < w10.heap.size)) ∨ g = w14.heap.size)) ∧ g < w15.heap.size) := hg; show w.heap.size ≤ g; omega)), HU⟩
     rw [decide_eq_false q5]
     refine W_cond_f rfl ?_
     refine W_skip ?_
     have hgm := gb_more q4 q5
     refine ⟨_, ?_, (bnx bs q), (acc ++ [bk bs q]), a15, (m1 + 1), c15, rfl, rfl, ⟨rfl, rfl, trivial⟩, (by omega), (by simp; omega), (by rw [hgb, hgm]; simp), hb2, hp11, (hO15.weak (by intro g hg; have h3 : ((((((w9.heap.size ≤ g) ∧ g < w10.heap.size)) ∨ g = w14.heap.size)) ∧ g < w15.heap.size) := hg; show w9.heap.size ≤ g; omega)), HL10⟩
     omega
    refine Wl_callp (r_call1 rfl call71 rfl) (blk_no (p := q) _ hp7 (hs.cur (by intro h1; have h3 : (pb < w.heap.size ∧ pb ≠ pb) := h1; first | omega | simp at h3)) hb (by omega) (by omega) q4) ?_
    intro w29 hU29
    have hzw29 := hU29.size
    replace HU := HU.trans1 hU29 (by show (pb = pb) ∨ w.heap.size ≤ pb; omega)
    refine pan_ds rfl ?_
    refine lv_panic ?_
    have hge0 := gb_err q4
    have hgv : (gb bs (ghead bs p).2.1).2.2 = berr bs q := by rw [hgb, hge0]
    have hgx : ¬ (gb bs (ghead bs p).2.1).2.2 = 0 := by rw [hgv]; exact q4
    exact Or.inr ⟨by rw [gp_blk q1 q2 q3 hgx]; exact hgx, by rw [gp_blk q1 q2 q3 hgx, hgv], HU⟩
   refine Wl_callp (r_call2 rfl call69 rfl rfl) (got3_no _ q3) ?_
   intro w30 hU30
   have hzw30 := hU30.size
   replace HU := HU.trans0 hU30
   refine pan_ds rfl ?_
   refine lv_panic ?_
   exact Or.inr ⟨by rw [gp_head q1 q2 q3]; exact q3, by rw [gp_head q1 q2 q3], HU⟩
  rw [decide_eq_false q2]
  simp only [Bool.not_true, Bool.not_false]
  refine W_cond_t rfl ?_
  refine W_seq (W_region ?_)
  refine Wl_v (r_fld underlying115 rfl sizeOf112 rfl rfl) ?_
  refine Wl_load (v := .pointer (some ⟨pb, 0, none⟩)) isAgg112 rfl hb1 rfl ?_
  refine Wl_call (r_call1 rfl call68 rfl) (payload_spec _ hp (hs.cur (by intro h1; have h3 : (pb < w.heap.size ∧ pb ≠ pb) := h1; first | omega | simp at h3)) hb (by omega) (by omega)) ?_
  rintro v w31 ⟨a31, m31, c31, rfl, hp31, hO31, hm_31, hU31⟩
  have hzw31 := hU31.size
  replace HU := HU.trans1 hU31 (by show (pb = pb) ∨ w.heap.size ≤ pb; omega)
  replace hb1 := hb1.upd1 hU31 (by omega)
  replace hb2 := hb2.upd1 hU31 (by omega)
  have hbl_hp31 := hp31.lt
  replace hO31 := hO31.tight
  have hl_hO31 := ilen hO31.sl
  have hc_hO31 := hO31.sl.cap.1
  refine Wl_v (r_ext (v := .slice a31 m31 c31) rfl rfl) ?_
  refine Wl_v (r_ext (v := .int .i64 ((gskip bs p).2.2)) rfl rfl) ?_
  by_cases q8 : ((gskip bs p).2.2) = 0
  ·have hgk := gskip_le q8
   rw [q8]
   refine Wl_call (r_call2 rfl call67 rfl rfl) (got1_ok _ ) ?_
   rintro v w32 ⟨rfl, hU32⟩
   have hzw32 := hU32.size
   replace HU := HU.trans0 hU32
   replace hb1 := hb1.upd0 hU32
   replace hb2 := hb2.upd0 hU32
   replace hp31 := hp31.upd0 hU32
   refine Wl_v (r_len underlying22 rfl) ?_
   refine Wl_v (r_fld underlying45 rfl sizeOf4 rfl rfl) ?_
   refine Wl_store (v := .bool true) (cs' := [.int .i64 ((p : Nat) : Int), .int .i64 0, .bool true, .int .i64 0, .int .i64 0, .int .i64 0, .int .u32 0, .bool false, .slice none 0 0, .int .u32 0]) sizeOf4 rfl rfl rfl rfl hb2 rfl rfl ?_
   intro w33 hU33 hzz33 hb2n
   replace hb2 := hb2n; clear hb2n
   have hzw33 := hU33.size
   replace HU := HU.trans1 hU33 (by show (B2 = pb) ∨ w.heap.size ≤ B2; omega)
   replace hb1 := hb1.upd1 hU33 (by omega)
   replace hp31 := hp31.upd1 hU33 (by omega)
   refine Wl_v (r_fld underlying45 rfl sizeOf3 rfl rfl) ?_
   refine Wl_store (v := .int .i64 ((m31 : Nat) : Int)) (cs' := [.int .i64 ((p : Nat) : Int), .int .i64 0, .bool true, .int .i64 ((m31 : Nat) : Int), .int .i64 0, .int .i64 0, .int .u32 0, .bool false, .slice none 0 0, .int .u32 0]) sizeOf3 rfl rfl rfl rfl hb2 rfl rfl ?_
   intro w34 hU34 hzz34 hb2n
   replace hb2 := hb2n; clear hb2n
   have hzw34 := hU34.size
   replace HU := HU.trans1 hU34 (by show (B2 = pb) ∨ w.heap.size ≤ B2; omega)
   replace hb1 := hb1.upd1 hU34 (by omega)
   replace hp31 := hp31.upd1 hU34 (by omega)
   refine Wl_nil (W_seq ?_)
   refine W_drawt rfl (l0 := tf 0 8) (by kernel_rfl) ?_
   refine Tk 0 (tf 1 8) rfl (YI_v (v := .pointer (some ⟨B1, 0, none⟩)) rfl (fun w' hw' => r_fld underlying115 rfl sizeOf112 rfl rfl)) ?_
   refine Tk 1 (tf 2 8) rfl (YI_v (v := .pointer (some ⟨pb, 0, none⟩)) rfl (fun w' hw' => r_load isAgg112 rfl (by rw [(hb1.upd0 hw').cell]; rfl))) ?_
   refine Tk 2 (tf 3 8) rfl (YI_c (v := .int .i64 (((gskip bs p).2.1 : Nat) : Int)) rfl (fun w' => r_call1 rfl call64 rfl) (fun w' hw' => at_spec w' (hp31.upd0 hw') (by omega) (by omega) (by omega))) ?_
   refine Tk 3 (tf 4 8) rfl (YI_v (v := .pointer (some ⟨B2, 0, none⟩)) rfl (fun w' hw' => r_fld underlying45 rfl sizeOf3 rfl rfl)) ?_
   refine Tk 4 (tf 5 8) rfl (YI_v (v := .int .i64 ((p : Nat) : Int)) rfl (fun w' hw' => r_load isAgg3 rfl (by rw [(hb2.upd0 hw').cell]; rfl))) ?_
   refine Tk 5 (tf 6 8) rfl (YI_v (v := .int .i64 ((((gskip bs p).2.1 : Nat) : Int) - ((p : Nat) : Int))) rfl (fun w' hw' => r_sub rfl rfl (wi64 (by omega) (by omega)))) ?_
   refine Tk 6 (tf 7 8) rfl (YI_v (v := .pointer (some ⟨B2, 1, none⟩)) rfl (fun w' hw' => r_fld underlying45 rfl sizeOf3 rfl rfl)) ?_
   intro w35 hU35
   have hzw35 := hU35.size
   replace HU := HU.trans0 hU35
   replace hb2 := hb2.upd0 hU35
   replace hp31 := hp31.upd0 hU35
   refine Wa_one (i := 7) (listed' := tf 8 8) (by kernel_rfl) rfl (by kernel_rfl) ?_
   refine Ws_of_Wl ?_
   have hW : Upd No w34 w35 := hU35
   refine Wl_store (v := .int .i64 ((((gskip bs p).2.1 : Nat) : Int) - ((p : Nat) : Int))) (cs' := [.int .i64 ((p : Nat) : Int), .int .i64 ((((gskip bs p).2.1 : Nat) : Int) - ((p : Nat) : Int)), .bool true, .int .i64 ((m31 : Nat) : Int), .int .i64 0, .int .i64 0, .int .u32 0, .bool false, .slice none 0 0, .int .u32 0]) sizeOf3 rfl rfl rfl rfl hb2 rfl rfl ?_
   intro w36 hU36 hzz36 hb2n
   replace hb2 := hb2n; clear hb2n
   have hzw36 := hU36.size
   replace HU := HU.trans1 hU36 (by show (B2 = pb) ∨ w.heap.size ≤ B2; omega)
   replace hp31 := hp31.upd1 hU36 (by omega)
   refine Wl_nil ?_
   intro w37 hS37
   refine ⟨fun h => absurd h (by rw [show barOp _ 7 = true from by kernel_rfl]; simp), fun _ => ⟨Upd No w37, ?_⟩⟩
   have hU37 := hS37.upd
   have hzw37 := hU37.size
   replace HU := HU.trans0 hU37
   replace hb2 := hb2.upd0 hU37
   replace hp31 := hp31.upd0 hU37
   try replace hW := hW.trans0 hU37
   refine Wa_done (by kernel_rfl) ?_
   refine W_seq (W_region ?_)
   refine Wl_v (r_loada (b := B2) (off := 0) (cs := [.int .i64 ((p : Nat) : Int), .int .i64 ((((gskip bs p).2.1 : Nat) : Int) - ((p : Nat) : Int)), .bool true, .int .i64 ((m31 : Nat) : Int), .int .i64 0, .int .i64 0, .int .u32 0, .bool false, .slice none 0 0, .int .u32 0]) isAgg45 sizeOf45 rfl rfl (fun j hj => by rw [hb2.cell]; match j, hj with | 0, _ => rfl | 1, _ => rfl | 2, _ => rfl | 3, _ => rfl | 4, _ => rfl | 5, _ => rfl | 6, _ => rfl | 7, _ => rfl | 8, _ => rfl | 9, _ => rfl)) ?_
   refine Wl_storea (off := 0) (vs := [.int .i64 ((p : Nat) : Int), .int .i64 ((((gskip bs p).2.1 : Nat) : Int) - ((p : Nat) : Int)), .bool true, .int .i64 ((m31 : Nat) : Int), .int .i64 0, .int .i64 0, .int .u32 0, .bool false, .slice none 0 0, .int .u32 0]) (cs' := [.int .i64 ((p : Nat) : Int), .int .i64 ((((gskip bs p).2.1 : Nat) : Int) - ((p : Nat) : Int)), .bool true, .int .i64 ((m31 : Nat) : Int), .int .i64 0, .int .i64 0, .int .u32 0, .bool false, .slice none 0 0, .int .u32 0]) sizeOf45 rfl rfl rfl (by simp only [List.mem_cons, List.not_mem_nil, or_false, forall_eq_or_imp, forall_eq]; exact ⟨rfl, rfl, rfl, rfl, rfl, rfl, rfl, rfl, rfl, rfl⟩) hb2 (by simp) rfl ?_
   intro w38 hU38 hzz38 hb2n
   replace hb2 := hb2n; clear hb2n
   have hzw38 := hU38.size
   replace HU := HU.trans1 hU38 (by show (B2 = pb) ∨ w.heap.size ≤ B2; omega)
   replace hp31 := hp31.upd1 hU38 (by omega)
   refine Wl_nil ?_
   refine W_ret ?_
   refine ret_end (v := .agg #[.int .i64 ((p : Nat) : Int), .int .i64 ((((gskip bs p).2.1 : Nat) : Int) - ((p : Nat) : Int)), .bool true, .int .i64 ((m31 : Nat) : Int), .int .i64 0, .int .i64 0, .int .u32 0, .bool false, .slice none 0 0, .int .u32 0]) rfl (rc1 results56 rfl (cellAgg isAgg45 sizeOf45 rfl hb2)) ?_
   have HG := gp_skip q1 q2 q8
   refine Or.inl ⟨by rw [HG], ?_⟩
   exact ⟨_, rfl, none, 0, 0, by rw [HG]; dsimp only; rw [hm_31]; rfl, (by rw [HG]; exact hp31), (by rw [HG]; exact Own.nil _ _ _ _), HU⟩
  refine Wl_callp (r_call2 rfl call67 rfl rfl) (got1_no _ q8) ?_
  intro w39 hU39
  have hzw39 := hU39.size
  replace HU := HU.trans0 hU39
  refine pan_ds rfl ?_
  refine lv_panic ?_
  exact Or.inr ⟨by rw [gp_skerr q1 q2 q8]; exact q8, by rw [gp_skerr q1 q2 q8], HU⟩
 refine Wl_callp (r_call2 rfl call65 rfl rfl) (got0_no _ q1) ?_
 intro w40 hU40
 have hzw40 := hU40.size
 replace HU := HU.trans0 hU40
 refine pan_ds rfl ?_
 refine lv_panic ?_
 exact Or.inr ⟨by rw [gp_mk q1]; exact q1, by rw [gp_mk q1], HU⟩
theorem part_ok {pb : Nat} {a : Option Addr} {n c p : Nat} {bs : List Int} (w : World) (hp : Blk w pb [.slice a n c, .int .i64 ((p : Nat) : Int)]) (hs : Sl w (fun g => g < w.heap.size ∧ g ≠ pb) 1 (.slice a n c) n (ints .u8 bs)) (hb : Byt bs) (hpn : p ≤ n) (hn : n ≤ 140737488355328) (hm : n ≤ 100000) (he : (gpart bs p).2.2 = 0) :
  Calls Tryd.prog 56 #[.agg #[.pointer (some ⟨pb, 0, none⟩)]] w (Ret fun v w' => ∃ (a' : Option Addr) (m' : Nat) (c' : Nat), v = .agg #[.int .i64 ((gpart bs p).1.at_), .int .i64 ((gpart bs p).1.sz), .bool (decide ((gpart bs p).1.sk = true)), .int .i64 ((gpart bs p).1.pl), .int .i64 ((gpart bs p).1.hd.1), .int .i64 ((gpart bs p).1.hd.2.1), .int .u32 ((gpart bs p).1.hd.2.2.1), .bool (decide ((gpart bs p).1.hd.2.2.2 = true)), .slice a' m' c', .int .u32 ((gpart bs p).1.ck)] ∧ Blk w' pb [.slice a n c, .int .i64 (((gpart bs p).2.1 : Nat) : Int)] ∧ Own w' (fun g => w.heap.size ≤ g) 51 5 (.slice a' m' c') m' (rows encK ((gpart bs p).1.bl)) ∧ Upd (Is pb) w w') :=
 (part_all w hp hs hb hpn hn hm).mono fun e w1 h => Or.elim h (fun h => h.2) (fun h => absurd he h.1)
theorem part_no {pb : Nat} {a : Option Addr} {n c p : Nat} {bs : List Int} (w : World) (hp : Blk w pb [.slice a n c, .int .i64 ((p : Nat) : Int)]) (hs : Sl w (fun g => g < w.heap.size ∧ g ≠ pb) 1 (.slice a n c) n (ints .u8 bs)) (hb : Byt bs) (hpn : p ≤ n) (hn : n ≤ 140737488355328) (hm : n ≤ 100000) (he : ¬ (gpart bs p).2.2 = 0) :
  Calls Tryd.prog 56 #[.agg #[.pointer (some ⟨pb, 0, none⟩)]] w (Pan (.iface 26 (.int .i64 ((gpart bs p).2.2))) fun w' => Upd (Is pb) w w') :=
 (part_all w hp hs hb hpn hn hm).mono fun e w1 h => Or.elim h (fun h => absurd h.1 he) (fun h => h.2)
set_option maxHeartbeats 4000000 in
theorem all_spec {a : Option Addr} {n c : Nat} {bs : List Int} (w : World) (hs : Sl w (fun g => g < w.heap.size) 1 (.slice a n c) n (ints .u8 bs)) (hb : Byt bs) (hm : n ≤ 100000) :
  Calls Tryd.prog 36 #[.slice a n c] w (Ret fun v w' => ∃ (a' : Option Addr) (m' : Nat) (c' : Nat), v = .tuple #[.slice a' m' c', .int .i64 ((ga bs 0).2)] ∧ Pts w' w.heap.size w'.heap.size a' m' c' ((ga bs 0).1) ∧ Upd No w w') := by
 have HU := Upd.rno w
 have hl_hs := ilen hs
 have hc_hs := hs.cap.1
 refine calls_of_W func36 rfl ntmps36 (by simp) ?_
 refine W_seq (W_region ?_)
 refine Was (.slice none 0 0) ?_
 refine Wl_alloc (cs := [.int .i64 0]) zeroValue26 rfl ?_
 intro B1 w1 hB1 hU1 hzz1 hb1
 have hzw1 := hU1.size
 replace hs := hs.upd0 hU1
 replace HU := HU.trans0 hU1
 refine Wl_nil (W_seq (W_region ?_))
 refine Wl_defer1 rfl ?_
 refine Wl_nil (W_seq (W_region ?_))
 refine Wmv (.slice a n c) ?_
 refine Wl_call (r_call1 rfl call54 rfl) (new_spec _ hs.any (by omega)) ?_
 rintro v w2 ⟨pb2, a2, c2, rfl, hp2, hO2, hpg_2, hU2⟩
 have hzw2 := hU2.size
 replace HU := HU.trans0 hU2
 replace hb1 := hb1.upd0 hU2
 have hbl_hp2 := hp2.lt
 replace hO2 := hO2.tight
 have hl_hO2 := ilen hO2.sl
 have hc_hO2 := hO2.sl.cap.1
 refine Wl_v (r_build (pl := #[(0, 1)]) (pv := [(0, .pointer (some ⟨pb2, 0, none⟩))]) (cs := #[.pointer (some ⟨pb2, 0, none⟩)]) zeroValue115 underlying115 (fun w => by kernel_rfl) (by simp only [List.map_toArray, List.map_cons, List.map_nil] <;> rfl) (by kernel_rfl)) ?_
 refine Wl_alloc (cs := [.pointer none]) zeroValue115 rfl ?_
 intro B3 w3 hB3 hU3 hzz3 hb3
 have hzw3 := hU3.size
 replace HU := HU.trans0 hU3
 replace hb1 := hb1.upd0 hU3
 replace hp2 := hp2.upd0 hU3
 replace hO2 := hO2.upd0 hU3
 refine Wl_storea (off := 0) (vs := [.pointer (some ⟨pb2, 0, none⟩)]) (cs' := [.pointer (some ⟨pb2, 0, none⟩)]) sizeOf115 rfl rfl rfl (by simp only [List.mem_cons, List.not_mem_nil, or_false, forall_eq_or_imp, forall_eq]; exact rfl) hb3 (by simp) rfl ?_
 intro w4 hU4 hzz4 hb3n
 replace hb3 := hb3n; clear hb3n
 have hzw4 := hU4.size
 replace HU := HU.t1 hU4 (by omega)
 replace hb1 := hb1.upd1 hU4 (by omega)
 replace hp2 := hp2.upd1 hU4 (by omega)
 replace hO2 := hO2.upd1 hU4 (show ¬ (((w1.heap.size ≤ B3 ∧ B3 ≠ pb2) ∧ B3 < w2.heap.size)) by omega)
 refine Wl_nil (W_seq (W_block ?_))
 refine W_loop (fun mu ρ ds w' => ∃ (p : Nat) (vs : List PV) (a1 : Option Addr) (m1 : Nat) (c1 : Nat) (go : Nat), n - p = mu ∧ ds = [{ target := .fn (.func 53) #[], args := #[.pointer (some ⟨B1, 0, none⟩)] }] ∧ Liv ρ [(2, .slice a1 m1 c1), (3, .pointer (some ⟨B1, 0, none⟩)), (4, .pointer (some ⟨B3, 0, none⟩))] ∧ p ≤ n ∧ vs.length ≤ p ∧ ga bs 0 = (vs.map (·.1) ++ (ga bs p).1, (ga bs p).2) ∧ Blk w' pb2 [.slice a2 n c2, .int .i64 ((p : Nat) : Int)] ∧ Own w' (fun g => g = go ∧ 0 < m1 ∧ w4.heap.size ≤ g) 45 10 (.slice a1 m1 c1) m1 (rows encP vs) ∧ Pbs w' w4.heap.size w'.heap.size go vs ∧ Upd (fun g => g = pb2 ∨ w4.heap.size ≤ g) w4 w') _ ⟨0, [], none, 0, 0, 0, rfl, rfl, ⟨(by first | rfl | exact vint (by omega) | exact vint (by simp)), rfl, rfl, trivial⟩, (by omega), (by simp), (by simp), hp2, (by exact Own.nil _ _ _ _), (Pbs.nil _ _ _ _), Upd.refl _ _⟩ ?_
 rintro m5 ρ5 ds5 w5 ⟨p, vs, a1, m1, c1, go, rfl, rfl, hl5, hqn, hac, hga, hp2, hO, hP, hU5⟩
 obtain ⟨ρ5x, rfl⟩ : ∃ ρx, ρ5 = upds ρx [(2, .slice a1 m1 c1), (3, .pointer (some ⟨B1, 0, none⟩)), (4, .pointer (some ⟨B3, 0, none⟩))] := ⟨_, upds_self hl5⟩
 clear hl5
 have hzw5 := hU5.size
 replace HU := HU.trans hU5 (by intro x hx; have hx2 : x = pb2 ∨ w4.heap.size ≤ x := hx; show (False) ∨ w.heap.size ≤ x; omega)
 replace hb1 := hb1.upd hU5 (by intro hx; have hx2 : B1 = pb2 ∨ w4.heap.size ≤ B1 := hx; omega)
 replace hO2 := hO2.upd hU5 (by intro x h1 h2; have h3 : ((w1.heap.size ≤ x ∧ x ≠ pb2) ∧ x < w2.heap.size) := h1; have h4 : x = pb2 ∨ w4.heap.size ≤ x := h2; omega)
 replace hb3 := hb3.upd hU5 (by intro hx; have hx2 : B3 = pb2 ∨ w4.heap.size ≤ B3 := hx; omega)
 replace hO := hO.tight
 have hl_hO := rlen encP_len (by decide) hO.sl
 have hc_hO := hO.sl.cap.1
 have hbl_hp2 := hp2.lt
 have HL5 := hU5
 refine W_seq (W_seq (W_region ?_))
 refine Wl_v (r_fld underlying115 rfl sizeOf112 rfl rfl) ?_
 refine Wl_load (v := .pointer (some ⟨pb2, 0, none⟩)) isAgg112 rfl hb3 rfl ?_
 refine Wl_call (r_call1 rfl call55 rfl) (left_spec _ hp2 (by omega) (by omega) (by omega)) ?_
 rintro v w6 ⟨rfl, hU6⟩
 have hzw6 := hU6.size
 replace HU := HU.trans0 hU6
 replace hb1 := hb1.upd0 hU6
 replace hO2 := hO2.upd0 hU6
 replace hb3 := hb3.upd0 hU6
 replace hp2 := hp2.upd0 hU6
 replace hO := hO.upd0 hU6
 replace hP := hP.upd0 hU6
 replace HL5 := HL5.trans0 hU6
 refine Wl_v (r_gt rfl rfl) ?_
 refine Wl_nil ?_
 by_cases q1 : 0 < (((n : Nat) : Int) - ((p : Nat) : Int))
 ·rw [decide_eq_true q1]
  refine W_cond_t rfl ?_
  refine W_skip (W_block (W_region ?_))
  refine Wmv (.slice a1 m1 c1) ?_
  refine Wl_v (r_loada (b := B3) (off := 0) (cs := [.pointer (some ⟨pb2, 0, none⟩)]) isAgg115 sizeOf115 rfl rfl (fun j hj => by rw [hb3.cell]; match j, hj with | 0, _ => rfl)) ?_
  by_cases q2 : (gpart bs p).2.2 = 0
  ·refine Wl_call (r_call1 rfl call56 rfl) (part_ok (p := p) _ hp2 (hO2.sl.cur (by intro h1; have h3 : ((w1.heap.size ≤ pb2 ∧ pb2 ≠ pb2) ∧ pb2 < w2.heap.size) := h1; first | omega | simp at h3)) hb (by omega) (by omega) (by omega) q2) ?_
   rintro v w7 ⟨a7, m7, c7, rfl, hp7, hO7, hU7⟩
   have hzw7 := hU7.size
   replace hO := hO.upd1 hU7 (by intro h1; have h3 : ((pb2 = go ∧ 0 < m1 ∧ w4.heap.size ≤ pb2) ∧ pb2 < w5.heap.size) := h1; omega)
   replace hP := hP.upd1 hU7 (by omega)
   replace HL5 := HL5.trans1 hU7 (by show (pb2 = pb2 ∨ w4.heap.size ≤ pb2) ∨ w4.heap.size ≤ pb2; omega)
   have hbl_hp7 := hp7.lt
   replace hO7 := hO7.tight
   have hl_hO7 := rlen encK_len (by decide) hO7.sl
   have hc_hO7 := hO7.sl.cap.1
   have hgl := gpart_le q2
   have hgm := ga_more (bs := bs) (p := p) (by omega) q2
   refine Wl_lit (pv := [(0, .agg #[.int .i64 ((gpart bs p).1.at_), .int .i64 ((gpart bs p).1.sz), .bool (decide ((gpart bs p).1.sk = true)), .int .i64 ((gpart bs p).1.pl), .int .i64 ((gpart bs p).1.hd.1), .int .i64 ((gpart bs p).1.hd.2.1), .int .u32 ((gpart bs p).1.hd.2.2.1), .bool (decide ((gpart bs p).1.hd.2.2.2 = true)), .slice a7 m7 c7, .int .u32 ((gpart bs p).1.ck)])]) (cs := [.int .i64 ((gpart bs p).1.at_), .int .i64 ((gpart bs p).1.sz), .bool (decide ((gpart bs p).1.sk = true)), .int .i64 ((gpart bs p).1.pl), .int .i64 ((gpart bs p).1.hd.1), .int .i64 ((gpart bs p).1.hd.2.1), .int .u32 ((gpart bs p).1.hd.2.2.1), .bool (decide ((gpart bs p).1.hd.2.2.2 = true)), .slice a7 m7 c7, .int .u32 ((gpart bs p).1.ck)]) underlying57 sizeOf45 zeroValue45 (by decide) (by decide) (by simp only [List.map_toArray, List.map_cons, List.map_nil] <;> rfl) (by kernel_rfl) rfl (by decide) ?_
   intro B8 w8 hB8 hU8 hzz8 hs8
   have hzw8 := hU8.size
   replace hO := hO.upd0 hU8
   replace hP := hP.upd0 hU8
   replace HL5 := HL5.trans0 hU8
   replace hp7 := hp7.upd0 hU8
   replace hO7 := hO7.upd0 hU8
   replace hs8 : Own w8 (Is B8) 45 10 (.slice (some ⟨B8, 0, none⟩) 1 1) 1 (rows encP [((gpart bs p).1, a7, m7, c7)]) := hs8
   refine Wl_appendc (cs3 := rows encP (vs ++ [((gpart bs p).1, a7, m7, c7)])) (tot := m1 + 1) (by first | rfl | exact (rows_app _ _).symm | simp) underlying57 (ti := Tryd.t45) (z := .agg #[.int .i64 0, .int .i64 0, .bool false, .int .i64 0, .int .i64 0, .int .i64 0, .int .u32 0, .bool false, .slice none 0 0, .int .u32 0]) (sz := 10) (by' := 88) rfl rfl rfl rfl rfl (by decide) rfl hO rfl hs8.sl (rows_one encP_one _) (by omega) (by simp only [maxLen]; omega) (by omega) ?_
   intro a9 c9 w9 hU9 hzz9 hO9
   clear hO
   have hzw9 := hU9.size
   replace hP := hP.upd hU9 (by intro x hx; have hx2 : ((x = go ∧ 0 < m1 ∧ w4.heap.size ≤ x) ∧ x < w5.heap.size) := hx; omega)
   replace HL5 := HL5.trans hU9 (by intro x hx; have hx2 : ((x = go ∧ 0 < m1 ∧ w4.heap.size ≤ x) ∧ x < w5.heap.size) := hx; show (x = pb2 ∨ w4.heap.size ≤ x) ∨ w4.heap.size ≤ x; omega)
   replace hp7 := hp7.upd hU9 (by intro hx; have hx2 : ((pb2 = go ∧ 0 < m1 ∧ w4.heap.size ≤ pb2) ∧ pb2 < w5.heap.size) := hx; omega)
   replace hO7 := hO7.upd hU9 (by intro x h1 h2; have h3 : ((w6.heap.size ≤ x) ∧ x < w7.heap.size) := h1; have h4 : ((x = go ∧ 0 < m1 ∧ w4.heap.size ≤ x) ∧ x < w5.heap.size) := h2; omega)
   replace hO9 := hO9.tight
   have hl_hO9 := rlen encP_len (by decide) hO9.sl
   have hc_hO9 := hO9.sl.cap.1
   obtain ⟨go10, hgo10, hOo10⟩ := hO9.one (by omega)
   replace hgo10 : ((((((go10 = go ∧ 0 < m1 ∧ w4.heap.size ≤ go10) ∧ go10 < w5.heap.size)) ∨ go10 = w8.heap.size)) ∧ go10 < w9.heap.size) := hgo10
   clear hO9
   replace hOo10 := hOo10.tight
   refine Was (.slice a9 (m1 + 1) c9) ?_
   refine Wl_nil ?_
   have hPn : Pbs w9 (w4.heap.size) (w9.heap.size) go10 (vs ++ [((gpart bs p).1, a7, m7, c7)]) := Pbs.snoc (hP.wide (by omega) (by omega)) (show Pb w9 _ _ _ ((gpart bs p).1, a7, m7, c7) from (hO7.sl).weak (by intro g hg; have h3 : ((w6.heap.size ≤ g) ∧ g < w7.heap.size) := hg; show w4.heap.size ≤ g ∧ g < w9.heap.size ∧ g ≠ go10; omega))
   refine ⟨_, ?_, (gpart bs p).2.1, (vs ++ [((gpart bs p).1, a7, m7, c7)]), a9, (m1 + 1), c9, go10, rfl, rfl, ⟨(by first | rfl | exact vint (by omega) | exact vint (by simp)), rfl, rfl, trivial⟩, (by omega), (by simp; omega), (by rw [hga, hgm]; simp), hp7, (hOo10.weak (by intro g hg; have h3 : ((g = go10) ∧ g < w9.heap.size) := hg; show g = go10 ∧ 0 < m1 + 1 ∧ w4.heap.size ≤ g; omega)), hPn, HL5⟩
   omega
  refine Wl_callp (r_call1 rfl call56 rfl) (part_no (p := p) _ hp2 (hO2.sl.cur (by intro h1; have h3 : ((w1.heap.size ≤ pb2 ∧ pb2 ≠ pb2) ∧ pb2 < w2.heap.size) := h1; first | omega | simp at h3)) hb (by omega) (by omega) (by omega) q2) ?_
  intro w11 hU11
  have hzw11 := hU11.size
  replace HU := HU.t1 hU11 (by omega)
  replace hb1 := hb1.upd1 hU11 (by omega)
  replace hO := hO.upd1 hU11 (by intro h1; have h3 : ((pb2 = go ∧ 0 < m1 ∧ w4.heap.size ≤ pb2) ∧ pb2 < w5.heap.size) := h1; omega)
  replace hP := hP.upd1 hU11 (by omega)
  refine pan_ds rfl ?_
  refine lv_call (by simp) call53 rfl (scaught_pan _ hb1) ?_
  rintro e1 u1 w12 ⟨rfl, v1, rfl, rfl, hU12, hbe12⟩
  have hzw12 := hU12.size
  replace HU := HU.t1 hU12 (by omega)
  replace hO := hO.upd1 hU12 (by intro h1; have h3 : ((B1 = go ∧ 0 < m1 ∧ w4.heap.size ≤ B1) ∧ B1 < w5.heap.size) := h1; omega)
  replace hP := hP.upd1 hU12 (by omega)
  refine lv_nil (v := .tuple #[.slice a1 m1 c1, .int .i64 ((gpart bs p).2.2)]) (rm_tc results36 rfl rfl (cellIs isAgg26 hbe12)) ?_
  have hge := ga_err (bs := bs) (p := p) (by omega) q2
  have HG : ga bs 0 = (vs.map (·.1), (gpart bs p).2.2) := by rw [hga, hge]; simp
  exact ⟨_, rfl, a1, m1, c1, (vtup2 rfl (vint (by rw [HG]))), (by rw [HG]; exact Pts.of hO.sl (by intro g hg; have h3 : ((g = go ∧ 0 < m1 ∧ w4.heap.size ≤ g) ∧ g < w5.heap.size) := hg; omega) ((hP.low (by omega)).wide (by omega) (Or.inl rfl))), HU⟩
 rw [decide_eq_false q1]
 refine W_cond_f rfl ?_
 refine W_exit ?_
 refine W_seq (W_region ?_)
 refine Wmv (.slice a1 m1 c1) ?_
 refine Was (.slice a1 m1 c1) ?_
 refine Wl_store (v := .int .i64 0) (cs' := [.int .i64 0]) sizeOf26 rfl rfl rfl rfl hb1 rfl rfl ?_
 intro w13 hU13 hzz13 hb1n
 replace hb1 := hb1n; clear hb1n
 have hzw13 := hU13.size
 replace HU := HU.t1 hU13 (by omega)
 replace hO := hO.upd1 hU13 (by intro h1; have h3 : ((B1 = go ∧ 0 < m1 ∧ w4.heap.size ≤ B1) ∧ B1 < w5.heap.size) := h1; omega)
 replace hP := hP.upd1 hU13 (by omega)
 refine Wl_nil ?_
 refine W_ret ?_
 refine ret_ds rfl ?_
 refine lv_call (by simp) call53 rfl (scaught_ret _) ?_
 rintro e1 u1 w14 ⟨rfl, v1, rfl, rfl, hU14⟩
 have hzw14 := hU14.size
 replace HU := HU.trans0 hU14
 replace hb1 := hb1.upd0 hU14
 replace hO := hO.upd0 hU14
 replace hP := hP.upd0 hU14
 refine lv_nil (v := .tuple #[.slice a1 m1 c1, .int .i64 0]) (rm_tc results36 rfl rfl (cellIs isAgg26 hb1)) ?_
 have hge := ga_end (bs := bs) (p := p) (by omega)
 have HG : ga bs 0 = (vs.map (·.1), 0) := by rw [hga, hge]; simp
 exact ⟨_, rfl, a1, m1, c1, (vtup2 rfl (vint (by rw [HG]))), (by rw [HG]; exact Pts.of hO.sl (by intro g hg; have h3 : ((g = go ∧ 0 < m1 ∧ w4.heap.size ≤ g) ∧ g < w5.heap.size) := hg; omega) ((hP.low (by omega)).wide (by omega) (Or.inl rfl))), HU⟩
end Go.Proofs.YtbjjhfoeckkacaaDoor
