/-
 Walks, printed by a small program of this project (gen.py).
-/
import Derived.Test.YtdppageondgjkaaGreatZC
import Derived.Test.YtdppageondgjkaaGreatUB
import Derived.Test.YtdppageondgjkaaGreatQa
import Derived.Test.YtdppageondgjkaaGreatFt
set_option linter.unusedVariables false
set_option linter.unusedSimpArgs false
set_option maxRecDepth 100000
namespace Go.Proofs.YtdppageondgjkaaGreat
open Go.Fw _root_.Go.Proofs.Tryz
open Nu
theorem fcaught_ret {be : Nat} {cl : Value} (w : World) :
  CD Tryz.prog 33 #[.pointer (some ⟨be, 0, none⟩), cl] (.returning) w (fun e u' w' => u' = .returning ∧ (Ret fun v w' => v = .tuple #[] ∧ Upd No w w') e w') := by
 have HU := Upd.rno w
 refine CD_recover (v := .nilIface) (u' := .returning) func33 rfl ntmps33 (by simp) rfl (fun ρ w => by simp [execOp, resolve, invoke, builtin]) rfl rfl (fun ρ w => by simp [execOp]) rfl rfl (by decide) (fun c₀ cs h => .inr ⟨rec_none c₀ cs h, rfl, rfl⟩) ?_
 refine W_seq (W_region ?_)
 refine Wmv (.nilIface) ?_
 refine Wl_v (r_nei_n underlying20 rfl rfl) ?_
 refine Wl_nil ?_
 refine W_cond_f rfl ?_
 refine W_skip ?_
 refine cd_nrm (v := .tuple #[]) (res0 results33) ?_
 exact ⟨_, rfl, rfl, HU⟩
theorem fcaught_pan {be : Nat} {er0 er : Int} {gf : FuncId} {caps : Array Value} {S : Nat → Prop} {Φ : World → Prop} (w : World) (hb : Blk w be [.int .i64 er0]) (hgf : ∀ ar w, (callFunc gf ar).run Tryz.prog w = .ok (.enter gf ar) w) (hS : ¬ S be) (hc : Calls Tryz.prog gf caps w (Ret fun v w1 => v = .tuple #[] ∧ Φ w1 ∧ Upd S w w1)) :
  CD Tryz.prog 33 #[.pointer (some ⟨be, 0, none⟩), .func (.func gf) #[] caps] (.panicking (pan (.iface 23 (.int .i64 er)))) w (fun e u' w' => u' = .panicking [{ v := .iface 23 (.int .i64 er), recovered := true }] ∧ (Ret fun v w' => v = .tuple #[] ∧ ∃ wq, Φ wq ∧ Upd S w wq ∧ Upd (Is be) wq w' ∧ Blk w' be [.int .i64 er]) e w') := by
 have HU := Upd.rno w
 refine CD_recover (v := .iface 23 (.int .i64 er)) (u' := .panicking [{ v := .iface 23 (.int .i64 er), recovered := true }]) func33 rfl ntmps33 (by simp) rfl (fun ρ w => by simp [execOp, resolve, invoke, builtin]) rfl rfl (fun ρ w => by simp [execOp]) rfl rfl (by decide) (fun c₀ cs h => .inl (rec_some c₀ cs h)) ?_
 refine W_seq (W_region ?_)
 refine Wmv (.iface 23 (.int .i64 er)) ?_
 refine Wl_v (r_nei_s underlying20 rfl rfl) ?_
 refine Wl_nil ?_
 refine W_cond_t rfl ?_
 refine W_seq (W_region ?_)
 refine Wmv (.iface 23 (.int .i64 er)) ?_
 refine Wl_v (r_ta underlying23 (fun m h => by cases h) rfl) ?_
 refine Wmv (.tuple #[.int .i64 er, .bool true]) ?_
 refine Wl_v (r_ext (v := .int .i64 er) rfl rfl) ?_
 refine Wl_v (r_ext (v := .bool true) rfl rfl) ?_
 refine Was (.int .i64 er) ?_
 refine Was (.bool true) ?_
 refine Wl_nil (W_seq (W_seq (W_region ?_)))
 refine Wmv (.bool true) ?_
 refine Wl_v (r_not (b := true) rfl) ?_
 refine Wl_nil ?_
 refine W_cond_f rfl ?_
 refine W_skip (W_seq (W_region ?_))
 refine Wmv (.func (.func gf) #[] caps) ?_
 refine Wl_call (r_clos0 hgf rfl (by simp)) hc ?_
 rintro v wq ⟨rfl, hΦ, hUq⟩
 replace hb := hb.upd hUq hS
 refine Wl_nil (W_region ?_)
 refine Wmv (.pointer (some ⟨be, 0, none⟩)) ?_
 refine Wmv (.int .i64 er) ?_
 refine Wl_v (r_nil rfl) ?_
 refine Wl_store (v := .int .i64 er) (cs' := [.int .i64 er]) sizeOf23 rfl rfl rfl rfl hb rfl rfl ?_
 intro w1 hU1 hzz1 hbn
 replace hb := hbn; clear hbn
 have hzw1 := hU1.size
 refine Wl_nil ?_
 refine cd_nrm (v := .tuple #[]) (res0 results33) ?_
 exact ⟨_, rfl, rfl, wq, hΦ, hUq, hU1, hb⟩
theorem fmust_ok {er : Int} {a : Option Addr} {c : Nat} (w : World) (hs : Sl w (fun g => g < w.heap.size) 1 (.slice a 1 c) 1 (ints .i64 [er])) (hl : er = 0) :
  Calls Tryz.prog 38 #[.slice a 1 c] w (Ret fun v w' => v = .tuple #[] ∧ Upd No w w') := by
 have HU := Upd.rno w
 have hl_hs := ilen hs
 have hc_hs := hs.cap.1
 refine calls_of_W func38 rfl ntmps38 (by simp) ?_
 refine W_seq (W_region ?_)
 refine Wmv (.slice a 1 c) ?_
 refine Wl_v (r_len underlying112 rfl) ?_
 refine Wmv (.int .i64 0) ?_
 refine Wl_nil (W_block ?_)
 refine W_unroll 2 ?_
 refine unrK_succ ?_
 refine W_seq (W_region ?_)
 refine Wl_v (v := .bool true) (r_lt (a := 0) (b := 1) rfl rfl) ?_
 refine Wl_nil (W_seq ?_)
 refine W_cond_t rfl ?_
 refine W_skip (W_seq (W_block (W_seq (W_region ?_))))
 refine Wl_idxi underlying112 sizeOf23 rfl rfl hs (by omega) (by omega) ?_
 intro ib1 io1 hc1
 rw [show (0 : Int).toNat = 0 from rfl] at hc1
 refine Wl_loadc isAgg23 rfl hc1 ?_
 refine Was (.int .i64 ([er].getD 0 0)) ?_
 refine Wl_nil (W_seq (W_region ?_))
 refine Wmv (.int .i64 ([er].getD 0 0)) ?_
 refine Wl_v (r_ne rfl rfl) ?_
 refine Wl_nil ?_
 have q1 : ¬ (([er].getD 0 0) ≠ 0) := (fun h => h hl)
 rw [decide_eq_false q1]
 refine W_cond_f rfl ?_
 refine W_skip (W_region ?_)
 refine Wl_v (r_add rfl rfl (show _ = (1 : Int) from by decide)) ?_
 refine Wmv (.int .i64 1) ?_
 refine Wl_nil ?_
 refine unrK_succ ?_
 refine W_seq (W_region ?_)
 refine Wl_v (v := .bool false) (r_lt (a := 1) (b := 1) rfl rfl) ?_
 refine Wl_nil (W_seq ?_)
 refine W_cond_f rfl ?_
 refine W_exit ?_
 refine nrm_end (v := .tuple #[]) rfl (res0 results38) ?_
 exact ⟨_, rfl, rfl, HU⟩
theorem fis_ok {er : Int} (w : World)  :
  Calls Tryz.prog 45 #[.bool true, .int .i64 er] w (Ret fun v w' => v = .tuple #[] ∧ Upd No w w') := by
 have HU := Upd.rno w
 refine calls_of_W func45 rfl ntmps45 (by simp) ?_
 refine W_seq (W_region ?_)
 refine Wmv (.bool true) ?_
 refine Wl_v (r_not (b := true) rfl) ?_
 refine Wl_nil ?_
 refine W_cond_f rfl ?_
 refine W_skip ?_
 refine nrm_end (v := .tuple #[]) rfl (res0 results45) ?_
 exact ⟨_, rfl, rfl, HU⟩
theorem fmust_no {er : Int} {a : Option Addr} {c : Nat} (w : World) (hs : Sl w (fun g => g < w.heap.size) 1 (.slice a 1 c) 1 (ints .i64 [er])) (hl : er ≠ 0) :
  Calls Tryz.prog 38 #[.slice a 1 c] w (Pan (.iface 23 (.int .i64 er)) fun w' => Upd No w w') := by
 have HU := Upd.rno w
 have hl_hs := ilen hs
 have hc_hs := hs.cap.1
 refine calls_of_W func38 rfl ntmps38 (by simp) ?_
 refine W_seq (W_region ?_)
 refine Wmv (.slice a 1 c) ?_
 refine Wl_v (r_len underlying112 rfl) ?_
 refine Wmv (.int .i64 0) ?_
 refine Wl_nil (W_block ?_)
 refine W_unroll 1 ?_
 refine unrK_succ ?_
 refine W_seq (W_region ?_)
 refine Wl_v (v := .bool true) (r_lt (a := 0) (b := 1) rfl rfl) ?_
 refine Wl_nil (W_seq ?_)
 refine W_cond_t rfl ?_
 refine W_skip (W_seq (W_block (W_seq (W_region ?_))))
 refine Wl_idxi underlying112 sizeOf23 rfl rfl hs (by omega) (by omega) ?_
 intro ib1 io1 hc1
 rw [show (0 : Int).toNat = 0 from rfl] at hc1
 refine Wl_loadc isAgg23 rfl hc1 ?_
 refine Was (.int .i64 ([er].getD 0 0)) ?_
 refine Wl_nil (W_seq (W_region ?_))
 refine Wmv (.int .i64 ([er].getD 0 0)) ?_
 refine Wl_v (r_ne rfl rfl) ?_
 refine Wl_nil ?_
 have q1 : ([er].getD 0 0) ≠ 0 := hl
 rw [decide_eq_true q1]
 refine W_cond_t rfl ?_
 refine W_region ?_
 refine Wmv (.int .i64 ([er].getD 0 0)) ?_
 refine Wl_v (r_mki (by kernel_rfl) rfl) ?_
 refine Wl_panic rfl ?_
 refine pan_ds rfl ?_
 refine lv_panic ?_
 exact ⟨rfl, HU⟩
theorem fis_no {er : Int} (w : World)  :
  Calls Tryz.prog 45 #[.bool false, .int .i64 er] w (Pan (.iface 23 (.int .i64 er)) fun w' => Upd No w w') := by
 have HU := Upd.rno w
 refine calls_of_W func45 rfl ntmps45 (by simp) ?_
 refine W_seq (W_region ?_)
 refine Wmv (.bool false) ?_
 refine Wl_v (r_not (b := false) rfl) ?_
 refine Wl_nil ?_
 refine W_cond_t rfl ?_
 refine W_region ?_
 refine Wmv (.int .i64 er) ?_
 refine Wl_v (r_mki (by kernel_rfl) rfl) ?_
 refine Wl_panic rfl ?_
 refine pan_ds rfl ?_
 refine lv_panic ?_
 exact ⟨rfl, HU⟩
theorem fenc_clr {b0 : Nat} {xb0 : Value} (w : World) (hbb0 : Blk w b0 [xb0]) :
  Calls Tryz.prog 36 #[.pointer (some ⟨b0, 0, none⟩)] w (Ret fun v w' => v = .tuple #[] ∧ Blk w' b0 [.slice none 0 0] ∧ Upd (fun g => g = b0) w w') := by
 have HU : Upd (fun b => b = b0) w w := Upd.refl _ _
 have hlb0 := hbb0.lt
 refine calls_of_W func36 rfl ntmps36 (by simp) ?_
 refine W_region ?_
 refine Wl_store (v := .slice none 0 0) (cs' := [.slice none 0 0]) sizeOf32 rfl rfl rfl rfl hbb0 rfl rfl ?_
 intro w1 hU1 hzz1 hbb0n
 replace hbb0 := hbb0n; clear hbb0n
 have hzw1 := hU1.size
 replace HU := HU.trans1 hU1 (by show (b0 = b0) ∨ w.heap.size ≤ b0; omega)
 refine Wl_nil ?_
 refine nrm_end (v := .tuple #[]) rfl (res0 results36) ?_
 exact ⟨_, rfl, rfl, hbb0, HU⟩
theorem fpar_clr {b0 : Nat} {xb0 : Value} (w : World) (hbb0 : Blk w b0 [xb0]) :
  Calls Tryz.prog 34 #[.pointer (some ⟨b0, 0, none⟩)] w (Ret fun v w' => v = .tuple #[] ∧ Blk w' b0 [.slice none 0 0] ∧ Upd (fun g => g = b0) w w') := by
 have HU : Upd (fun b => b = b0) w w := Upd.refl _ _
 have hlb0 := hbb0.lt
 refine calls_of_W func34 rfl ntmps34 (by simp) ?_
 refine W_region ?_
 refine Wl_store (v := .slice none 0 0) (cs' := [.slice none 0 0]) sizeOf22 rfl rfl rfl rfl hbb0 rfl rfl ?_
 intro w1 hU1 hzz1 hbb0n
 replace hbb0 := hbb0n; clear hbb0n
 have hzw1 := hU1.size
 replace HU := HU.trans1 hU1 (by show (b0 = b0) ∨ w.heap.size ≤ b0; omega)
 refine Wl_nil ?_
 refine nrm_end (v := .tuple #[]) rfl (res0 results34) ?_
 exact ⟨_, rfl, rfl, hbb0, HU⟩
theorem fgoes_clr (w : World) : Calls Tryz.prog 79 #[] w (Ret fun v w1 => v = .tuple #[] ∧ True ∧ Upd (fun g => False) w w1) := by
 refine calls_of_W func79 rfl ntmps79 (by simp) ?_
 refine W_skip ?_
 refine nrm_end (v := .tuple #[]) rfl (res0 results79) ?_
 exact ⟨_, rfl, rfl, trivial, Upd.refl _ _⟩
theorem parted_ok {n : Int} (w : World) (hp : paF n = 0) :
  Calls Tryz.prog 35 #[.int .i64 n] w (Ret fun v w' => v = .agg #[.int .i64 ((n + 3) / 4), .int .i64 ((n + 3) / 4), .int .i64 ((n + 3) / 4), .int .i64 (n - 3 * ((n + 3) / 4))] ∧ Upd No w w') := by
 have HU := Upd.rno w
 have hpi := paF_inv hp
 refine calls_of_W func35 rfl ntmps35 (by simp) ?_
 refine W_seq (W_region ?_)
 refine Wl_alloc (cs := [.int .i64 0, .int .i64 0, .int .i64 0, .int .i64 0]) zeroValue65 rfl ?_
 intro B1 w1 hB1 hU1 hzz1 hb1
 have hzw1 := hU1.size
 replace HU := HU.trans0 hU1
 refine Wl_nil (W_seq (W_region ?_))
 refine Wmv (.int .i64 n) ?_
 refine Wl_v (r_ge rfl rfl) ?_
 refine Wmv (.bool (decide (0 ≤ n))) ?_
 have q1 : 0 ≤ n := (by omega)
 rw [decide_eq_true q1]
 refine Wl_guard_t rfl ?_
 refine Wmv (.int .i64 n) ?_
 refine Wl_guard_t rfl ?_
 refine Wl_v (r_le rfl rfl) ?_
 refine Wl_v (r_pick_t (v := .bool (decide (n ≤ 131072))) rfl rfl) ?_
 have q2 : n ≤ 131072 := (by omega)
 rw [decide_eq_true q2]
 refine Wl_call (r_call2 rfl call45 rfl rfl) (fis_ok _ ) ?_
 rintro v w2 ⟨rfl, hU2⟩
 have hzw2 := hU2.size
 replace HU := HU.trans0 hU2
 replace hb1 := hb1.upd0 hU2
 refine Wl_nil (W_seq (W_region ?_))
 refine Wmv (.int .i64 n) ?_
 refine Wl_v (r_add rfl rfl (wi64 (by omega) (by omega))) ?_
 refine Wl_v (r_shr (c := (n + 3) / 4) rfl rfl (by decide) rfl) ?_
 refine Was (.int .i64 ((n + 3) / 4)) ?_
 refine Wl_nil (W_seq (W_region ?_))
 refine Wmv (.int .i64 n) ?_
 refine Wmv (.int .i64 ((n + 3) / 4)) ?_
 refine Wl_v (r_mul rfl rfl (wi64 (by omega) (by omega))) ?_
 refine Wl_v (r_gt rfl rfl) ?_
 have q3 : (3 * ((n + 3) / 4)) < n := (by omega)
 rw [decide_eq_true q3]
 refine Wl_call (r_call2 rfl call45 rfl rfl) (fis_ok _ ) ?_
 rintro v w3 ⟨rfl, hU3⟩
 have hzw3 := hU3.size
 replace HU := HU.trans0 hU3
 replace hb1 := hb1.upd0 hU3
 refine Wl_nil (W_seq (W_region ?_))
 refine Wmv (.int .i64 ((n + 3) / 4)) ?_
 refine Wmv (.int .i64 ((n + 3) / 4)) ?_
 refine Wmv (.int .i64 ((n + 3) / 4)) ?_
 refine Wmv (.int .i64 n) ?_
 refine Wmv (.int .i64 ((n + 3) / 4)) ?_
 refine Wl_v (r_mul rfl rfl (wi64 (by omega) (by omega))) ?_
 refine Wl_v (r_sub rfl rfl (wi64 (by omega) (by omega))) ?_
 refine Wl_v (r_builda (pv := [(0, .int .i64 ((n + 3) / 4)), (1, .int .i64 ((n + 3) / 4)), (2, .int .i64 ((n + 3) / 4)), (3, .int .i64 (n - (3 * ((n + 3) / 4))))]) (cs := #[.int .i64 ((n + 3) / 4), .int .i64 ((n + 3) / 4), .int .i64 ((n + 3) / 4), .int .i64 (n - (3 * ((n + 3) / 4)))]) zeroValue65 underlying65 sizeOf3 (by simp only [List.map_toArray, List.map_cons, List.map_nil] <;> rfl) (by kernel_rfl)) ?_
 refine Wl_storea (off := 0) (vs := [.int .i64 ((n + 3) / 4), .int .i64 ((n + 3) / 4), .int .i64 ((n + 3) / 4), .int .i64 (n - (3 * ((n + 3) / 4)))]) (cs' := [.int .i64 ((n + 3) / 4), .int .i64 ((n + 3) / 4), .int .i64 ((n + 3) / 4), .int .i64 (n - (3 * ((n + 3) / 4)))]) sizeOf65 rfl rfl rfl (by simp only [List.mem_cons, List.not_mem_nil, or_false, forall_eq_or_imp, forall_eq]; exact ⟨rfl, rfl, rfl, rfl⟩) hb1 (by simp) rfl ?_
 intro w4 hU4 hzz4 hb1n
 replace hb1 := hb1n; clear hb1n
 have hzw4 := hU4.size
 replace HU := HU.t1 hU4 (by omega)
 refine Wl_nil ?_
 refine W_ret ?_
 refine ret_end (v := .agg #[.int .i64 ((n + 3) / 4), .int .i64 ((n + 3) / 4), .int .i64 ((n + 3) / 4), .int .i64 (n - (3 * ((n + 3) / 4)))]) rfl (rc1 results35 rfl (cellAgg isAgg65 sizeOf65 rfl hb1)) ?_
 exact ⟨_, rfl, rfl, HU⟩
theorem parted_11 {n : Int} (w : World) (hp : (0 ≤ n ∧ n ≤ 131072) ∧ ¬ 3 * ((n + 3) / 4) < n) :
  Calls Tryz.prog 35 #[.int .i64 n] w (Pan (.iface 23 (.int .i64 11)) fun w' => Upd No w w') := by
 have HU := Upd.rno w
 refine calls_of_W func35 rfl ntmps35 (by simp) ?_
 refine W_seq (W_region ?_)
 refine Wl_alloc (cs := [.int .i64 0, .int .i64 0, .int .i64 0, .int .i64 0]) zeroValue65 rfl ?_
 intro B1 w1 hB1 hU1 hzz1 hb1
 have hzw1 := hU1.size
 replace HU := HU.trans0 hU1
 refine Wl_nil (W_seq (W_region ?_))
 refine Wmv (.int .i64 n) ?_
 refine Wl_v (r_ge rfl rfl) ?_
 refine Wmv (.bool (decide (0 ≤ n))) ?_
 have q1 : 0 ≤ n := (by omega)
 rw [decide_eq_true q1]
 refine Wl_guard_t rfl ?_
 refine Wmv (.int .i64 n) ?_
 refine Wl_guard_t rfl ?_
 refine Wl_v (r_le rfl rfl) ?_
 refine Wl_v (r_pick_t (v := .bool (decide (n ≤ 131072))) rfl rfl) ?_
 have q2 : n ≤ 131072 := (by omega)
 rw [decide_eq_true q2]
 refine Wl_call (r_call2 rfl call45 rfl rfl) (fis_ok _ ) ?_
 rintro v w2 ⟨rfl, hU2⟩
 have hzw2 := hU2.size
 replace HU := HU.trans0 hU2
 refine Wl_nil (W_seq (W_region ?_))
 refine Wmv (.int .i64 n) ?_
 refine Wl_v (r_add rfl rfl (wi64 (by omega) (by omega))) ?_
 refine Wl_v (r_shr (c := (n + 3) / 4) rfl rfl (by decide) rfl) ?_
 refine Was (.int .i64 ((n + 3) / 4)) ?_
 refine Wl_nil (W_seq (W_region ?_))
 refine Wmv (.int .i64 n) ?_
 refine Wmv (.int .i64 ((n + 3) / 4)) ?_
 refine Wl_v (r_mul rfl rfl (wi64 (by omega) (by omega))) ?_
 refine Wl_v (r_gt rfl rfl) ?_
 have q3 : ¬ ((3 * ((n + 3) / 4)) < n) := (by omega)
 rw [decide_eq_false q3]
 refine Wl_callp (r_call2 rfl call45 rfl rfl) (fis_no _ ) ?_
 intro w3 hU3
 have hzw3 := hU3.size
 replace HU := HU.trans0 hU3
 refine pan_ds rfl ?_
 refine lv_panic ?_
 exact ⟨rfl, HU⟩
theorem parted_2 {n : Int} (w : World) (hp : ¬ (0 ≤ n ∧ n ≤ 131072)) :
  Calls Tryz.prog 35 #[.int .i64 n] w (Pan (.iface 23 (.int .i64 2)) fun w' => Upd No w w') := by
 have HU := Upd.rno w
 refine calls_of_W func35 rfl ntmps35 (by simp) ?_
 refine W_seq (W_region ?_)
 refine Wl_alloc (cs := [.int .i64 0, .int .i64 0, .int .i64 0, .int .i64 0]) zeroValue65 rfl ?_
 intro B1 w1 hB1 hU1 hzz1 hb1
 have hzw1 := hU1.size
 replace HU := HU.trans0 hU1
 refine Wl_nil (W_seq (W_region ?_))
 refine Wmv (.int .i64 n) ?_
 refine Wl_v (r_ge rfl rfl) ?_
 refine Wmv (.bool (decide (0 ≤ n))) ?_
 by_cases q1 : 0 ≤ n
 ·rw [decide_eq_true q1]
  refine Wl_guard_t rfl ?_
  refine Wmv (.int .i64 n) ?_
  refine Wl_guard_t rfl ?_
  refine Wl_v (r_le rfl rfl) ?_
  refine Wl_v (r_pick_t (v := .bool (decide (n ≤ 131072))) rfl rfl) ?_
  have q2 : ¬ (n ≤ 131072) := (by omega)
  rw [decide_eq_false q2]
  refine Wl_callp (r_call2 rfl call45 rfl rfl) (fis_no _ ) ?_
  intro w2 hU2
  have hzw2 := hU2.size
  replace HU := HU.trans0 hU2
  refine pan_ds rfl ?_
  refine lv_panic ?_
  exact ⟨rfl, HU⟩
 rw [decide_eq_false q1]
 refine Wl_guard_f rfl (Wl_guard_f rfl ?_)
 refine Wl_v (r_pick_f (v := .bool false) rfl rfl) ?_
 refine Wl_callp (r_call2 rfl call45 rfl rfl) (fis_no _ ) ?_
 intro w3 hU3
 have hzw3 := hU3.size
 replace HU := HU.trans0 hU3
 refine pan_ds rfl ?_
 refine lv_panic ?_
 exact ⟨rfl, HU⟩
theorem parted_no {n : Int} (w : World) (hp : paF n ≠ 0) :
  Calls Tryz.prog 35 #[.int .i64 n] w (Pan (.iface 23 (.int .i64 (paF n))) fun w' => Upd No w w') := by
 rcases paF_cases n with ⟨h, _⟩ | ⟨h, h2⟩ | ⟨h, h2⟩
 ·exact absurd h hp
 ·rw [h]; exact parted_11 w ⟨⟨h2.1, h2.2.1⟩, h2.2.2⟩
 rw [h]; exact parted_2 w h2
theorem psz_ok {n : Int} (w : World) (hp : paF n = 0) :
  Calls Tryz.prog 11 #[.int .i64 n] w (Ret fun v w' => ∃ (a' : Option Addr) (c' : Nat), v = .tuple #[.slice a' 4 c', .int .i64 0] ∧ Sl w' (fun g => w.heap.size ≤ g) 1 (.slice a' 4 c') 4 (ints .i64 [(n + 3) / 4, (n + 3) / 4, (n + 3) / 4, n - 3 * ((n + 3) / 4)]) ∧ Upd No w w') := by
 have HU := Upd.rno w
 refine calls_of_W func11 rfl ntmps11 (by simp) ?_
 refine W_seq (W_region ?_)
 refine Wl_alloc (cs := [.slice none 0 0]) zeroValue22 rfl ?_
 intro B1 w1 hB1 hU1 hzz1 hb1
 have hzw1 := hU1.size
 replace HU := HU.trans0 hU1
 refine Wl_alloc (cs := [.int .i64 0]) zeroValue23 rfl ?_
 intro B2 w2 hB2 hU2 hzz2 hb2
 have hzw2 := hU2.size
 replace HU := HU.trans0 hU2
 replace hb1 := hb1.upd0 hU2
 refine Wl_nil (W_seq (W_region ?_))
 refine Wl_v (r_mkf1 (v0 := .pointer (some ⟨B1, 0, none⟩)) rfl) ?_
 refine Wl_defer2 rfl rfl ?_
 refine Wl_nil (W_seq (W_region ?_))
 refine Wmv (.int .i64 n) ?_
 have q1 : paF n = 0 := hp
 refine Wl_call (r_call1 rfl call35 rfl) (parted_ok (n := n) _ q1) ?_
 rintro v w3 ⟨rfl, hU3⟩
 have hzw3 := hU3.size
 replace HU := HU.trans0 hU3
 replace hb1 := hb1.upd0 hU3
 replace hb2 := hb2.upd0 hU3
 refine Wl_alloc (cs := [.int .i64 0, .int .i64 0, .int .i64 0, .int .i64 0]) zeroValue65 rfl ?_
 intro B4 w4 hB4 hU4 hzz4 hb4
 have hzw4 := hU4.size
 replace HU := HU.trans0 hU4
 replace hb1 := hb1.upd0 hU4
 replace hb2 := hb2.upd0 hU4
 refine Wl_storea (off := 0) (vs := [.int .i64 ((n + 3) / 4), .int .i64 ((n + 3) / 4), .int .i64 ((n + 3) / 4), .int .i64 (n - 3 * ((n + 3) / 4))]) (cs' := [.int .i64 ((n + 3) / 4), .int .i64 ((n + 3) / 4), .int .i64 ((n + 3) / 4), .int .i64 (n - 3 * ((n + 3) / 4))]) sizeOf65 rfl rfl rfl (by simp only [List.mem_cons, List.not_mem_nil, or_false, forall_eq_or_imp, forall_eq]; exact ⟨rfl, rfl, rfl, rfl⟩) hb4 (by simp) rfl ?_
 intro w5 hU5 hzz5 hb4n
 replace hb4 := hb4n; clear hb4n
 have hzw5 := hU5.size
 replace HU := HU.t1 hU5 (by omega)
 replace hb1 := hb1.upd1 hU5 (by omega)
 replace hb2 := hb2.upd1 hU5 (by omega)
 refine Wl_nil (W_seq (W_region ?_))
 refine Wl_v (r_slicearr (len := 4) underlying65 sizeOf3 rfl) ?_
 have hT6 : Sl w5 (fun g => g = B4) 1 (.slice (some ⟨B4, 0, none⟩) 4 4) 4 (ints .i64 [(n + 3) / 4, (n + 3) / 4, (n + 3) / 4, n - 3 * ((n + 3) / 4)]) := Sl.of_blk hb4 rfl (by simp only [maxLen]; omega)
 refine Wl_store (v := .slice (some ⟨B4, 0, none⟩) 4 4) (cs' := [.slice (some ⟨B4, 0, none⟩) 4 4]) sizeOf22 rfl rfl rfl rfl hb1 rfl rfl ?_
 intro w7 hU7 hzz7 hb1n
 replace hb1 := hb1n; clear hb1n
 have hzw7 := hU7.size
 replace HU := HU.t1 hU7 (by omega)
 replace hb2 := hb2.upd1 hU7 (by omega)
 replace hT6 := hT6.upd1 hU7 (by intro h1; have h3 : B1 = B4 := h1; omega)
 refine Wl_store (v := .int .i64 0) (cs' := [.int .i64 0]) sizeOf23 rfl rfl rfl rfl hb2 rfl rfl ?_
 intro w8 hU8 hzz8 hb2n
 replace hb2 := hb2n; clear hb2n
 have hzw8 := hU8.size
 replace HU := HU.t1 hU8 (by omega)
 replace hb1 := hb1.upd1 hU8 (by omega)
 replace hT6 := hT6.upd1 hU8 (by intro h1; have h3 : B2 = B4 := h1; omega)
 refine Wl_nil ?_
 refine W_ret ?_
 refine ret_ds rfl ?_
 refine lv_call (by simp) call33 rfl (fcaught_ret _) ?_
 rintro e1 u1 w9 ⟨rfl, v1, rfl, rfl, hU9⟩
 have hzw9 := hU9.size
 replace HU := HU.trans0 hU9
 replace hb1 := hb1.upd0 hU9
 replace hb2 := hb2.upd0 hU9
 replace hT6 := hT6.upd0 hU9
 refine lv_nil (v := .tuple #[.slice (some ⟨B4, 0, none⟩) 4 4, .int .i64 0]) (rc2 results11 rfl rfl (cellIs isAgg22 hb1) (cellIs isAgg23 hb2)) ?_
 exact ⟨_, rfl, (some ⟨B4, 0, none⟩), 4, rfl, (hT6.weak (by intro g hg; have h3 : g = B4 := hg; show w.heap.size ≤ g; omega)), HU⟩
theorem psz_no {n : Int} (w : World) (hp : paF n ≠ 0) :
  Calls Tryz.prog 11 #[.int .i64 n] w (Ret fun v w' => v = .tuple #[.slice none 0 0, .int .i64 (paF n)] ∧ Upd No w w') := by
 have HU := Upd.rno w
 refine calls_of_W func11 rfl ntmps11 (by simp) ?_
 refine W_seq (W_region ?_)
 refine Wl_alloc (cs := [.slice none 0 0]) zeroValue22 rfl ?_
 intro B1 w1 hB1 hU1 hzz1 hb1
 have hzw1 := hU1.size
 replace HU := HU.trans0 hU1
 refine Wl_alloc (cs := [.int .i64 0]) zeroValue23 rfl ?_
 intro B2 w2 hB2 hU2 hzz2 hb2
 have hzw2 := hU2.size
 replace HU := HU.trans0 hU2
 replace hb1 := hb1.upd0 hU2
 refine Wl_nil (W_seq (W_region ?_))
 refine Wl_v (r_mkf1 (v0 := .pointer (some ⟨B1, 0, none⟩)) rfl) ?_
 refine Wl_defer2 rfl rfl ?_
 refine Wl_nil (W_seq (W_region ?_))
 refine Wmv (.int .i64 n) ?_
 have q1 : ¬ (paF n = 0) := hp
 refine Wl_callp (r_call1 rfl call35 rfl) (parted_no (n := n) _ q1) ?_
 intro w3 hU3
 have hzw3 := hU3.size
 replace HU := HU.trans0 hU3
 replace hb1 := hb1.upd0 hU3
 replace hb2 := hb2.upd0 hU3
 refine pan_ds rfl ?_
 refine lv_call (by simp) call33 rfl (fcaught_pan (S := fun g => g = B1) (Φ := fun w' => Blk w' B1 [.slice none 0 0]) _ hb2 call34 (by show ¬ (B2 = B1); first | omega | exact fun h => h) (fpar_clr _ hb1)) ?_
 rintro e1 u1 w4 ⟨rfl, v1, rfl, rfl, wq4, hz4_0, hUa4, hUb4, hbe4⟩
 have hzwq4 := hUa4.size
 replace HU := HU.trans hUa4 (by intro x hx; have hx2 : x = B1 := hx; show (False) ∨ w.heap.size ≤ x; omega)
 have hzw4 := hUb4.size
 replace HU := HU.t1 hUb4 (by omega)
 replace hz4_0 := hz4_0.upd1 hUb4 (by omega)
 refine lv_nil (v := .tuple #[.slice none 0 0, .int .i64 (paF n)]) (rc2 results11 rfl rfl (cellIs isAgg22 hz4_0) (cellIs isAgg23 hbe4)) ?_
 exact ⟨_, rfl, rfl, HU⟩
theorem splt {n : Int} (w : World)  :
  Calls Tryz.prog 13 #[.int .i64 n] w (Ret fun v w' => v = .bool (decide ((paF n : Int) = 0)) ∧ Upd No w w') := by
 have HU := Upd.rno w
 refine calls_of_W func13 rfl ntmps13 (by simp) ?_
 refine W_seq (W_region ?_)
 refine Was (.bool false) ?_
 refine Wl_nil (W_seq (W_region ?_))
 refine Wmv (.int .i64 n) ?_
 by_cases q1 : paF n = 0
 ·refine Wl_call (r_call1 rfl call11 rfl) (psz_ok (n := n) _ q1) ?_
  rintro v w1 ⟨a1, c1, rfl, hO1, hU1⟩
  have hzw1 := hU1.size
  replace HU := HU.trans0 hU1
  have hl_hO1 := ilen hO1
  have hc_hO1 := hO1.cap.1
  refine Wmv (.tuple #[.slice a1 4 c1, .int .i64 0]) ?_
  refine Wl_v (r_ext (v := .slice a1 4 c1) rfl rfl) ?_
  refine Wl_v (r_ext (v := .int .i64 0) rfl rfl) ?_
  refine Was (.slice a1 4 c1) ?_
  refine Was (.int .i64 0) ?_
  refine Wl_nil (W_seq (W_region ?_))
  refine Wmv (.int .i64 0) ?_
  refine Wl_v (v := .bool true) (r_eq (a := 0) (b := 0) rfl rfl) ?_
  refine Was (.bool true) ?_
  refine Wl_nil ?_
  refine W_ret ?_
  refine ret_end (v := .bool true) rfl (res1 results13 rfl) ?_
  exact ⟨_, rfl, (by rw [decide_eq_true (show paF n = 0 from q1)]), HU⟩
 refine Wl_call (r_call1 rfl call11 rfl) (psz_no (n := n) _ q1) ?_
 rintro v w2 ⟨rfl, hU2⟩
 have hzw2 := hU2.size
 replace HU := HU.trans0 hU2
 refine Wmv (.tuple #[.slice none 0 0, .int .i64 (paF n)]) ?_
 refine Wl_v (r_ext (v := .slice none 0 0) rfl rfl) ?_
 refine Wl_v (r_ext (v := .int .i64 (paF n)) rfl rfl) ?_
 refine Was (.slice none 0 0) ?_
 refine Was (.int .i64 (paF n)) ?_
 refine Wl_nil (W_seq (W_region ?_))
 refine Wmv (.int .i64 (paF n)) ?_
 refine Wl_v (r_eq rfl rfl) ?_
 refine Was (.bool (decide ((paF n) = 0))) ?_
 refine Wl_nil ?_
 refine W_ret ?_
 refine ret_end (v := .bool (decide ((paF n) = 0))) rfl (res1 results13 rfl) ?_
 exact ⟨_, rfl, (vbool (by omega)), HU⟩
end Go.Proofs.YtdppageondgjkaaGreat
