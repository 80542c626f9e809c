/-
  Several texts of this project, put together.
-/
import Derived.Test.YtdppageondgjkaaGreatYA
import Derived.Test.YtdppageondgjkaaGreatCB
import Derived.Test.YtdppageondgjkaaGreatFB
set_option linter.unusedVariables false
set_option linter.unusedSimpArgs false
set_option maxRecDepth 100000
namespace Go.Proofs.YtdppageondgjkaaGreat
open Go.Fw _root_.Go.Proofs.Tryz
theorem ocaught_ret {be : Nat} {cl : Value} (w : World) :
  CD Tryz.prog 59 #[.pointer (some ⟨be, 0, none⟩), cl] (.returning) w (fun e u' w' => u' = .returning ∧ (Ret fun v w' => v = .tuple #[] ∧ Upd No w w') e w') := by
 have HU := Upd.rno w
 refine CD_recover (v := .nilIface) (u' := .returning) func59 rfl ntmps59 (by simp) rfl (fun ρ w => by simp [execOp, resolve, invoke, builtin]) rfl rfl (fun ρ w => by simp [execOp]) rfl rfl (by decide) (fun c₀ cs h => .inr ⟨rec_none c₀ cs h, rfl, rfl⟩) ?_
 refine W_seq (W_region ?_)
 refine Wmv (.nilIface) ?_
 refine Wl_v (r_nei_n underlying20 rfl rfl) ?_
 refine Wl_nil ?_
 refine W_cond_f rfl ?_
 refine W_skip ?_
 refine cd_nrm (v := .tuple #[]) (res0 results59) ?_
 exact ⟨_, rfl, rfl, HU⟩
theorem ocaught_pan {be : Nat} {er0 er : Int} {gf : FuncId} {caps : Array Value} {S : Nat → Prop} {Φ : World → Prop} (w : World) (hb : Blk w be [.int .i64 er0]) (hgf : ∀ ar w, (callFunc gf ar).run Tryz.prog w = .ok (.enter gf ar) w) (hS : ¬ S be) (hc : Calls Tryz.prog gf caps w (Ret fun v w1 => v = .tuple #[] ∧ Φ w1 ∧ Upd S w w1)) :
  CD Tryz.prog 59 #[.pointer (some ⟨be, 0, none⟩), .func (.func gf) #[] caps] (.panicking (pan (.iface 23 (.int .i64 er)))) w (fun e u' w' => u' = .panicking [{ v := .iface 23 (.int .i64 er), recovered := true }] ∧ (Ret fun v w' => v = .tuple #[] ∧ ∃ wq, Φ wq ∧ Upd S w wq ∧ Upd (Is be) wq w' ∧ Blk w' be [.int .i64 er]) e w') := by
 have HU := Upd.rno w
 refine CD_recover (v := .iface 23 (.int .i64 er)) (u' := .panicking [{ v := .iface 23 (.int .i64 er), recovered := true }]) func59 rfl ntmps59 (by simp) rfl (fun ρ w => by simp [execOp, resolve, invoke, builtin]) rfl rfl (fun ρ w => by simp [execOp]) rfl rfl (by decide) (fun c₀ cs h => .inl (rec_some c₀ cs h)) ?_
 refine W_seq (W_region ?_)
 refine Wmv (.iface 23 (.int .i64 er)) ?_
 refine Wl_v (r_nei_s underlying20 rfl rfl) ?_
 refine Wl_nil ?_
 refine W_cond_t rfl ?_
 refine W_seq (W_region ?_)
 refine Wmv (.iface 23 (.int .i64 er)) ?_
 refine Wl_v (r_ta underlying23 (fun m h => by cases h) rfl) ?_
 refine Wmv (.tuple #[.int .i64 er, .bool true]) ?_
 refine Wl_v (r_ext (v := .int .i64 er) rfl rfl) ?_
 refine Wl_v (r_ext (v := .bool true) rfl rfl) ?_
 refine Was (.int .i64 er) ?_
 refine Was (.bool true) ?_
 refine Wl_nil (W_seq (W_seq (W_region ?_)))
 refine Wmv (.bool true) ?_
 refine Wl_v (r_not (b := true) rfl) ?_
 refine Wl_nil ?_
 refine W_cond_f rfl ?_
 refine W_skip (W_seq (W_region ?_))
 refine Wmv (.func (.func gf) #[] caps) ?_
 refine Wl_call (r_clos0 hgf rfl (by simp)) hc ?_
 rintro v wq ⟨rfl, hΦ, hUq⟩
 replace hb := hb.upd hUq hS
 refine Wl_nil (W_region ?_)
 refine Wmv (.pointer (some ⟨be, 0, none⟩)) ?_
 refine Wmv (.int .i64 er) ?_
 refine Wl_v (r_nil rfl) ?_
 refine Wl_store (v := .int .i64 er) (cs' := [.int .i64 er]) sizeOf23 rfl rfl rfl rfl hb rfl rfl ?_
 intro w1 hU1 hzz1 hbn
 replace hb := hbn; clear hbn
 have hzw1 := hU1.size
 refine Wl_nil ?_
 refine cd_nrm (v := .tuple #[]) (res0 results59) ?_
 exact ⟨_, rfl, rfl, wq, hΦ, hUq, hU1, hb⟩
theorem omust_ok {er : Int} {a : Option Addr} {c : Nat} (w : World) (hs : Sl w (fun g => g < w.heap.size) 1 (.slice a 1 c) 1 (ints .i64 [er])) (hl : er = 0) :
  Calls Tryz.prog 63 #[.slice a 1 c] w (Ret fun v w' => v = .tuple #[] ∧ Upd No w w') := by
 have HU := Upd.rno w
 have hl_hs := ilen hs
 have hc_hs := hs.cap.1
 refine calls_of_W func63 rfl ntmps63 (by simp) ?_
 refine W_seq (W_region ?_)
 refine Wmv (.slice a 1 c) ?_
 refine Wl_v (r_len underlying112 rfl) ?_
 refine Wmv (.int .i64 0) ?_
 refine Wl_nil (W_block ?_)
 refine W_unroll 2 ?_
 refine unrK_succ ?_
 refine W_seq (W_region ?_)
 refine Wl_v (v := .bool true) (r_lt (a := 0) (b := 1) rfl rfl) ?_
 refine Wl_nil (W_seq ?_)
 refine W_cond_t rfl ?_
 refine W_skip (W_seq (W_block (W_seq (W_region ?_))))
 refine Wl_idxi underlying112 sizeOf23 rfl rfl hs (by omega) (by omega) ?_
 intro ib1 io1 hc1
 rw [show (0 : Int).toNat = 0 from rfl] at hc1
 refine Wl_loadc isAgg23 rfl hc1 ?_
 refine Was (.int .i64 ([er].getD 0 0)) ?_
 refine Wl_nil (W_seq (W_region ?_))
 refine Wmv (.int .i64 ([er].getD 0 0)) ?_
 refine Wl_v (r_ne rfl rfl) ?_
 refine Wl_nil ?_
 have q1 : ¬ (([er].getD 0 0) ≠ 0) := (fun h => h hl)
 rw [decide_eq_false q1]
 refine W_cond_f rfl ?_
 refine W_skip (W_region ?_)
 refine Wl_v (r_add rfl rfl (show _ = (1 : Int) from by decide)) ?_
 refine Wmv (.int .i64 1) ?_
 refine Wl_nil ?_
 refine unrK_succ ?_
 refine W_seq (W_region ?_)
 refine Wl_v (v := .bool false) (r_lt (a := 1) (b := 1) rfl rfl) ?_
 refine Wl_nil (W_seq ?_)
 refine W_cond_f rfl ?_
 refine W_exit ?_
 refine nrm_end (v := .tuple #[]) rfl (res0 results63) ?_
 exact ⟨_, rfl, rfl, HU⟩
theorem omust_no {er : Int} {a : Option Addr} {c : Nat} (w : World) (hs : Sl w (fun g => g < w.heap.size) 1 (.slice a 1 c) 1 (ints .i64 [er])) (hl : er ≠ 0) :
  Calls Tryz.prog 63 #[.slice a 1 c] w (Pan (.iface 23 (.int .i64 er)) fun w' => Upd No w w') := by
 have HU := Upd.rno w
 have hl_hs := ilen hs
 have hc_hs := hs.cap.1
 refine calls_of_W func63 rfl ntmps63 (by simp) ?_
 refine W_seq (W_region ?_)
 refine Wmv (.slice a 1 c) ?_
 refine Wl_v (r_len underlying112 rfl) ?_
 refine Wmv (.int .i64 0) ?_
 refine Wl_nil (W_block ?_)
 refine W_unroll 1 ?_
 refine unrK_succ ?_
 refine W_seq (W_region ?_)
 refine Wl_v (v := .bool true) (r_lt (a := 0) (b := 1) rfl rfl) ?_
 refine Wl_nil (W_seq ?_)
 refine W_cond_t rfl ?_
 refine W_skip (W_seq (W_block (W_seq (W_region ?_))))
 refine Wl_idxi underlying112 sizeOf23 rfl rfl hs (by omega) (by omega) ?_
 intro ib1 io1 hc1
 rw [show (0 : Int).toNat = 0 from rfl] at hc1
 refine Wl_loadc isAgg23 rfl hc1 ?_
 refine Was (.int .i64 ([er].getD 0 0)) ?_
 refine Wl_nil (W_seq (W_region ?_))
 refine Wmv (.int .i64 ([er].getD 0 0)) ?_
 refine Wl_v (r_ne rfl rfl) ?_
 refine Wl_nil ?_
 have q1 : ([er].getD 0 0) ≠ 0 := hl
 rw [decide_eq_true q1]
 refine W_cond_t rfl ?_
 refine W_region ?_
 refine Wmv (.int .i64 ([er].getD 0 0)) ?_
 refine Wl_v (r_mki (by kernel_rfl) rfl) ?_
 refine Wl_panic rfl ?_
 refine pan_ds rfl ?_
 refine lv_panic ?_
 exact ⟨rfl, HU⟩
theorem ois_ok {er : Int} (w : World)  :
  Calls Tryz.prog 89 #[.bool true, .int .i64 er] w (Ret fun v w' => v = .tuple #[] ∧ Upd No w w') := by
 have HU := Upd.rno w
 refine calls_of_W func89 rfl ntmps89 (by simp) ?_
 refine W_seq (W_region ?_)
 refine Wmv (.bool true) ?_
 refine Wl_v (r_not (b := true) rfl) ?_
 refine Wl_nil ?_
 refine W_cond_f rfl ?_
 refine W_skip ?_
 refine nrm_end (v := .tuple #[]) rfl (res0 results89) ?_
 exact ⟨_, rfl, rfl, HU⟩
theorem ois_no {er : Int} (w : World)  :
  Calls Tryz.prog 89 #[.bool false, .int .i64 er] w (Pan (.iface 23 (.int .i64 er)) fun w' => Upd No w w') := by
 have HU := Upd.rno w
 refine calls_of_W func89 rfl ntmps89 (by simp) ?_
 refine W_seq (W_region ?_)
 refine Wmv (.bool false) ?_
 refine Wl_v (r_not (b := false) rfl) ?_
 refine Wl_nil ?_
 refine W_cond_t rfl ?_
 refine W_region ?_
 refine Wmv (.int .i64 er) ?_
 refine Wl_v (r_mki (by kernel_rfl) rfl) ?_
 refine Wl_panic rfl ?_
 refine pan_ds rfl ?_
 refine lv_panic ?_
 exact ⟨rfl, HU⟩
theorem oenc_clr {b0 : Nat} {xb0 : Value} (w : World) (hbb0 : Blk w b0 [xb0]) :
  Calls Tryz.prog 60 #[.pointer (some ⟨b0, 0, none⟩)] w (Ret fun v w' => v = .tuple #[] ∧ Blk w' b0 [.slice none 0 0] ∧ Upd (fun g => g = b0) w w') := by
 have HU : Upd (fun b => b = b0) w w := Upd.refl _ _
 have hlb0 := hbb0.lt
 refine calls_of_W func60 rfl ntmps60 (by simp) ?_
 refine W_region ?_
 refine Wl_store (v := .slice none 0 0) (cs' := [.slice none 0 0]) sizeOf32 rfl rfl rfl rfl hbb0 rfl rfl ?_
 intro w1 hU1 hzz1 hbb0n
 replace hbb0 := hbb0n; clear hbb0n
 have hzw1 := hU1.size
 replace HU := HU.trans1 hU1 (by show (b0 = b0) ∨ w.heap.size ≤ b0; omega)
 refine Wl_nil ?_
 refine nrm_end (v := .tuple #[]) rfl (res0 results60) ?_
 exact ⟨_, rfl, rfl, hbb0, HU⟩
theorem obl_clr {b0 : Nat} {xb0 : Value} (w : World) (hbb0 : Blk w b0 [xb0]) :
  Calls Tryz.prog 71 #[.pointer (some ⟨b0, 0, none⟩)] w (Ret fun v w' => v = .tuple #[] ∧ Blk w' b0 [.int .i64 0] ∧ Upd (fun g => g = b0) w w') := by
 have HU : Upd (fun b => b = b0) w w := Upd.refl _ _
 have hlb0 := hbb0.lt
 refine calls_of_W func71 rfl ntmps71 (by simp) ?_
 refine W_region ?_
 refine Wl_store (v := .int .i64 0) (cs' := [.int .i64 0]) sizeOf3 rfl rfl rfl rfl hbb0 rfl rfl ?_
 intro w1 hU1 hzz1 hbb0n
 replace hbb0 := hbb0n; clear hbb0n
 have hzw1 := hU1.size
 replace HU := HU.trans1 hU1 (by show (b0 = b0) ∨ w.heap.size ≤ b0; omega)
 refine Wl_nil ?_
 refine nrm_end (v := .tuple #[]) rfl (res0 results71) ?_
 exact ⟨_, rfl, rfl, hbb0, HU⟩
theorem otold_b {b0 : Nat} {xb0 : Value} (w : World) (hbb0 : Blk w b0 [xb0]) :
  Calls Tryz.prog 116 #[.pointer (some ⟨b0, 0, none⟩)] w (Ret fun v w' => v = .tuple #[] ∧ Blk w' b0 [.slice none 0 0] ∧ Upd (fun g => g = b0) w w') := by
 have HU : Upd (fun b => b = b0) w w := Upd.refl _ _
 have hlb0 := hbb0.lt
 refine calls_of_W func116 rfl ntmps116 (by simp) ?_
 refine W_seq (W_region ?_)
 refine Was (.slice none 0 0) ?_
 refine Wl_nil (W_region ?_)
 refine Wmv (.slice none 0 0) ?_
 refine Wl_store (v := .slice none 0 0) (cs' := [.slice none 0 0]) sizeOf32 rfl rfl rfl rfl hbb0 rfl rfl ?_
 intro w1 hU1 hzz1 hbb0n
 replace hbb0 := hbb0n; clear hbb0n
 have hzw1 := hU1.size
 replace HU := HU.trans1 hU1 (by show (b0 = b0) ∨ w.heap.size ≤ b0; omega)
 refine Wl_nil ?_
 refine nrm_end (v := .tuple #[]) rfl (res0 results116) ?_
 exact ⟨_, rfl, rfl, hbb0, HU⟩
theorem bclone {a : Option Addr} {n c : Nat} {b : List Int} (w : World) (hs : Sl w (fun g => g < w.heap.size) 1 (.slice a n c) n (ints .u8 b)) (hn : n ≤ 17592186044415) :
  Calls Tryz.prog 69 #[.slice a n c] w (Ret fun v w' => ∃ (a' : Option Addr) (c' : Nat), v = .slice a' n c' ∧ Own w' (fun g => w.heap.size ≤ g) 5 1 (.slice a' n c') n (ints .u8 b) ∧ Upd No w w') := by
 have HU := Upd.rno w
 have hl_hs := ilen hs
 have hc_hs := hs.cap.1
 refine calls_of_W func69 rfl ntmps69 (by simp) ?_
 refine W_seq (W_region ?_)
 refine Was (.slice none 0 0) ?_
 refine Wl_nil (W_seq (W_seq (W_region ?_)))
 refine Wmv (.slice a n c) ?_
 refine Wl_v (r_eqsn underlying32 rfl rfl) ?_
 refine Wl_nil ?_
 by_cases q1 : a = none
 ·rw [decide_eq_true q1]
  refine W_cond_t rfl ?_
  refine W_seq (W_region ?_)
  refine Was (.slice none 0 0) ?_
  refine Wl_nil ?_
  refine W_ret ?_
  refine ret_end (v := .slice none 0 0) rfl (res1 results69 rfl) ?_
  obtain ⟨h0, h1⟩ := Sl.none_len (q1 ▸ hs)
  subst h0
  obtain rfl : b = [] := List.length_eq_zero_iff.1 hl_hs
  exact ⟨_, rfl, none, 0, rfl, Own.nil _ _ _ _, HU⟩
 rw [decide_eq_false q1]
 refine W_cond_f rfl ?_
 refine W_skip (W_seq (W_region ?_))
 refine Wl_lit0 underlying32 sizeOf5 ?_
 intro B1 w1 hB1 hU1 hzz1 hs1
 have hzw1 := hU1.size
 replace hs := hs.upd0 hU1
 replace HU := HU.trans0 hU1
 refine Wmv (.slice a n c) ?_
 refine Wl_appendi (xs := []) (ys := b) (zs := b) (k' := .u8) (tot := n) (by first | rfl | exact (rows_app _ _).symm | simp) underlying32 (ti := Tryz.t5) (z := .int .u8 0) (sz := 1) (by' := 1) rfl rfl rfl rfl rfl (by decide) rfl hs1 rfl hs  (by omega) (by simp only [maxLen]; omega) (by omega) ?_
 intro a2 c2 w2 hU2 hzz2 hO2
 clear hs1
 have hzw2 := hU2.size
 replace HU := HU.trans hU2 (by intro x hx; have hx2 : x = B1 := hx; show (False) ∨ w.heap.size ≤ x; omega)
 replace hO2 := hO2.tight
 have hl_hO2 := ilen hO2.sl
 have hc_hO2 := hO2.sl.cap.1
 refine Was (.slice a2 n c2) ?_
 refine Wl_nil ?_
 refine W_ret ?_
 refine ret_end (v := .slice a2 n c2) rfl (res1 results69 rfl) ?_
 exact ⟨_, rfl, a2, c2, rfl, (hO2.weak (by intro g hg; have h3 : ((((g = B1) ∨ g = w1.heap.size)) ∧ g < w2.heap.size) := hg; show w.heap.size ≤ g; omega)), HU⟩
theorem len8_all (x : Int) (h0 : 0 < x) (h1 : x < 256) (q : Nat → Option Int) (hq : ∀ i : Nat, i < 256 → i = 0 ∨ q i = some ((l8 (i : Int) : Nat) : Int)) : q x.toNat = some ((l8 x : Nat) : Int) := by
 rcases hq x.toNat (by omega) with h | h
 ·omega
 rw [h, show ((x.toNat : Nat) : Int) = x from by omega]
theorem len8_spec {x : Int} (w : World) (hx : 0 < x ∧ x < 256) :
  Calls Tryz.prog 141 #[.int .u8 x] w (Ret fun v w' => v = .int .i64 ((l8 x : Nat) : Int) ∧ Upd No w w') := by
 have HU := Upd.rno w
 have h8 := l8_bd hx.1 hx.2
 refine calls_of_W func141 rfl ntmps141 (by simp) ?_
 refine W_seq (W_region ?_)
 refine Was (.int .i64 0) ?_
 refine Wl_nil (W_seq (W_region ?_))
 refine Wmv (.int .u8 x) ?_
 refine Wl_v (r_indexs (c := ((l8 x : Nat) : Int)) underlying9 rfl rfl (by omega) (len8_all x hx.1 hx.2 (fun i => Option.map (fun b : UInt8 => ((b.toNat : Nat) : Int)) _) (by decide +kernel))) ?_
 refine Wl_v (r_cvt underlying5 underlying3 rfl (wi64 (by omega) (by omega))) ?_
 refine Was (.int .i64 ((l8 x : Nat) : Int)) ?_
 refine Wl_nil ?_
 refine W_ret ?_
 refine ret_end (v := .int .i64 ((l8 x : Nat) : Int)) rfl (res1 results141 rfl) ?_
 exact ⟨_, rfl, rfl, HU⟩
theorem left_spec {rb n c t : Nat} {a : Option Addr} (w : World) (hB : Blk w rb [.slice a n c, .int .i64 0, .int .i64 ((t : Nat) : Int)]) (ht : t ≤ 1000000) :
  Calls Tryz.prog 119 #[.pointer (some ⟨rb, 0, none⟩)] w (Ret fun v w' => v = .int .i64 ((t : Nat) : Int) ∧ Upd No w w') := by
 have HU := Upd.rno w
 have hbl_hB := hB.lt
 refine calls_of_W func119 rfl ntmps119 (by simp) ?_
 refine W_seq (W_region ?_)
 refine Was (.int .i64 0) ?_
 refine Wl_nil (W_seq ?_)
 refine W_drawt rfl (l0 := tf 0 10) (by kernel_rfl) ?_
 refine Tk 0 (tf 1 10) rfl (YI_v (v := .pointer (some ⟨rb, 0, none⟩)) rfl (fun w' hw' => r_mv (v := .pointer (some ⟨rb, 0, none⟩)) rfl)) ?_
 refine Tk 1 (tf 2 10) rfl (YI_v (v := .pointer (some ⟨rb, 0, none⟩)) rfl (fun w' hw' => r_nil rfl)) ?_
 refine Tk 2 (tf 3 10) rfl (YI_v (v := .pointer (some ⟨rb, 2, none⟩)) rfl (fun w' hw' => r_fld underlying167 rfl sizeOf3 rfl rfl)) ?_
 refine Tk 3 (tf 4 10) rfl (YI_v (v := .int .i64 ((t : Nat) : Int)) rfl (fun w' hw' => r_load isAgg3 rfl (by rw [(hB.upd0 hw').cell]; rfl))) ?_
 refine Tk 4 (tf 5 10) rfl (YI_v (v := .pointer (some ⟨rb, 0, none⟩)) rfl (fun w' hw' => r_mv (v := .pointer (some ⟨rb, 0, none⟩)) rfl)) ?_
 refine Tk 5 (tf 6 10) rfl (YI_v (v := .pointer (some ⟨rb, 0, none⟩)) rfl (fun w' hw' => r_nil rfl)) ?_
 refine Tk 6 (tf 7 10) rfl (YI_v (v := .pointer (some ⟨rb, 1, none⟩)) rfl (fun w' hw' => r_fld underlying167 rfl sizeOf3 rfl rfl)) ?_
 refine Tk 7 (tf 8 10) rfl (YI_v (v := .int .i64 0) rfl (fun w' hw' => r_load isAgg3 rfl (by rw [(hB.upd0 hw').cell]; rfl))) ?_
 refine Tk 8 (tf 9 10) rfl (YI_v (v := .int .i64 (((t : Nat) : Int) - 0)) rfl (fun w' hw' => r_sub rfl rfl (wi64 (by omega) (by omega)))) ?_
 refine Tk 9 (tf 10 10) rfl (YI_v (v := .int .i64 (((t : Nat) : Int) - 0)) rfl (fun w' hw' => r_as (v := .int .i64 (((t : Nat) : Int) - 0)) rfl)) ?_
 intro w1 hU1
 have hzw1 := hU1.size
 replace HU := HU.trans0 hU1
 refine Wa_done (by kernel_rfl) ?_
 refine W_ret ?_
 refine ret_end (v := .int .i64 (((t : Nat) : Int) - 0)) rfl (res1 results119 rfl) ?_
 exact ⟨_, rfl, (by first | rfl | exact vint (by omega)), HU⟩
theorem bleft_spec {rb n c t : Nat} {a : Option Addr} (w : World) (hB : Blk w rb [.slice a n c, .int .i64 0, .int .i64 ((t : Nat) : Int)]) (ht : t ≤ 1000000) :
  Calls Tryz.prog 104 #[.pointer (some ⟨rb, 0, none⟩)] w (Ret fun v w' => v = .int .i64 ((t : Nat) : Int) ∧ Upd No w w') := by
 have HU := Upd.rno w
 have hbl_hB := hB.lt
 refine calls_of_W func104 rfl ntmps104 (by simp) ?_
 refine W_seq (W_region ?_)
 refine Was (.int .i64 0) ?_
 refine Wl_nil (W_seq (W_seq (W_region ?_)))
 refine Wmv (.pointer (some ⟨rb, 0, none⟩)) ?_
 refine Wl_v (r_eqpn_s underlying146 rfl rfl) ?_
 refine Wl_nil ?_
 refine W_cond_f rfl ?_
 refine W_skip (W_seq (W_region ?_))
 refine Wmv (.pointer (some ⟨rb, 0, none⟩)) ?_
 refine Wl_v (r_nil rfl) ?_
 refine Wl_v (r_fld underlying169 rfl sizeOf167 rfl rfl) ?_
 refine Wl_call (r_call1 rfl call119 rfl) (left_spec _ hB (by omega)) ?_
 rintro v w1 ⟨rfl, hU1⟩
 have hzw1 := hU1.size
 replace HU := HU.trans0 hU1
 refine Was (.int .i64 ((t : Nat) : Int)) ?_
 refine Wl_nil ?_
 refine W_ret ?_
 refine ret_end (v := .int .i64 ((t : Nat) : Int)) rfl (res1 results104 rfl) ?_
 exact ⟨_, rfl, rfl, HU⟩
theorem vstep {ba bg bn bv bb rb B0 n c at_ got m : Nat} {a : Option Addr} {b : List Int} {x : Value} (w : World) (hA : Blk w ba [.int .i64 ((at_ : Nat) : Int)]) (hG : Blk w bg [.int .i64 ((got : Nat) : Int)]) (hN : Blk w bn [.int .i64 ((m : Nat) : Int)]) (hV : Blk w bv [.int .u64 ((wn b / 2 ^ at_ % 2 ^ got : Nat) : Int)]) (hBB : Blk w bb [.pointer (some ⟨rb, 0, none⟩)]) (hRB : Blk w rb [.slice a n c, .int .i64 0, x]) (hs : Sl w (fun g => g < B0) 1 (.slice a n c) n (ints .u8 b)) (hb : Byt b) (hne : bv ≠ ba ∧ bv ≠ bg ∧ bv ≠ bn ∧ bv ≠ bb ∧ bv ≠ rb ∧ bg ≠ ba ∧ bg ≠ bn ∧ bg ≠ bb ∧ bg ≠ rb ∧ B0 ≤ bv ∧ B0 ≤ bg) (hbd : n ≤ 100000 ∧ got < m ∧ m ≤ 64 ∧ at_ + m ≤ 8 * n) :
  Calls Tryz.prog 153 #[.pointer (some ⟨ba, 0, none⟩), .pointer (some ⟨bg, 0, none⟩), .pointer (some ⟨bn, 0, none⟩), .pointer (some ⟨bv, 0, none⟩), .pointer (some ⟨bb, 0, none⟩)] w (Ret fun v w' => v = .tuple #[] ∧ Blk w' bg [.int .i64 ((got + min (8 - (at_ + got) % 8) (m - got) : Nat) : Int)] ∧ Blk w' bv [.int .u64 ((wn b / 2 ^ at_ % 2 ^ (got + min (8 - (at_ + got) % 8) (m - got)) : Nat) : Int)] ∧ Upd (fun g => g = bg ∨ g = bv) w w') := by
 have HU : Upd (fun b => b = bg ∨ b = bv) w w := Upd.refl _ _
 have hbl_hA := hA.lt
 have hbl_hG := hG.lt
 have hbl_hN := hN.lt
 have hbl_hV := hV.lt
 have hbl_hBB := hBB.lt
 have hbl_hRB := hRB.lt
 have hl_hs := ilen hs
 have hc_hs := hs.cap.1
 replace hs := hs.tight
 have hbyg := byt_get hb ((((at_ : Nat) : Int) + ((got : Nat) : Int)) / 8).toNat
 refine calls_of_W func153 rfl ntmps153 (by simp) ?_
 refine W_seq (W_region ?_)
 refine Wl_load (v := .int .i64 ((at_ : Nat) : Int)) isAgg3 rfl hA rfl ?_
 refine Wl_load (v := .int .i64 ((got : Nat) : Int)) isAgg3 rfl hG rfl ?_
 refine Wl_v (r_add rfl rfl (wi64 (by omega) (by omega))) ?_
 refine Wl_v (r_rem rfl rfl (by omega) (tr (by omega))) ?_
 refine Was (.int .i64 ((((at_ : Nat) : Int) + ((got : Nat) : Int)) % 8)) ?_
 rw [show ((((at_ : Nat) : Int) + ((got : Nat) : Int)) % 8 : Int) = (((at_ + got) % 8 : Nat) : Int) from by omega]
 refine Wl_nil (W_seq (W_region ?_))
 refine Wmv (.int .i64 (((at_ + got) % 8 : Nat) : Int)) ?_
 refine Wl_v (r_sub rfl rfl (wi64 (by omega) (by omega))) ?_
 refine Wl_load (v := .int .i64 ((m : Nat) : Int)) isAgg3 rfl hN rfl ?_
 refine Wl_load (v := .int .i64 ((got : Nat) : Int)) isAgg3 rfl hG rfl ?_
 refine Wl_v (r_sub rfl rfl (wi64 (by omega) (by omega))) ?_
 refine Wl_v (r_min rfl rfl) ?_
 refine Was (.int .i64 (min (8 - (((at_ + got) % 8 : Nat) : Int)) (((m : Nat) : Int) - ((got : Nat) : Int)))) ?_
 obtain ⟨kk, hkk, hk1, hk2, hk3⟩ : ∃ kk : Nat, min (8 - (((at_ + got) % 8 : Nat) : Int)) (((m : Nat) : Int) - ((got : Nat) : Int)) = ((kk : Nat) : Int) ∧ kk = min (8 - (at_ + got) % 8) (m - got) ∧ 1 ≤ kk ∧ kk ≤ 8 := ⟨min (8 - (at_ + got) % 8) (m - got), by omega, rfl, by omega, by omega⟩
 have hpk := pw_bd8 hk3
 have hby := Nat.mod_lt (wn b / 256 ^ ((at_ + got) / 8)) (show 0 < 256 by decide)
 have hbs := Nat.div_le_self (wn b / 256 ^ ((at_ + got) / 8) % 256) (2 ^ ((at_ + got) % 8))
 rw [show (min (8 - (((at_ + got) % 8 : Nat) : Int)) (((m : Nat) : Int) - ((got : Nat) : Int)) : Int) = ((kk : Nat) : Int) from hkk]
 refine Wl_nil (W_seq ?_)
 refine W_drawt rfl (l0 := tf 0 22) (by kernel_rfl) ?_
 refine Tk 0 (tf 1 22) rfl (YI_v (v := .int .u64 ((wn b / 2 ^ at_ % 2 ^ got : Nat) : Int)) rfl (fun w' hw' => r_load isAgg76 rfl (by rw [(hV.upd0 hw').cell]; rfl))) ?_
 refine Tk 1 (tf 2 22) rfl (YI_v (v := .pointer (some ⟨rb, 0, none⟩)) rfl (fun w' hw' => r_load isAgg186 rfl (by rw [(hBB.upd0 hw').cell]; rfl))) ?_
 refine Tk 2 (tf 3 22) rfl (YI_v (v := .pointer (some ⟨rb, 0, none⟩)) rfl (fun w' hw' => r_nil rfl)) ?_
 refine Tk 3 (tf 4 22) rfl (YI_v (v := .pointer (some ⟨rb, 0, none⟩)) rfl (fun w' hw' => r_fld underlying167 rfl sizeOf32 rfl rfl)) ?_
 refine Tk 4 (tf 5 22) rfl (YI_v (v := .slice a n c) rfl (fun w' hw' => r_load isAgg32 rfl (by rw [(hRB.upd0 hw').cell]; rfl))) ?_
 refine Tk 5 (tf 6 22) rfl (YI_v (v := .int .i64 ((at_ : Nat) : Int)) rfl (fun w' hw' => r_load isAgg3 rfl (by rw [(hA.upd0 hw').cell]; rfl))) ?_
 refine Tk 6 (tf 7 22) rfl (YI_v (v := .int .i64 ((got : Nat) : Int)) rfl (fun w' hw' => r_load isAgg3 rfl (by rw [(hG.upd0 hw').cell]; rfl))) ?_
 refine Tk 7 (tf 8 22) rfl (YI_v (v := .int .i64 (((at_ : Nat) : Int) + ((got : Nat) : Int))) rfl (fun w' hw' => r_add rfl rfl (wi64 (by omega) (by omega)))) ?_
 refine Tk 8 (tf 9 22) rfl (YI_v (v := .int .i64 ((((at_ : Nat) : Int) + ((got : Nat) : Int)) / 8)) rfl (fun w' hw' => r_quo rfl rfl (by omega) (tq (by omega) (wi64 (by omega) (by omega))))) ?_
 obtain ⟨ib1, io1, ha1, hib1, hc1⟩ := (hs).iat (i := ((((at_ : Nat) : Int) + ((got : Nat) : Int)) / 8).toNat) (by omega)
 replace hib1 : ((ib1 < B0) ∧ ib1 < w.heap.size) := hib1
 refine Tk 9 (tf 10 22) rfl (YI_v (v := .pointer (some ⟨ib1, io1 + ((((at_ : Nat) : Int) + ((got : Nat) : Int)) / 8).toNat, none⟩)) rfl (fun w' hw' => r_idx (b := ib1) (off := io1) (m := n) (c := c) (o' := io1 + ((((at_ : Nat) : Int) + ((got : Nat) : Int)) / 8).toNat) underlying32 sizeOf5 (by rw [← ha1]; rfl) rfl (by omega) (by omega) (by omega))) ?_
 refine Tk 10 (tf 11 22) rfl (YI_v (v := .int .u8 (b.getD ((((at_ : Nat) : Int) + ((got : Nat) : Int)) / 8).toNat 0)) rfl (fun w' hw' => r_load isAgg5 rfl (hw'.cellk hc1))) ?_
 refine Tk 11 (tf 12 22) rfl (YI_v (v := .int .u64 (b.getD ((((at_ : Nat) : Int) + ((got : Nat) : Int)) / 8).toNat 0)) rfl (fun w' hw' => r_cvt underlying5 underlying76 rfl (wu64 (by omega) (by omega)))) ?_
 refine Tk 12 (tf 13 22) rfl (YI_v (v := .int .i64 (((at_ + got) % 8 : Nat) : Int)) rfl (fun w' hw' => r_mv (v := .int .i64 (((at_ + got) % 8 : Nat) : Int)) rfl)) ?_
 refine Tk 13 (tf 14 22) rfl (YI_v (v := .int .u64 ((wn b / 256 ^ ((at_ + got) / 8) % 256 / 2 ^ ((at_ + got) % 8) : Nat) : Int)) rfl (fun w' hw' => r_shr rfl rfl (by omega) (by rw [show (((at_ : Nat) : Int) + ((got : Nat) : Int)) / 8 = (((at_ + got) / 8 : Nat) : Int) from by omega, Int.toNat_natCast, wn_get hb (by omega)]; exact shr_n (by omega) (by omega)))) ?_
 refine Tk 14 (tf 15 22) rfl (YI_v (v := .int .i64 ((kk : Nat) : Int)) rfl (fun w' hw' => r_mv (v := .int .i64 ((kk : Nat) : Int)) rfl)) ?_
 refine Tk 15 (tf 16 22) rfl (YI_v (v := .int .u64 ((2 ^ kk : Nat) : Int)) rfl (fun w' hw' => r_shl rfl rfl (by omega) (shl_one (by omega) (by omega)))) ?_
 refine Tk 16 (tf 17 22) rfl (YI_v (v := .int .u64 (((2 ^ kk : Nat) : Int) - 1)) rfl (fun w' hw' => r_sub rfl rfl (wu64 (by omega) (by omega)))) ?_
 refine Tk 17 (tf 18 22) rfl (YI_v (v := .int .u64 ((wn b / 2 ^ (at_ + got) % 2 ^ kk : Nat) : Int)) rfl (fun w' hw' => r_and rfl rfl ((and_mask (by omega) (by omega)).trans (by rw [byte_bits (by omega)])))) ?_
 refine Tk 18 (tf 19 22) rfl (YI_v (v := .int .i64 ((got : Nat) : Int)) rfl (fun w' hw' => r_load isAgg3 rfl (by rw [(hG.upd0 hw').cell]; rfl))) ?_
 refine Tk 19 (tf 20 22) rfl (YI_v (v := .int .u64 ((wn b / 2 ^ (at_ + got) % 2 ^ kk * 2 ^ got : Nat) : Int)) rfl (fun w' hw' => r_shl rfl rfl (by omega) (shl_n (by omega) (by omega) (mul_lt64 (by omega) (md_lt _ _))))) ?_
 refine Tk 20 (tf 21 22) rfl (YI_v (v := .int .u64 ((wn b / 2 ^ at_ % 2 ^ (got + kk) : Nat) : Int)) rfl (fun w' hw' => r_or rfl rfl ((or_add (md_lt _ _) (by rw [bits_join]; exact lt64 (by omega) (md_lt _ _))).trans (by rw [bits_join])))) ?_
 intro w2 hU2
 have hzw2 := hU2.size
 replace hG := hG.upd0 hU2
 replace hV := hV.upd0 hU2
 replace HU := HU.trans0 hU2
 replace hc1 := cell_upd0 hU2 hc1
 refine Wa_one (i := 21) (listed' := tf 22 22) (by kernel_rfl) rfl (by kernel_rfl) ?_
 refine Ws_of_Wl ?_
 have hW : Upd No w w2 := hU2
 refine Wl_store (v := .int .u64 ((wn b / 2 ^ at_ % 2 ^ (got + kk) : Nat) : Int)) (cs' := [.int .u64 ((wn b / 2 ^ at_ % 2 ^ (got + kk) : Nat) : Int)]) sizeOf76 rfl rfl rfl rfl hV rfl rfl ?_
 intro w3 hU3 hzz3 hVn
 replace hV := hVn; clear hVn
 have hzw3 := hU3.size
 replace hG := hG.upd1 hU3 (by omega)
 replace HU := HU.trans1 hU3 (by show (bv = bg ∨ bv = bv) ∨ w.heap.size ≤ bv; omega)
 replace hc1 := cell_upd1 hU3 hc1 (by show ib1 ≠ bv; omega)
 refine Wl_nil ?_
 intro w4 hS4
 refine ⟨fun h => absurd h (by rw [show barOp _ 21 = true from by kernel_rfl]; simp), fun _ => ⟨Upd No w4, ?_⟩⟩
 have hU4 := hS4.upd
 have hzw4 := hU4.size
 replace hG := hG.upd0 hU4
 replace hV := hV.upd0 hU4
 replace HU := HU.trans0 hU4
 replace hc1 := cell_upd0 hU4 hc1
 try replace hW := hW.trans0 hU4
 refine Wa_done (by kernel_rfl) ?_
 refine W_region ?_
 refine Wl_load (v := .int .i64 ((got : Nat) : Int)) isAgg3 rfl hG rfl ?_
 refine Wmv (.int .i64 ((kk : Nat) : Int)) ?_
 refine Wl_v (r_add rfl rfl (wi64 (by omega) (by omega))) ?_
 refine Wl_store (v := .int .i64 (((got : Nat) : Int) + ((kk : Nat) : Int))) (cs' := [.int .i64 (((got : Nat) : Int) + ((kk : Nat) : Int))]) sizeOf3 rfl rfl rfl rfl hG rfl rfl ?_
 intro w5 hU5 hzz5 hGn
 replace hG := hGn; clear hGn
 have hzw5 := hU5.size
 replace hV := hV.upd1 hU5 (by omega)
 replace HU := HU.trans1 hU5 (by show (bg = bg ∨ bg = bv) ∨ w.heap.size ≤ bg; omega)
 replace hc1 := cell_upd1 hU5 hc1 (by show ib1 ≠ bg; omega)
 refine Wl_nil ?_
 refine nrm_end (v := .tuple #[]) rfl (res0 results153) ?_
 exact ⟨_, rfl, rfl, (blkI hG (by omega)), (by rw [← hk1]; exact hV), HU⟩
theorem value_spec {rb n c at_ m : Nat} {a : Option Addr} {b : List Int} {x : Value} {R : Nat → Prop} (w : World) (hRB : Blk w rb [.slice a n c, .int .i64 0, x]) (hs : Sl w R 1 (.slice a n c) n (ints .u8 b)) (hb : Byt b) (hbd : n ≤ 100000 ∧ m ≤ 64 ∧ at_ + m ≤ 8 * n) :
  Calls Tryz.prog 143 #[.pointer (some ⟨rb, 0, none⟩), .int .i64 ((at_ : Nat) : Int), .int .i64 ((m : Nat) : Int)] w (Ret fun v w' => v = .int .u64 ((wn b / 2 ^ at_ % 2 ^ m : Nat) : Int) ∧ Upd No w w') := by
 have HU := Upd.rno w
 have hbl_hRB := hRB.lt
 have hl_hs := ilen hs
 have hc_hs := hs.cap.1
 replace hs := hs.tight
 refine calls_of_W func143 rfl ntmps143 (by simp) ?_
 refine W_seq (W_region ?_)
 refine Wl_box (v := .pointer (some ⟨rb, 0, none⟩)) (cs := [.pointer (some ⟨rb, 0, none⟩)]) rfl rfl ?_
 intro B1 w1 hB1 hU1 hzz1 hb1
 have hzw1 := hU1.size
 replace hRB := hRB.upd0 hU1
 replace hs := hs.upd0 hU1
 replace HU := HU.trans0 hU1
 refine Wl_box (v := .int .i64 ((at_ : Nat) : Int)) (cs := [.int .i64 ((at_ : Nat) : Int)]) rfl rfl ?_
 intro B2 w2 hB2 hU2 hzz2 hb2
 have hzw2 := hU2.size
 replace hRB := hRB.upd0 hU2
 replace hs := hs.upd0 hU2
 replace HU := HU.trans0 hU2
 replace hb1 := hb1.upd0 hU2
 refine Wl_box (v := .int .i64 ((m : Nat) : Int)) (cs := [.int .i64 ((m : Nat) : Int)]) rfl rfl ?_
 intro B3 w3 hB3 hU3 hzz3 hb3
 have hzw3 := hU3.size
 replace hRB := hRB.upd0 hU3
 replace hs := hs.upd0 hU3
 replace HU := HU.trans0 hU3
 replace hb1 := hb1.upd0 hU3
 replace hb2 := hb2.upd0 hU3
 refine Wl_alloc (cs := [.int .u64 0]) zeroValue76 rfl ?_
 intro B4 w4 hB4 hU4 hzz4 hb4
 have hzw4 := hU4.size
 replace hRB := hRB.upd0 hU4
 replace hs := hs.upd0 hU4
 replace HU := HU.trans0 hU4
 replace hb1 := hb1.upd0 hU4
 replace hb2 := hb2.upd0 hU4
 replace hb3 := hb3.upd0 hU4
 refine Wl_nil (W_seq (W_region ?_))
 refine Wl_alloc (cs := [.int .i64 0]) zeroValue3 rfl ?_
 intro B5 w5 hB5 hU5 hzz5 hb5
 have hzw5 := hU5.size
 replace hRB := hRB.upd0 hU5
 replace hs := hs.upd0 hU5
 replace HU := HU.trans0 hU5
 replace hb1 := hb1.upd0 hU5
 replace hb2 := hb2.upd0 hU5
 replace hb3 := hb3.upd0 hU5
 replace hb4 := hb4.upd0 hU5
 refine Wl_store (v := .int .i64 0) (cs' := [.int .i64 0]) sizeOf3 rfl rfl rfl rfl hb5 rfl rfl ?_
 intro w6 hU6 hzz6 hb5n
 replace hb5 := hb5n; clear hb5n
 have hzw6 := hU6.size
 replace hRB := hRB.upd1 hU6 (by omega)
 replace hs := hs.upd1 hU6 (show ¬ (((R B5) ∧ B5 < w.heap.size)) by omega)
 replace HU := HU.t1 hU6 (by omega)
 replace hb1 := hb1.upd1 hU6 (by omega)
 replace hb2 := hb2.upd1 hU6 (by omega)
 replace hb3 := hb3.upd1 hU6 (by omega)
 replace hb4 := hb4.upd1 hU6 (by omega)
 refine Wl_nil (W_seq (W_region ?_))
 refine Wl_v (r_mkf5 (v0 := .pointer (some ⟨B2, 0, none⟩)) (v1 := .pointer (some ⟨B5, 0, none⟩)) (v2 := .pointer (some ⟨B3, 0, none⟩)) (v3 := .pointer (some ⟨B4, 0, none⟩)) (v4 := .pointer (some ⟨B1, 0, none⟩)) rfl rfl rfl rfl rfl) ?_
 refine Was (.func (.func 153) #[] #[.pointer (some ⟨B2, 0, none⟩), .pointer (some ⟨B5, 0, none⟩), .pointer (some ⟨B3, 0, none⟩), .pointer (some ⟨B4, 0, none⟩), .pointer (some ⟨B1, 0, none⟩)]) ?_
 refine Wl_nil (W_seq (W_block ?_))
 refine W_loop (fun mu ρ ds w' => ∃ (got : Nat), m - got = mu ∧ ds = [] ∧ Liv ρ [(5, .pointer (some ⟨B3, 0, none⟩)), (6, .pointer (some ⟨B4, 0, none⟩)), (7, .pointer (some ⟨B5, 0, none⟩)), (8, .func (.func 153) #[] #[.pointer (some ⟨B2, 0, none⟩), .pointer (some ⟨B5, 0, none⟩), .pointer (some ⟨B3, 0, none⟩), .pointer (some ⟨B4, 0, none⟩), .pointer (some ⟨B1, 0, none⟩)])] ∧ got ≤ m ∧ Blk w' B5 [.int .i64 ((got : Nat) : Int)] ∧ Blk w' B4 [.int .u64 ((wn b / 2 ^ at_ % 2 ^ got : Nat) : Int)] ∧ Upd (fun g => g = B5 ∨ g = B4) w6 w') _ ⟨0, rfl, rfl, ⟨rfl, rfl, rfl, rfl, trivial⟩, (by omega), hb5, (blkI hb4 (by simp [Nat.mod_one])), Upd.refl _ _⟩ ?_
 rintro m7 ρ7 ds7 w7 ⟨got, rfl, rfl, hl7, hgot, hb5, hb4, hU7⟩
 obtain ⟨ρ7x, rfl⟩ : ∃ ρx, ρ7 = upds ρx [(5, .pointer (some ⟨B3, 0, none⟩)), (6, .pointer (some ⟨B4, 0, none⟩)), (7, .pointer (some ⟨B5, 0, none⟩)), (8, .func (.func 153) #[] #[.pointer (some ⟨B2, 0, none⟩), .pointer (some ⟨B5, 0, none⟩), .pointer (some ⟨B3, 0, none⟩), .pointer (some ⟨B4, 0, none⟩), .pointer (some ⟨B1, 0, none⟩)])] := ⟨_, upds_self hl7⟩
 clear hl7
 have hzw7 := hU7.size
 replace hRB := hRB.upd hU7 (by intro hx; have hx2 : rb = B5 ∨ rb = B4 := hx; omega)
 replace hs := hs.upd hU7 (by intro x h1 h2; have h3 : ((R x) ∧ x < w.heap.size) := h1; have h4 : x = B5 ∨ x = B4 := h2; omega)
 replace HU := HU.trans hU7 (by intro x hx; have hx2 : x = B5 ∨ x = B4 := hx; show (False) ∨ w.heap.size ≤ x; omega)
 replace hb1 := hb1.upd hU7 (by intro hx; have hx2 : B1 = B5 ∨ B1 = B4 := hx; omega)
 replace hb2 := hb2.upd hU7 (by intro hx; have hx2 : B2 = B5 ∨ B2 = B4 := hx; omega)
 replace hb3 := hb3.upd hU7 (by intro hx; have hx2 : B3 = B5 ∨ B3 = B4 := hx; omega)
 have HL7 := hU7
 refine W_seq (W_seq (W_region ?_))
 refine Wl_load (v := .int .i64 ((got : Nat) : Int)) isAgg3 rfl hb5 rfl ?_
 refine Wl_load (v := .int .i64 ((m : Nat) : Int)) isAgg3 rfl hb3 rfl ?_
 refine Wl_v (r_lt rfl rfl) ?_
 refine Wl_nil ?_
 by_cases q1 : ((got : Nat) : Int) < ((m : Nat) : Int)
 ·rw [decide_eq_true q1]
  refine W_cond_t rfl ?_
  refine W_skip (W_block (W_region ?_))
  refine Wmv (.func (.func 153) #[] #[.pointer (some ⟨B2, 0, none⟩), .pointer (some ⟨B5, 0, none⟩), .pointer (some ⟨B3, 0, none⟩), .pointer (some ⟨B4, 0, none⟩), .pointer (some ⟨B1, 0, none⟩)]) ?_
  refine Wl_call (r_clos0 call153 rfl  (by first | (simp; done) | (simp; rfl))) (vstep (b := b) (B0 := w.heap.size) _ hb2 hb5 hb3 hb4 hb1 hRB ((hs.weak (by intro g hg; have h3 : ((R g) ∧ g < w.heap.size) := hg; show g < w.heap.size; omega))) hb (by omega) (by omega)) ?_
  rintro v w8 ⟨rfl, hG28, hV28, hU8⟩
  have hzw8 := hU8.size
  replace HL7 := HL7.trans hU8 (by intro x hx; have hx2 : x = B5 ∨ x = B4 := hx; show (x = B5 ∨ x = B4) ∨ w6.heap.size ≤ x; omega)
  have hbl_hG28 := hG28.lt
  have hbl_hV28 := hV28.lt
  refine Wl_nil ?_
  refine ⟨_, ?_, (got + min (8 - (at_ + got) % 8) (m - got)), rfl, rfl, ⟨rfl, rfl, rfl, rfl, trivial⟩, (by omega), hG28, hV28, HL7⟩
  omega
 have hgm : got = m := by omega
 rw [decide_eq_false q1]
 refine W_cond_f rfl ?_
 refine W_exit ?_
 refine W_seq (W_region ?_)
 refine Wl_load (v := .int .u64 ((wn b / 2 ^ at_ % 2 ^ got : Nat) : Int)) isAgg76 rfl hb4 rfl ?_
 refine Wl_store (v := .int .u64 ((wn b / 2 ^ at_ % 2 ^ got : Nat) : Int)) (cs' := [.int .u64 ((wn b / 2 ^ at_ % 2 ^ got : Nat) : Int)]) sizeOf76 rfl rfl rfl rfl hb4 rfl rfl ?_
 intro w9 hU9 hzz9 hb4n
 replace hb4 := hb4n; clear hb4n
 have hzw9 := hU9.size
 replace HU := HU.t1 hU9 (by omega)
 refine Wl_nil ?_
 refine W_ret ?_
 refine ret_end (v := .int .u64 ((wn b / 2 ^ at_ % 2 ^ got : Nat) : Int)) rfl (rc1 results143 rfl (cellIs isAgg76 hb4)) ?_
 exact ⟨_, rfl, (by rw [hgm]), HU⟩
theorem peek_spec {rb n c t m : Nat} {a : Option Addr} {b : List Int} {R : Nat → Prop} (w : World) (hB : Blk w rb [.slice a n c, .int .i64 0, .int .i64 ((t : Nat) : Int)]) (hs : Sl w R 1 (.slice a n c) n (ints .u8 b)) (hb : Byt b) (hbd : n ≤ 100000 ∧ m ≤ 64 ∧ m ≤ t ∧ t ≤ 8 * n) :
  Calls Tryz.prog 130 #[.pointer (some ⟨rb, 0, none⟩), .int .i64 ((m : Nat) : Int)] w (Ret fun v w' => v = .int .u64 ((wd (wn b) t m : Nat) : Int) ∧ Upd No w w') := by
 have HU := Upd.rno w
 have hbl_hB := hB.lt
 have hl_hs := ilen hs
 have hc_hs := hs.cap.1
 replace hs := hs.tight
 refine calls_of_W func130 rfl ntmps130 (by simp) ?_
 refine W_seq (W_region ?_)
 refine Was (.int .u64 0) ?_
 refine Wl_nil (W_seq (W_seq (W_region ?_)))
 refine Wmv (.pointer (some ⟨rb, 0, none⟩)) ?_
 refine Wl_v (r_eqpn_s underlying146 rfl rfl) ?_
 refine Wl_nil ?_
 refine W_cond_f rfl ?_
 refine W_skip (W_seq (W_region ?_))
 refine Wmv (.int .i64 ((m : Nat) : Int)) ?_
 refine Wl_v (r_max rfl rfl) ?_
 refine Wl_v (r_min rfl rfl) ?_
 refine Was (.int .i64 (min (max ((m : Nat) : Int) 0) 64)) ?_
 rw [show (min (max ((m : Nat) : Int) 0) 64 : Int) = ((m : Nat) : Int) from by omega]
 refine Wl_nil (W_seq (W_region ?_))
 refine Wmv (.int .i64 ((m : Nat) : Int)) ?_
 refine Wmv (.pointer (some ⟨rb, 0, none⟩)) ?_
 refine Wl_v (r_nil rfl) ?_
 refine Wl_v (r_fld underlying169 rfl sizeOf167 rfl rfl) ?_
 refine Wl_call (r_call1 rfl call119 rfl) (left_spec _ hB (by omega)) ?_
 rintro v w1 ⟨rfl, hU1⟩
 have hzw1 := hU1.size
 replace hB := hB.upd0 hU1
 replace hs := hs.upd0 hU1
 replace HU := HU.trans0 hU1
 refine Wl_v (r_min rfl rfl) ?_
 refine Was (.int .i64 (min ((m : Nat) : Int) ((t : Nat) : Int))) ?_
 rw [show (min ((m : Nat) : Int) ((t : Nat) : Int) : Int) = ((m : Nat) : Int) from by omega]
 refine Wl_nil (W_seq ?_)
 refine W_drawt rfl (l0 := tf 0 17) (by kernel_rfl) ?_
 refine Tk 0 (tf 1 17) rfl (YI_v (v := .pointer (some ⟨rb, 0, none⟩)) rfl (fun w' hw' => r_mv (v := .pointer (some ⟨rb, 0, none⟩)) rfl)) ?_
 refine Tk 1 (tf 2 17) rfl (YI_v (v := .pointer (some ⟨rb, 0, none⟩)) rfl (fun w' hw' => r_nil rfl)) ?_
 refine Tk 2 (tf 3 17) rfl (YI_v (v := .pointer (some ⟨rb, 0, none⟩)) rfl (fun w' hw' => r_fld underlying169 rfl sizeOf167 rfl rfl)) ?_
 refine Tk 3 (tf 4 17) rfl (YI_v (v := .pointer (some ⟨rb, 0, none⟩)) rfl (fun w' hw' => r_mv (v := .pointer (some ⟨rb, 0, none⟩)) rfl)) ?_
 refine Tk 4 (tf 5 17) rfl (YI_v (v := .pointer (some ⟨rb, 0, none⟩)) rfl (fun w' hw' => r_nil rfl)) ?_
 refine Tk 5 (tf 6 17) rfl (YI_v (v := .pointer (some ⟨rb, 0, none⟩)) rfl (fun w' hw' => r_fld underlying169 rfl sizeOf167 rfl rfl)) ?_
 refine Tk 6 (tf 7 17) rfl (YI_v (v := .pointer (some ⟨rb, 2, none⟩)) rfl (fun w' hw' => r_fld underlying167 rfl sizeOf3 rfl rfl)) ?_
 refine Tk 7 (tf 8 17) rfl (YI_v (v := .int .i64 ((t : Nat) : Int)) rfl (fun w' hw' => r_load isAgg3 rfl (by rw [(hB.upd0 hw').cell]; rfl))) ?_
 refine Tk 8 (tf 9 17) rfl (YI_v (v := .int .i64 ((m : Nat) : Int)) rfl (fun w' hw' => r_mv (v := .int .i64 ((m : Nat) : Int)) rfl)) ?_
 refine Tk 9 (tf 10 17) rfl (YI_v (v := .int .i64 (((t : Nat) : Int) - ((m : Nat) : Int))) rfl (fun w' hw' => r_sub rfl rfl (wi64 (by omega) (by omega)))) ?_
 rw [show (((t : Nat) : Int) - ((m : Nat) : Int) : Int) = ((t - m : Nat) : Int) from by omega]
 refine Tk 10 (tf 11 17) rfl (YI_v (v := .int .i64 ((m : Nat) : Int)) rfl (fun w' hw' => r_mv (v := .int .i64 ((m : Nat) : Int)) rfl)) ?_
 refine Tk 11 (tf 12 17) rfl (YI_c (v := .int .u64 ((wn b / 2 ^ (t - m) % 2 ^ m : Nat) : Int)) rfl (fun w' => r_call3 rfl call143 rfl rfl rfl) (fun w' hw' => value_spec w' (hB.upd0 hw') ((hs.upd0 hw')) hb (by omega))) ?_
 refine Tk 12 (tf 13 17) rfl (YI_v (v := .int .i64 ((m : Nat) : Int)) rfl (fun w' hw' => r_mv (v := .int .i64 ((m : Nat) : Int)) rfl)) ?_
 refine Tk 13 (tf 14 17) rfl (YI_v (v := .int .i64 ((m : Nat) : Int)) rfl (fun w' hw' => r_mv (v := .int .i64 ((m : Nat) : Int)) rfl)) ?_
 refine Tk 14 (tf 15 17) rfl (YI_v (v := .int .i64 (((m : Nat) : Int) - ((m : Nat) : Int))) rfl (fun w' hw' => r_sub rfl rfl (wi64 (by omega) (by omega)))) ?_
 refine Tk 15 (tf 16 17) rfl (YI_v (v := .int .u64 ((wn b / 2 ^ (t - m) % 2 ^ m : Nat) : Int)) rfl (fun w' hw' => r_shl rfl rfl (by omega) (by rw [show min (((m : Nat) : Int) - ((m : Nat) : Int)).toNat IntKind.u64.bits = 0 from by show min _ 64 = _; omega, Int.pow_zero, Int.mul_one]; exact wu64 (by omega) (by have := lt64 (by omega) (md_lt (wn b / 2 ^ (t - m)) m); omega)))) ?_
 refine Tk 16 (tf 17 17) rfl (YI_v (v := .int .u64 ((wn b / 2 ^ (t - m) % 2 ^ m : Nat) : Int)) rfl (fun w' hw' => r_as (v := .int .u64 ((wn b / 2 ^ (t - m) % 2 ^ m : Nat) : Int)) rfl)) ?_
 intro w2 hU2
 have hzw2 := hU2.size
 replace HU := HU.trans0 hU2
 refine Wa_done (by kernel_rfl) ?_
 refine W_ret ?_
 refine ret_end (v := .int .u64 ((wn b / 2 ^ (t - m) % 2 ^ m : Nat) : Int)) rfl (res1 results130 rfl) ?_
 exact ⟨_, rfl, rfl, HU⟩
theorem may_ok {rb n c t : Nat} {a : Option Addr} {m : Int} (w : World) (hB : Blk w rb [.slice a n c, .int .i64 0, .int .i64 ((t : Nat) : Int)]) (hm : 0 ≤ m ∧ m ≤ 64 ∧ m ≤ t ∧ t ≤ 1000000) :
  Calls Tryz.prog 144 #[.pointer (some ⟨rb, 0, none⟩), .int .i64 m, .int .i64 14] w (Ret fun v w' => v = .int .i64 0 ∧ Upd No w w') := by
 have HU := Upd.rno w
 have hbl_hB := hB.lt
 refine calls_of_W func144 rfl ntmps144 (by simp) ?_
 refine W_seq (W_region ?_)
 refine Was (.int .i64 0) ?_
 refine Wl_nil (W_seq (W_block (W_seq (W_region ?_))))
 refine Wmv (.int .i64 m) ?_
 refine Wl_v (r_lt rfl rfl) ?_
 refine Wmv (.bool (decide (m < 0))) ?_
 have q1 : ¬ (m < 0) := (by omega)
 rw [decide_eq_false q1]
 refine Wl_guard_t rfl ?_
 refine Wmv (.int .i64 m) ?_
 refine Wl_guard_t rfl ?_
 refine Wl_v (r_gt rfl rfl) ?_
 refine Wl_v (r_pick_f (v := .bool (decide (64 < m))) rfl rfl) ?_
 refine Was (.bool (decide (64 < m))) ?_
 refine Wl_nil ?_
 have q2 : ¬ (64 < m) := (by omega)
 rw [decide_eq_false q2]
 refine W_cond_f rfl ?_
 refine W_seq (W_region ?_)
 refine Wmv (.int .i64 m) ?_
 refine Wmv (.pointer (some ⟨rb, 0, none⟩)) ?_
 refine Wl_call (r_call1 rfl call119 rfl) (left_spec _ hB (by omega)) ?_
 rintro v w1 ⟨rfl, hU1⟩
 have hzw1 := hU1.size
 replace HU := HU.trans0 hU1
 refine Wl_v (r_gt rfl rfl) ?_
 refine Was (.bool (decide (((t : Nat) : Int) < m))) ?_
 refine Wl_nil ?_
 have q3 : ¬ (((t : Nat) : Int) < m) := (by omega)
 rw [decide_eq_false q3]
 refine W_cond_f rfl ?_
 refine W_skip (W_seq (W_region ?_))
 refine Was (.int .i64 0) ?_
 refine Wl_nil ?_
 refine W_ret ?_
 refine ret_end (v := .int .i64 0) rfl (res1 results144 rfl) ?_
 exact ⟨_, rfl, rfl, HU⟩
theorem skip_ok {rb n c t : Nat} {a : Option Addr} {m : Int} (w : World) (hB : Blk w rb [.slice a n c, .int .i64 0, .int .i64 ((t : Nat) : Int)]) (hm : 0 ≤ m ∧ m ≤ 64 ∧ m ≤ t ∧ t ≤ 1000000) :
  Calls Tryz.prog 131 #[.pointer (some ⟨rb, 0, none⟩), .int .i64 m] w (Ret fun v w' => v = .int .i64 0 ∧ Blk w' rb [.slice a n c, .int .i64 0, .int .i64 ((t - m.toNat : Nat) : Int)] ∧ Upd (Is rb) w w') := by
 have HU : Upd (fun b => b = rb) w w := Upd.refl _ _
 have hbl_hB := hB.lt
 refine calls_of_W func131 rfl ntmps131 (by simp) ?_
 refine W_seq (W_region ?_)
 refine Was (.int .i64 0) ?_
 refine Wl_nil (W_seq (W_seq (W_region ?_)))
 refine Wmv (.pointer (some ⟨rb, 0, none⟩)) ?_
 refine Wl_v (r_eqpn_s underlying146 rfl rfl) ?_
 refine Wl_nil ?_
 refine W_cond_f rfl ?_
 refine W_skip (W_seq (W_seq (W_region ?_)))
 refine Wmv (.pointer (some ⟨rb, 0, none⟩)) ?_
 refine Wl_v (r_nil rfl) ?_
 refine Wl_v (r_fld underlying169 rfl sizeOf167 rfl rfl) ?_
 refine Wmv (.int .i64 m) ?_
 refine Wl_call (r_call3 rfl call144 rfl rfl rfl) (may_ok _ hB (by omega)) ?_
 rintro v w1 ⟨rfl, hU1⟩
 have hzw1 := hU1.size
 replace hB := hB.upd0 hU1
 replace HU := HU.trans0 hU1
 refine Was (.int .i64 0) ?_
 refine Wl_nil (W_seq (W_region ?_))
 refine Wmv (.int .i64 0) ?_
 refine Wl_v (v := .bool false) (r_ne (a := 0) (b := 0) rfl rfl) ?_
 refine Wl_nil ?_
 refine W_cond_f rfl ?_
 refine W_skip (W_seq (W_region ?_))
 refine Wmv (.pointer (some ⟨rb, 0, none⟩)) ?_
 refine Wl_v (r_nil rfl) ?_
 refine Wl_v (r_fld underlying169 rfl sizeOf167 rfl rfl) ?_
 refine Wl_v (r_fld underlying167 rfl sizeOf3 rfl rfl) ?_
 refine Wl_load (v := .int .i64 ((t : Nat) : Int)) isAgg3 rfl hB rfl ?_
 refine Wmv (.int .i64 m) ?_
 refine Wl_v (r_sub rfl rfl (wi64 (by omega) (by omega))) ?_
 refine Wl_v (r_nil rfl) ?_
 refine Wl_v (r_fld underlying169 rfl sizeOf167 rfl rfl) ?_
 refine Wl_v (r_fld underlying167 rfl sizeOf3 rfl rfl) ?_
 refine Wl_store (v := .int .i64 (((t : Nat) : Int) - m)) (cs' := [.slice a n c, .int .i64 0, .int .i64 (((t : Nat) : Int) - m)]) sizeOf3 rfl rfl rfl rfl hB rfl rfl ?_
 intro w2 hU2 hzz2 hBn
 replace hB := hBn; clear hBn
 have hzw2 := hU2.size
 replace HU := HU.trans1 hU2 (by show (rb = rb) ∨ w.heap.size ≤ rb; omega)
 refine Wl_nil (W_seq (W_region ?_))
 refine Was (.int .i64 0) ?_
 refine Wl_nil ?_
 refine W_ret ?_
 refine ret_end (v := .int .i64 0) rfl (res1 results131 rfl) ?_
 exact ⟨_, rfl, rfl, (blk3 hB (by omega)), HU⟩
theorem newb_ok {a : Option Addr} {n c : Nat} {b : List Int} (w : World) (hs : Sl w (fun g => g < w.heap.size) 1 (.slice a n c) n (ints .u8 b)) (hb : Byt b) (hn : n ≤ 100000) (hc : Cl b) :
  Calls Tryz.prog 128 #[.slice a n c] w (Ret fun v w' => ∃ (rb : Nat) (a' : Option Addr) (c' : Nat), v = .tuple #[.pointer (some ⟨rb, 0, none⟩), .int .i64 0] ∧ Blk w' rb [.slice a' n c', .int .i64 0, .int .i64 ((tbt b : Nat) : Int)] ∧ Own w' (fun g => w.heap.size ≤ g ∧ g ≠ rb) 5 1 (.slice a' n c') n (ints .u8 b) ∧ w.heap.size ≤ rb ∧ Upd No w w') := by
 have HU := Upd.rno w
 have hl_hs := ilen hs
 have hc_hs := hs.cap.1
 have hc1 := hc.1
 have hc2 : b.getD (n - 1) 0 ≠ 0 := by have := hc.2; rwa [show b.length = n from by omega] at this
 have hg1 := byt_get hb (n - 1)
 have hl8 := l8_bd (x := b.getD (n - 1) 0) (by omega) (by omega)
 have htb : tbt b = 8 * (n - 1) + (l8 (b.getD (n - 1) 0) - 1) := by unfold tbt; rw [show b.length = n from by omega]
 have hTN : b.getD (((n : Nat) : Int) - 1).toNat 0 = b.getD (n - 1) 0 := by rw [show (((n : Nat) : Int) - 1).toNat = n - 1 from by omega]
 have hl82 : l8 (b.getD (((n : Nat) : Int) - 1).toNat 0) = l8 (b.getD (n - 1) 0) := by rw [hTN]
 refine calls_of_W func128 rfl ntmps128 (by simp) ?_
 refine W_seq (W_region ?_)
 refine Was (.pointer none) ?_
 refine Was (.int .i64 0) ?_
 refine Wl_nil (W_seq (W_seq (W_region ?_)))
 refine Wmv (.slice a n c) ?_
 refine Wl_v (r_len underlying32 rfl) ?_
 refine Wl_v (r_eq rfl rfl) ?_
 refine Wmv (.bool (decide (((n : Nat) : Int) = 0))) ?_
 have q1 : ¬ (((n : Nat) : Int) = 0) := (by omega)
 rw [decide_eq_false q1]
 refine Wl_guard_t rfl ?_
 refine Wmv (.slice a n c) ?_
 refine Wl_guard_t rfl ?_
 refine Wmv (.slice a n c) ?_
 refine Wl_guard_t rfl ?_
 refine Wl_v (r_len underlying32 rfl) ?_
 refine Wl_guard_t rfl ?_
 refine Wl_v (r_sub rfl rfl (wi64 (by omega) (by omega))) ?_
 refine Wl_guard_t rfl ?_
 refine Wl_idxi underlying32 sizeOf5 rfl rfl hs (by omega) (by omega) ?_
 intro ib1 io1 hc1
 refine Wl_guard_t rfl ?_
 refine Wl_loadc isAgg5 rfl hc1 ?_
 refine Wl_guard_t rfl ?_
 refine Wl_v (r_eq rfl rfl) ?_
 refine Wl_v (r_pick_f (v := .bool (decide ((b.getD (((n : Nat) : Int) - 1).toNat 0) = 0))) rfl rfl) ?_
 refine Wl_nil ?_
 have q2 : ¬ ((b.getD (((n : Nat) : Int) - 1).toNat 0) = 0) := (by rw [show (((n : Nat) : Int) - 1).toNat = n - 1 from by omega]; omega)
 rw [decide_eq_false q2]
 refine W_cond_f rfl ?_
 refine W_skip (W_seq ?_)
 refine W_drawt rfl (l0 := tf 0 19) (by kernel_rfl) ?_
 refine Tk 0 (tf 1 19) rfl (YI_v (v := .slice a n c) rfl (fun w' hw' => r_mv (v := .slice a n c) rfl)) ?_
 refine Tk 2 (#[true, false, true, false, false, false, false, false, false, false, false, false, false, false, false, false, false, false, false]) rfl (YI_v (v := .slice a n c) rfl (fun w' hw' => r_mv (v := .slice a n c) rfl)) ?_
 refine Tk 3 (#[true, false, true, true, false, false, false, false, false, false, false, false, false, false, false, false, false, false, false]) rfl (YI_v (v := .int .i64 ((n : Nat) : Int)) rfl (fun w' hw' => r_len underlying32 rfl)) ?_
 refine Tk 4 (#[true, false, true, true, true, false, false, false, false, false, false, false, false, false, false, false, false, false, false]) rfl (YI_v (v := .int .i64 (8 * ((n : Nat) : Int))) rfl (fun w' hw' => r_mul rfl rfl (wi64 (by omega) (by omega)))) ?_
 refine Tk 5 (#[true, false, true, true, true, true, false, false, false, false, false, false, false, false, false, false, false, false, false]) rfl (YI_v (v := .int .i64 ((8 * ((n : Nat) : Int)) - 9)) rfl (fun w' hw' => r_sub rfl rfl (wi64 (by omega) (by omega)))) ?_
 refine Tk 6 (#[true, false, true, true, true, true, true, false, false, false, false, false, false, false, false, false, false, false, false]) rfl (YI_v (v := .slice a n c) rfl (fun w' hw' => r_mv (v := .slice a n c) rfl)) ?_
 refine Tk 7 (#[true, false, true, true, true, true, true, true, false, false, false, false, false, false, false, false, false, false, false]) rfl (YI_v (v := .slice a n c) rfl (fun w' hw' => r_mv (v := .slice a n c) rfl)) ?_
 refine Tk 8 (#[true, false, true, true, true, true, true, true, true, false, false, false, false, false, false, false, false, false, false]) rfl (YI_v (v := .int .i64 ((n : Nat) : Int)) rfl (fun w' hw' => r_len underlying32 rfl)) ?_
 refine Tk 9 (#[true, false, true, true, true, true, true, true, true, true, false, false, false, false, false, false, false, false, false]) rfl (YI_v (v := .int .i64 (((n : Nat) : Int) - 1)) rfl (fun w' hw' => r_sub rfl rfl (wi64 (by omega) (by omega)))) ?_
 obtain ⟨ib2, io2, ha2, hib2, hc2⟩ := (hs).iat (i := (((n : Nat) : Int) - 1).toNat) (by omega)
 replace hib2 : ib2 < w.heap.size := hib2
 refine Tk 10 (#[true, false, true, true, true, true, true, true, true, true, true, false, false, false, false, false, false, false, false]) rfl (YI_v (v := .pointer (some ⟨ib2, io2 + (((n : Nat) : Int) - 1).toNat, none⟩)) rfl (fun w' hw' => r_idx (b := ib2) (off := io2) (m := n) (c := c) (o' := io2 + (((n : Nat) : Int) - 1).toNat) underlying32 sizeOf5 (by rw [← ha2]; rfl) rfl (by omega) (by omega) (by omega))) ?_
 refine Tk 11 (#[true, false, true, true, true, true, true, true, true, true, true, true, false, false, false, false, false, false, false]) rfl (YI_v (v := .int .u8 (b.getD (((n : Nat) : Int) - 1).toNat 0)) rfl (fun w' hw' => r_load isAgg5 rfl (hw'.cellk hc2))) ?_
 intro w3 hU3
 have hzw3 := hU3.size
 replace hs := hs.upd0 hU3
 replace HU := HU.trans0 hU3
 replace hc2 := cell_upd0 hU3 hc2
 refine Wa_one (i := 1) (listed' := tf 12 19) (by kernel_rfl) rfl (by kernel_rfl) ?_
 refine Ws_of_Wl ?_
 have hW : Upd No w w3 := hU3
 refine Wl_call (r_call1 rfl call69 rfl) (bclone _ hs.any (by omega)) ?_
 rintro v w4 ⟨a4, c4, rfl, hO4, hU4⟩
 have hzw4 := hU4.size
 replace HU := HU.trans0 hU4
 replace hc2 := cell_upd0 hU4 hc2
 try replace hW := hW.trans0 hU4
 replace hO4 := hO4.tight
 have hl_hO4 := ilen hO4.sl
 have hc_hO4 := hO4.sl.cap.1
 refine Wl_nil ?_
 intro w5 hS5
 have hX : Upd No w w5 := hW.trans0 hS5.upd
 refine ⟨fun _ => ⟨hX, ?_⟩, fun h => absurd h (by rw [show barOp _ 1 = false from by kernel_rfl]; simp)⟩
 have hU5 := hS5.upd
 have hzw5 := hU5.size
 replace HU := HU.trans0 hU5
 replace hc2 := cell_upd0 hU5 hc2
 replace hO4 := hO4.upd0 hU5
 try replace hW := hW.trans0 hU5
 refine Wt_base hX ?_
 refine Tk 12 (tf 13 19) rfl (YI_c (v := .int .i64 ((l8 (b.getD (((n : Nat) : Int) - 1).toNat 0) : Nat) : Int)) rfl (fun w' => r_call1 rfl call141 rfl) (fun w' hw' => len8_spec w' (by omega))) ?_
 refine Tk 13 (tf 14 19) rfl (YI_v (v := .int .i64 (((8 * ((n : Nat) : Int)) - 9) + ((l8 (b.getD (((n : Nat) : Int) - 1).toNat 0) : Nat) : Int))) rfl (fun w' hw' => r_add rfl rfl (wi64 (by omega) (by omega)))) ?_
 refine Tk 14 (tf 15 19) rfl (YI_v (v := .agg #[.slice a4 n c4, .int .i64 0, .int .i64 (((8 * ((n : Nat) : Int)) - 9) + ((l8 (b.getD (((n : Nat) : Int) - 1).toNat 0) : Nat) : Int))]) rfl (fun w' hw' => r_build (pl := #[(0, 1), (1, 1), (2, 1)]) (pv := [(0, .slice a4 n c4), (1, .int .i64 0), (2, .int .i64 (((8 * ((n : Nat) : Int)) - 9) + ((l8 (b.getD (((n : Nat) : Int) - 1).toNat 0) : Nat) : Int)))]) (cs := #[.slice a4 n c4, .int .i64 0, .int .i64 (((8 * ((n : Nat) : Int)) - 9) + ((l8 (b.getD (((n : Nat) : Int) - 1).toNat 0) : Nat) : Int))]) zeroValue167 underlying167 (fun w => by kernel_rfl) (by simp only [List.map_toArray, List.map_cons, List.map_nil] <;> rfl) (by kernel_rfl))) ?_
 refine Tk 15 (tf 16 19) rfl (YI_v (v := .agg #[.slice a4 n c4, .int .i64 0, .int .i64 (((8 * ((n : Nat) : Int)) - 9) + ((l8 (b.getD (((n : Nat) : Int) - 1).toNat 0) : Nat) : Int))]) rfl (fun w' hw' => r_build (pl := #[(0, 3)]) (pv := [(0, .agg #[.slice a4 n c4, .int .i64 0, .int .i64 (((8 * ((n : Nat) : Int)) - 9) + ((l8 (b.getD (((n : Nat) : Int) - 1).toNat 0) : Nat) : Int))])]) (cs := #[.slice a4 n c4, .int .i64 0, .int .i64 (((8 * ((n : Nat) : Int)) - 9) + ((l8 (b.getD (((n : Nat) : Int) - 1).toNat 0) : Nat) : Int))]) zeroValue169 underlying169 (fun w => by kernel_rfl) (by simp only [List.map_toArray, List.map_cons, List.map_nil] <;> rfl) (by kernel_rfl))) ?_
 intro w6 hU6
 have hzw6 := hU6.size
 replace HU := HU.trans0 hU6
 replace hc2 := cell_upd0 hU6 hc2
 replace hO4 := hO4.upd0 hU6
 try replace hW := hW.trans0 hU6
 refine Wa_one (i := 16) (listed' := tf 17 19) (by kernel_rfl) rfl (by kernel_rfl) ?_
 refine Ws_of_Wl ?_
 have hW : Upd No w5 w6 := hU6
 refine Wl_box (v := .agg #[.slice a4 n c4, .int .i64 0, .int .i64 (((8 * ((n : Nat) : Int)) - 9) + ((l8 (b.getD (((n : Nat) : Int) - 1).toNat 0) : Nat) : Int))]) (cs := [.slice a4 n c4, .int .i64 0, .int .i64 (((8 * ((n : Nat) : Int)) - 9) + ((l8 (b.getD (((n : Nat) : Int) - 1).toNat 0) : Nat) : Int))]) rfl rfl ?_
 intro B7 w7 hB7 hU7 hzz7 hb7
 have hzw7 := hU7.size
 replace HU := HU.trans0 hU7
 replace hc2 := cell_upd0 hU7 hc2
 replace hO4 := hO4.upd0 hU7
 try replace hW := hW.trans0 hU7
 refine Wl_nil ?_
 intro w8 hS8
 refine ⟨fun h => absurd h (by rw [show barOp _ 16 = true from by kernel_rfl]; simp), fun _ => ⟨Upd No w8, ?_⟩⟩
 have hU8 := hS8.upd
 have hzw8 := hU8.size
 replace HU := HU.trans0 hU8
 replace hc2 := cell_upd0 hU8 hc2
 replace hO4 := hO4.upd0 hU8
 replace hb7 := hb7.upd0 hU8
 try replace hW := hW.trans0 hU8
 refine Wt_base (Upd.refl _ _) ?_
 refine Tk 17 (tf 18 19) rfl (YI_v (v := .pointer (some ⟨B7, 0, none⟩)) rfl (fun w' hw' => r_as (v := .pointer (some ⟨B7, 0, none⟩)) rfl)) ?_
 refine Tk 18 (tf 19 19) rfl (YI_v (v := .int .i64 0) rfl (fun w' hw' => r_as (v := .int .i64 0) rfl)) ?_
 intro w9 hU9
 have hzw9 := hU9.size
 replace HU := HU.trans0 hU9
 replace hc2 := cell_upd0 hU9 hc2
 replace hO4 := hO4.upd0 hU9
 replace hb7 := hb7.upd0 hU9
 try replace hW := hW.trans0 hU9
 refine Wa_done (by kernel_rfl) ?_
 refine W_ret ?_
 refine ret_end (v := .tuple #[.pointer (some ⟨B7, 0, none⟩), .int .i64 0]) rfl (res2 results128 rfl rfl) ?_
 exact ⟨_, rfl, B7, a4, c4, rfl, (blk3 hb7 (by omega)), (hO4.weak (by intro g hg; have h3 : ((w3.heap.size ≤ g) ∧ g < w4.heap.size) := hg; show w.heap.size ≤ g ∧ g ≠ B7; omega)), (by omega), HU⟩
theorem newb_no {a : Option Addr} {n c : Nat} {b : List Int} (w : World) (hs : Sl w (fun g => g < w.heap.size) 1 (.slice a n c) n (ints .u8 b)) (hb : Byt b) (hn : n ≤ 100000) (hc : ¬ Cl b) :
  Calls Tryz.prog 128 #[.slice a n c] w (Ret fun v w' => v = .tuple #[.pointer none, .int .i64 14] ∧ Upd No w w') := by
 have HU := Upd.rno w
 have hl_hs := ilen hs
 have hc_hs := hs.cap.1
 refine calls_of_W func128 rfl ntmps128 (by simp) ?_
 refine W_seq (W_region ?_)
 refine Was (.pointer none) ?_
 refine Was (.int .i64 0) ?_
 refine Wl_nil (W_seq (W_seq (W_region ?_)))
 refine Wmv (.slice a n c) ?_
 refine Wl_v (r_len underlying32 rfl) ?_
 refine Wl_v (r_eq rfl rfl) ?_
 refine Wmv (.bool (decide (((n : Nat) : Int) = 0))) ?_
 by_cases q1 : ((n : Nat) : Int) = 0
 ·rw [decide_eq_true q1]
  refine Wl_guard_f rfl (Wl_guard_f rfl (Wl_guard_f rfl (Wl_guard_f rfl (Wl_guard_f rfl (Wl_guard_f rfl (Wl_guard_f rfl ?_))))))
  refine Wl_v (r_pick_t (v := .bool true) rfl rfl) ?_
  refine Wl_nil ?_
  refine W_cond_t rfl ?_
  refine W_seq (W_region ?_)
  refine Was (.pointer none) ?_
  refine Was (.int .i64 14) ?_
  refine Wl_nil ?_
  refine W_ret ?_
  refine ret_end (v := .tuple #[.pointer none, .int .i64 14]) rfl (res2 results128 rfl rfl) ?_
  exact ⟨_, rfl, rfl, HU⟩
 rw [decide_eq_false q1]
 refine Wl_guard_t rfl ?_
 refine Wmv (.slice a n c) ?_
 refine Wl_guard_t rfl ?_
 refine Wmv (.slice a n c) ?_
 refine Wl_guard_t rfl ?_
 refine Wl_v (r_len underlying32 rfl) ?_
 refine Wl_guard_t rfl ?_
 refine Wl_v (r_sub rfl rfl (wi64 (by omega) (by omega))) ?_
 refine Wl_guard_t rfl ?_
 refine Wl_idxi underlying32 sizeOf5 rfl rfl hs (by omega) (by omega) ?_
 intro ib1 io1 hc1
 refine Wl_guard_t rfl ?_
 refine Wl_loadc isAgg5 rfl hc1 ?_
 refine Wl_guard_t rfl ?_
 refine Wl_v (r_eq rfl rfl) ?_
 refine Wl_v (r_pick_f (v := .bool (decide ((b.getD (((n : Nat) : Int) - 1).toNat 0) = 0))) rfl rfl) ?_
 refine Wl_nil ?_
 have q2 : (b.getD (((n : Nat) : Int) - 1).toNat 0) = 0 := (by rw [show (((n : Nat) : Int) - 1).toNat = n - 1 from by omega]; exact Classical.byContradiction fun h => hc ⟨by omega, by rw [show b.length = n from by omega]; exact h⟩)
 rw [decide_eq_true q2]
 refine W_cond_t rfl ?_
 refine W_seq (W_region ?_)
 refine Was (.pointer none) ?_
 refine Was (.int .i64 14) ?_
 refine Wl_nil ?_
 refine W_ret ?_
 refine ret_end (v := .tuple #[.pointer none, .int .i64 14]) rfl (res2 results128 rfl rfl) ?_
 exact ⟨_, rfl, rfl, HU⟩
def Rdr (w : World) (G0 G1 rb tb : Nat) (l b : List Int) (t : Nat) : Prop :=
 ∃ (a : Option Addr) (c : Nat) (ea : Option Addr) (ec : Nat) (la : Option Addr) (k lc : Nat),
  Blk w rb [.slice a b.length c, .int .i64 0, .int .i64 ((t : Nat) : Int)] ∧ Sl w (fun g => G0 ≤ g ∧ g < G1 ∧ g ≠ rb) 1 (.slice a b.length c) b.length (ints .u8 b) ∧
  Blk w tb [.slice ea (2 ^ bt l) ec, .int .i64 ((bt l : Nat) : Int), .slice la k lc] ∧ Sl w (fun g => G0 ≤ g ∧ g < G1 ∧ g ≠ rb) 2 (.slice ea (2 ^ bt l) ec) (2 ^ bt l) (rows encE (tbl l)) ∧
  (G0 ≤ rb ∧ rb < G1 ∧ G0 ≤ tb ∧ tb < G1 ∧ tb ≠ rb ∧ G1 ≤ w.heap.size)
theorem Rdr.upd {w w' : World} {G0 G1 rb tb : Nat} {l b : List Int} {t : Nat} {S : Nat → Prop} (h : Rdr w G0 G1 rb tb l b t) (hU : Upd S w w') (hS : ∀ g, S g → g < G0 ∨ G1 ≤ g) : Rdr w' G0 G1 rb tb l b t := by
 obtain ⟨a, c, ea, ec, la, k, lc, h1, h2, h3, h4, h5⟩ := h
 have hz := hU.size
 exact ⟨a, c, ea, ec, la, k, lc, h1.upd hU (fun x => by have := hS _ x; omega), h2.upd hU (fun g hg x => by have := hS _ x; have h6 : G0 ≤ g ∧ g < G1 ∧ g ≠ rb := hg; omega),
  h3.upd hU (fun x => by have := hS _ x; omega), h4.upd hU (fun g hg x => by have := hS _ x; have h6 : G0 ≤ g ∧ g < G1 ∧ g ≠ rb := hg; omega), by omega⟩
theorem Rdr.upd0 {w w' : World} {G0 G1 rb tb : Nat} {l b : List Int} {t : Nat} (h : Rdr w G0 G1 rb tb l b t) (hU : Upd No w w') : Rdr w' G0 G1 rb tb l b t := h.upd hU fun _ x => x.elim
theorem Rdr.lt {w : World} {G0 G1 rb tb : Nat} {l b : List Int} {t : Nat} (h : Rdr w G0 G1 rb tb l b t) : G0 ≤ rb ∧ rb < G1 ∧ G0 ≤ tb ∧ tb < G1 ∧ tb ≠ rb ∧ G1 ≤ w.heap.size := by
 obtain ⟨a, c, ea, ec, la, k, lc, h1, h2, h3, h4, h5⟩ := h
 exact h5
def Gd (l b : List Int) (t n : Nat) : Prop := ∀ j, j < n → gd l (wn b) t j
theorem Gd.zero (l b : List Int) (t : Nat) : Gd l b t 0 := fun j hj => absurd hj (by omega)
theorem Gd.succ {l b : List Int} {t k : Nat} (h : Gd l b t k) (h2 : (nd l (wn b) (st l (wn b) t k)).2.2 = 0) : Gd l b t (k + 1) := fun j hj => by
 by_cases e : j = k
 ·subst e; exact h2
 exact h j (by omega)
theorem Gd.le {l b : List Int} {t k n : Nat} (h : Gd l b t n) (hk : k ≤ n) : Gd l b t k := fun j hj => h j (by omega)
theorem rleft {G0 G1 rb tb t : Nat} {l b : List Int} (w : World) (hR : Rdr w G0 G1 rb tb l b t) (ht : t ≤ 1000000) :
  Calls Tryz.prog 104 #[.pointer (some ⟨rb, 0, none⟩)] w (Ret fun v w' => v = .int .i64 ((t : Nat) : Int) ∧ Upd No w w') := by
 obtain ⟨a, c, ea, ec, la, q, lc, hB, hs, hT, hE, hbd⟩ := hR
 exact bleft_spec w hB ht
theorem next_spec {G0 G1 rb tb t : Nat} {l b : List Int} (w : World) (hR : Rdr w G0 G1 rb tb l b t) (hr : Rt l) (hb : Byt b) (hbl : b.length ≤ 100000 ∧ t ≤ 8 * b.length) :
  Calls Tryz.prog 118 #[.agg #[.pointer (some ⟨rb, 0, none⟩), .pointer (some ⟨tb, 0, none⟩)]] w (Ret fun v w' => v = .tuple #[.int .u8 ((nd l (wn b) t).1), .bool (decide ((nd l (wn b) t).2.2 = 0))] ∧ Rdr w' G0 G1 rb tb l b (t - (nd l (wn b) t).2.1.toNat) ∧ Upd (Is rb) w w') := by
 have HU : Upd (fun b => b = rb) w w := Upd.refl _ _
 obtain ⟨a, c, ea, ec, la, q, lc, hB, hs, hT, hE, hbd⟩ := hR
 have hl_hs := ilen hs
 have hc_hs := hs.cap.1
 have h11w := wd11 (wn b) t
 refine calls_of_W func118 rfl ntmps118 (by simp) ?_
 refine W_seq (W_region ?_)
 refine Wl_box (v := .agg #[.pointer (some ⟨rb, 0, none⟩), .pointer (some ⟨tb, 0, none⟩)]) (cs := [.pointer (some ⟨rb, 0, none⟩), .pointer (some ⟨tb, 0, none⟩)]) rfl rfl ?_
 intro B1 w1 hB1 hU1 hzz1 hb1
 have hzw1 := hU1.size
 replace hB := hB.upd0 hU1
 replace hs := hs.upd0 hU1
 replace hT := hT.upd0 hU1
 replace hE := hE.upd0 hU1
 replace HU := HU.trans0 hU1
 refine Was (.int .u8 0) ?_
 refine Was (.bool false) ?_
 refine Wl_nil (W_seq (W_region ?_))
 refine Wl_v (r_fld underlying149 rfl sizeOf146 rfl rfl) ?_
 refine Wl_load (v := .pointer (some ⟨rb, 0, none⟩)) isAgg146 rfl hb1 rfl ?_
 refine Wl_call (r_call1 rfl call104 rfl) (bleft_spec _ hB (by omega)) ?_
 rintro v w2 ⟨rfl, hU2⟩
 have hzw2 := hU2.size
 replace hB := hB.upd0 hU2
 replace hs := hs.upd0 hU2
 replace hT := hT.upd0 hU2
 replace hE := hE.upd0 hU2
 replace HU := HU.trans0 hU2
 replace hb1 := hb1.upd0 hU2
 refine Wl_v (r_min rfl rfl) ?_
 refine Was (.int .i64 (min ((t : Nat) : Int) 11)) ?_
 rw [show (min ((t : Nat) : Int) 11 : Int) = ((min t 11 : Nat) : Int) from by omega]
 refine Wl_nil (W_seq ?_)
 refine W_drawt rfl (l0 := tf 0 15) (by kernel_rfl) ?_
 refine Tk 0 (tf 1 15) rfl (YI_v (v := .pointer (some ⟨B1, 1, none⟩)) rfl (fun w' hw' => r_fld underlying149 rfl sizeOf147 rfl rfl)) ?_
 refine Tk 1 (tf 2 15) rfl (YI_v (v := .pointer (some ⟨tb, 0, none⟩)) rfl (fun w' hw' => r_load isAgg147 rfl (by rw [(hb1.upd0 hw').cell]; rfl))) ?_
 refine Tk 2 (tf 3 15) rfl (YI_v (v := .pointer (some ⟨B1, 0, none⟩)) rfl (fun w' hw' => r_fld underlying149 rfl sizeOf146 rfl rfl)) ?_
 refine Tk 3 (tf 4 15) rfl (YI_v (v := .pointer (some ⟨rb, 0, none⟩)) rfl (fun w' hw' => r_load isAgg146 rfl (by rw [(hb1.upd0 hw').cell]; rfl))) ?_
 refine Tk 4 (tf 5 15) rfl (YI_v (v := .int .i64 ((min t 11 : Nat) : Int)) rfl (fun w' hw' => r_mv (v := .int .i64 ((min t 11 : Nat) : Int)) rfl)) ?_
 refine Tk 5 (tf 6 15) rfl (YI_c (v := .int .u64 ((wd (wn b) t (min t 11) : Nat) : Int)) rfl (fun w' => r_call2 rfl call130 rfl rfl) (fun w' hw' => peek_spec w' (hB.upd0 hw') ((hs.upd0 hw')) hb (by omega))) ?_
 refine Tk 6 (tf 7 15) rfl (YI_v (v := .int .i64 ((min t 11 : Nat) : Int)) rfl (fun w' hw' => r_mv (v := .int .i64 ((min t 11 : Nat) : Int)) rfl)) ?_
 refine Tk 7 (tf 8 15) rfl (YI_c (v := .tuple #[.int .i64 ((dec l ((wd (wn b) t (min t 11) : Nat) : Int) ((min t 11 : Nat) : Int)).1), .int .i64 ((dec l ((wd (wn b) t (min t 11) : Nat) : Int) ((min t 11 : Nat) : Int)).2.1), .int .i64 ((dec l ((wd (wn b) t (min t 11) : Nat) : Int) ((min t 11 : Nat) : Int)).2.2)]) rfl (fun w' => r_call3 rfl call129 rfl rfl rfl) (fun w' hw' => tdec w' (hT.upd0 hw') ((hE.upd0 hw').any) (by omega) (by omega) (by omega))) ?_
 refine Tk 8 (tf 9 15) rfl (YI_v (v := .tuple #[.int .i64 ((dec l ((wd (wn b) t (min t 11) : Nat) : Int) ((min t 11 : Nat) : Int)).1), .int .i64 ((dec l ((wd (wn b) t (min t 11) : Nat) : Int) ((min t 11 : Nat) : Int)).2.1), .int .i64 ((dec l ((wd (wn b) t (min t 11) : Nat) : Int) ((min t 11 : Nat) : Int)).2.2)]) rfl (fun w' hw' => r_mv (v := .tuple #[.int .i64 ((dec l ((wd (wn b) t (min t 11) : Nat) : Int) ((min t 11 : Nat) : Int)).1), .int .i64 ((dec l ((wd (wn b) t (min t 11) : Nat) : Int) ((min t 11 : Nat) : Int)).2.1), .int .i64 ((dec l ((wd (wn b) t (min t 11) : Nat) : Int) ((min t 11 : Nat) : Int)).2.2)]) rfl)) ?_
 rw [show dec l ((wd (wn b) t (min t 11) : Nat) : Int) ((min t 11 : Nat) : Int) = nd l (wn b) t from rfl]
 refine Tk 9 (tf 10 15) rfl (YI_v (v := .int .i64 ((nd l (wn b) t).1)) rfl (fun w' hw' => r_ext (v := .int .i64 ((nd l (wn b) t).1)) rfl rfl)) ?_
 refine Tk 10 (tf 11 15) rfl (YI_v (v := .int .i64 ((nd l (wn b) t).2.1)) rfl (fun w' hw' => r_ext (v := .int .i64 ((nd l (wn b) t).2.1)) rfl rfl)) ?_
 refine Tk 11 (tf 12 15) rfl (YI_v (v := .int .i64 ((nd l (wn b) t).2.2)) rfl (fun w' hw' => r_ext (v := .int .i64 ((nd l (wn b) t).2.2)) rfl rfl)) ?_
 refine Tk 12 (tf 13 15) rfl (YI_v (v := .int .i64 ((nd l (wn b) t).1)) rfl (fun w' hw' => r_as (v := .int .i64 ((nd l (wn b) t).1)) rfl)) ?_
 refine Tk 13 (tf 14 15) rfl (YI_v (v := .int .i64 ((nd l (wn b) t).2.1)) rfl (fun w' hw' => r_as (v := .int .i64 ((nd l (wn b) t).2.1)) rfl)) ?_
 refine Tk 14 (tf 15 15) rfl (YI_v (v := .int .i64 ((nd l (wn b) t).2.2)) rfl (fun w' hw' => r_as (v := .int .i64 ((nd l (wn b) t).2.2)) rfl)) ?_
 intro w3 hU3
 have hzw3 := hU3.size
 replace hB := hB.upd0 hU3
 replace hs := hs.upd0 hU3
 replace hT := hT.upd0 hU3
 replace hE := hE.upd0 hU3
 replace HU := HU.trans0 hU3
 replace hb1 := hb1.upd0 hU3
 refine Wa_done (by kernel_rfl) ?_
 refine W_seq (W_seq (W_region ?_))
 refine Wmv (.int .i64 ((nd l (wn b) t).2.2)) ?_
 refine Wl_v (r_ne rfl rfl) ?_
 refine Wmv (.bool (decide (((nd l (wn b) t).2.2) ≠ 0))) ?_
 by_cases q1 : ((nd l (wn b) t).2.2) ≠ 0
 ·have herr := nd_err hr q1
  rw [decide_eq_true q1]
  refine Wl_guard_f rfl (Wl_guard_f rfl (Wl_guard_f rfl (Wl_guard_f rfl (Wl_guard_f rfl ?_))))
  refine Wl_v (r_pick_t (v := .bool true) rfl rfl) ?_
  refine Wl_nil ?_
  refine W_cond_t rfl ?_
  refine W_seq (W_region ?_)
  refine Was (.int .u8 0) ?_
  refine Was (.bool false) ?_
  refine Wl_nil ?_
  refine W_ret ?_
  refine ret_end (v := .tuple #[.int .u8 0, .bool false]) rfl (res2 results118 rfl rfl) ?_
  exact ⟨_, rfl, (by rw [herr]; rfl), ⟨a, c, ea, ec, la, q, lc, blk3 hB (by rw [herr]; simp), hs, hT, hE, by omega⟩, HU⟩
 have hgo : (nd l (wn b) t).2.2 = 0 := by omega
 have hrng := nd_rng hr hgo
 rw [decide_eq_false q1]
 refine Wl_guard_t rfl ?_
 refine Wl_v (r_fld underlying149 rfl sizeOf146 rfl rfl) ?_
 refine Wl_guard_t rfl ?_
 refine Wl_load (v := .pointer (some ⟨rb, 0, none⟩)) isAgg146 rfl hb1 rfl ?_
 refine Wl_guard_t rfl ?_
 refine Wmv (.int .i64 ((nd l (wn b) t).2.1)) ?_
 refine Wl_guard_t rfl ?_
 refine Wl_call (r_call2 rfl call131 rfl rfl) (skip_ok _ hB (by omega)) ?_
 rintro v w4 ⟨rfl, hB24, hU4⟩
 have hzw4 := hU4.size
 replace hs := hs.upd1 hU4 (show ¬ (G0 ≤ rb ∧ rb < G1 ∧ rb ≠ rb) by omega)
 replace hT := hT.upd1 hU4 (by omega)
 replace hE := hE.upd1 hU4 (show ¬ (G0 ≤ rb ∧ rb < G1 ∧ rb ≠ rb) by omega)
 replace HU := HU.trans1 hU4 (by show (rb = rb) ∨ w.heap.size ≤ rb; omega)
 have hbl_hB24 := hB24.lt
 refine Wl_guard_t rfl ?_
 refine Wl_v (v := .bool false) (r_ne (a := 0) (b := 0) rfl rfl) ?_
 refine Wl_v (r_pick_f (v := .bool false) rfl rfl) ?_
 refine Wl_nil ?_
 refine W_cond_f rfl ?_
 refine W_skip (W_seq (W_region ?_))
 refine Wmv (.int .i64 ((nd l (wn b) t).1)) ?_
 refine Wl_v (r_cvt underlying3 underlying5 rfl (mu8 _)) ?_
 refine Was (.int .u8 (((nd l (wn b) t).1) % 256)) ?_
 refine Was (.bool true) ?_
 refine Wl_nil ?_
 refine W_ret ?_
 refine ret_end (v := .tuple #[.int .u8 (((nd l (wn b) t).1) % 256), .bool true]) rfl (res2 results118 rfl rfl) ?_
 exact ⟨_, rfl, (vtup2 (by first | rfl | exact vint (by omega)) (by rw [decide_eq_true (by omega)])), ⟨a, c, ea, ec, la, q, lc, blk3 hB24 (by omega), hs, hT, hE, by omega⟩, HU⟩
theorem reads_ok {G0 G1 rb tb t : Nat} {l b : List Int} {n : Nat} (w : World) (hR : Rdr w G0 G1 rb tb l b t) (hr : Rt l) (hb : Byt b) (hbl : b.length ≤ 100000 ∧ t ≤ 8 * b.length) (hn : n ≤ 131072) (hg : Gd l b t n) :
  Calls Tryz.prog 103 #[.agg #[.pointer (some ⟨rb, 0, none⟩), .pointer (some ⟨tb, 0, none⟩)], .int .i64 ((n : Nat) : Int)] w (Ret fun v w' => ∃ (a' : Option Addr) (c' : Nat), v = .slice a' n c' ∧ Own w' (fun g => w.heap.size ≤ g) 5 1 (.slice a' n c') n (ints .u8 (yms l (wn b) t n)) ∧ Rdr w' G0 G1 rb tb l b (st l (wn b) t n) ∧ Upd (Is rb) w w') := by
 have HU : Upd (fun b => b = rb) w w := Upd.refl _ _
 have hrl := hR.lt
 refine calls_of_W func103 rfl ntmps103 (by simp) ?_
 refine W_seq (W_region ?_)
 refine Wl_box (v := .agg #[.pointer (some ⟨rb, 0, none⟩), .pointer (some ⟨tb, 0, none⟩)]) (cs := [.pointer (some ⟨rb, 0, none⟩), .pointer (some ⟨tb, 0, none⟩)]) rfl rfl ?_
 intro B1 w1 hB1 hU1 hzz1 hb1
 have hzw1 := hU1.size
 replace hR := hR.upd0 hU1
 replace HU := HU.trans0 hU1
 refine Was (.slice none 0 0) ?_
 refine Wl_nil (W_seq (W_seq (W_region ?_)))
 refine Wmv (.int .i64 ((n : Nat) : Int)) ?_
 refine Wmv (.int .i64 0) ?_
 refine Wl_nil (W_block ?_)
 refine W_loop (fun mu ρ ds w' => ∃ (k : Nat) (a2 : Option Addr) (c2 : Nat), n - k = mu ∧ ds = [] ∧ Liv ρ [(2, .pointer (some ⟨B1, 0, none⟩)), (4, .slice a2 k c2), (7, .int .i64 ((n : Nat) : Int)), (8, .int .i64 ((k : Nat) : Int))] ∧ k ≤ n ∧ Gd l b t k ∧ Rdr w' G0 G1 rb tb l b (st l (wn b) t k) ∧ Own w' (fun g => w1.heap.size ≤ g) 5 1 (.slice a2 k c2) k (ints .u8 (yms l (wn b) t k)) ∧ Upd (fun g => g = rb ∨ w1.heap.size ≤ g) w1 w') _ ⟨0, none, 0, rfl, rfl, ⟨rfl, (by first | rfl | exact vint (by omega) | exact vint (by simp)), rfl, (by first | rfl | exact vint (by omega) | exact vint (by simp)), trivial⟩, (by omega), (Gd.zero _ _ _), hR, (by simpa [yms, tabn] using Own.nil _ _ _ _), Upd.refl _ _⟩ ?_
 rintro m2 ρ2 ds2 w2 ⟨k, a2, c2, rfl, rfl, hl2, hk, hG, hR, hO, hU2⟩
 obtain ⟨ρ2x, rfl⟩ : ∃ ρx, ρ2 = upds ρx [(2, .pointer (some ⟨B1, 0, none⟩)), (4, .slice a2 k c2), (7, .int .i64 ((n : Nat) : Int)), (8, .int .i64 ((k : Nat) : Int))] := ⟨_, upds_self hl2⟩
 clear hl2
 have hzw2 := hU2.size
 replace HU := HU.trans hU2 (by intro x hx; have hx2 : x = rb ∨ w1.heap.size ≤ x := hx; show (x = rb) ∨ w.heap.size ≤ x; omega)
 replace hb1 := hb1.upd hU2 (by intro hx; have hx2 : B1 = rb ∨ w1.heap.size ≤ B1 := hx; omega)
 have HL2 := hU2
 refine W_seq (W_region ?_)
 refine Wl_v (r_lt rfl rfl) ?_
 refine Wl_nil (W_seq ?_)
 by_cases q1 : ((k : Nat) : Int) < ((n : Nat) : Int)
 ·have hst := st_le (l := l) (wn b) t k
  have hrl := hR.lt
  replace hO := hO.tight
  rw [decide_eq_true q1]
  refine W_cond_t rfl ?_
  refine W_skip (W_seq (W_block (W_seq (W_region ?_))))
  refine Wl_v (r_loada (b := B1) (off := 0) (cs := [.pointer (some ⟨rb, 0, none⟩), .pointer (some ⟨tb, 0, none⟩)]) isAgg149 sizeOf149 rfl rfl (fun j hj => by rw [hb1.cell]; match j, hj with | 0, _ => rfl | 1, _ => rfl)) ?_
  refine Wl_call (r_call1 rfl call118 rfl) (next_spec _ hR (by omega) hb (by omega)) ?_
  rintro v w3 ⟨rfl, hR23, hU3⟩
  have hzw3 := hU3.size
  replace hO := hO.upd1 hU3 (show ¬ (((w1.heap.size ≤ rb) ∧ rb < w2.heap.size)) by omega)
  replace HL2 := HL2.trans1 hU3 (by show (rb = rb ∨ w1.heap.size ≤ rb) ∨ w1.heap.size ≤ rb; omega)
  refine Wmv (.tuple #[.int .u8 ((nd l (wn b) (st l (wn b) t k)).1), .bool (decide ((nd l (wn b) (st l (wn b) t k)).2.2 = 0))]) ?_
  refine Wl_v (r_ext (v := .int .u8 ((nd l (wn b) (st l (wn b) t k)).1)) rfl rfl) ?_
  refine Wl_v (r_ext (v := .bool (decide ((nd l (wn b) (st l (wn b) t k)).2.2 = 0))) rfl rfl) ?_
  refine Was (.int .u8 ((nd l (wn b) (st l (wn b) t k)).1)) ?_
  refine Was (.bool (decide ((nd l (wn b) (st l (wn b) t k)).2.2 = 0))) ?_
  refine Wl_nil (W_seq (W_region ?_))
  refine Wmv (.bool (decide ((nd l (wn b) (st l (wn b) t k)).2.2 = 0))) ?_
  have q2 : (nd l (wn b) (st l (wn b) t k)).2.2 = 0 := (hg k (by omega))
  have hgk := q2
  rw [decide_eq_true q2]
  refine Wl_call (r_call2 rfl call89 rfl rfl) (ois_ok _ ) ?_
  rintro v w4 ⟨rfl, hU4⟩
  have hzw4 := hU4.size
  replace hO := hO.upd0 hU4
  replace HL2 := HL2.trans0 hU4
  replace hR23 := hR23.upd0 hU4
  refine Wl_nil (W_region ?_)
  refine Wmv (.slice a2 k c2) ?_
  refine Wmv (.int .u8 ((nd l (wn b) (st l (wn b) t k)).1)) ?_
  refine Wl_lit (pv := [(0, .int .u8 ((nd l (wn b) (st l (wn b) t k)).1))]) (cs := [.int .u8 ((nd l (wn b) (st l (wn b) t k)).1)]) underlying32 sizeOf5 zeroValue5 (by decide) (by decide) (by simp only [List.map_toArray, List.map_cons, List.map_nil] <;> rfl) (by kernel_rfl) rfl (by decide) ?_
  intro B5 w5 hB5 hU5 hzz5 hs5
  have hzw5 := hU5.size
  replace hO := hO.upd0 hU5
  replace HL2 := HL2.trans0 hU5
  replace hR23 := hR23.upd0 hU5
  replace hs5 : Own w5 (Is B5) 5 1 (.slice (some ⟨B5, 0, none⟩) 1 1) 1 (ints .u8 [(nd l (wn b) (st l (wn b) t k)).1]) := hs5
  refine Wl_appendi (xs := yms l (wn b) t k) (ys := [(nd l (wn b) (st l (wn b) t k)).1]) (zs := (yms l (wn b) t k) ++ [(nd l (wn b) (st l (wn b) t k)).1]) (k' := .u8) (tot := k + 1) (by first | rfl | exact (rows_app _ _).symm | simp) underlying32 (ti := Tryz.t5) (z := .int .u8 0) (sz := 1) (by' := 1) rfl rfl rfl rfl rfl (by decide) rfl hO rfl hs5.sl  (by omega) (by simp only [maxLen]; omega) (by omega) ?_
  intro a6 c6 w6 hU6 hzz6 hO6
  clear hO
  have hzw6 := hU6.size
  replace HL2 := HL2.trans hU6 (by intro x hx; have hx2 : ((w1.heap.size ≤ x) ∧ x < w2.heap.size) := hx; show (x = rb ∨ w1.heap.size ≤ x) ∨ w1.heap.size ≤ x; omega)
  replace hR23 := hR23.upd hU6 (by intro x hx; have hx2 : ((w1.heap.size ≤ x) ∧ x < w2.heap.size) := hx; omega)
  replace hO6 := hO6.tight
  have hl_hO6 := ilen hO6.sl
  have hc_hO6 := hO6.sl.cap.1
  refine Was (.slice a6 (k + 1) c6) ?_
  refine Wl_nil (W_region ?_)
  refine Wl_v (r_add rfl rfl (wi64 (by omega) (by omega))) ?_
  refine Wmv (.int .i64 (((k : Nat) : Int) + 1)) ?_
  refine Wl_nil ?_
  refine ⟨_, ?_, (k + 1), a6, c6, rfl, rfl, ⟨rfl, (by first | rfl | exact vint (by omega) | exact vint (by simp)), rfl, (Eq.trans (b := .int .i64 (((k : Nat) : Int) + 1)) rfl (vint (by omega))), trivial⟩, (by omega), (hG.succ hgk), hR23, ((hO6.weak (by intro g hg; have h3 : ((((((w1.heap.size ≤ g) ∧ g < w2.heap.size)) ∨ g = w5.heap.size)) ∧ g < w6.heap.size) := hg; show w1.heap.size ≤ g; omega)).icong (yms_succ _ _ _ _).symm), HL2⟩
  omega
 rw [decide_eq_false q1]
 obtain rfl : n = k := by omega
 refine W_cond_f rfl ?_
 refine W_exit ?_
 refine W_seq (W_region ?_)
 refine Wmv (.slice a2 n c2) ?_
 refine Was (.slice a2 n c2) ?_
 refine Wl_nil ?_
 refine W_ret ?_
 refine ret_end (v := .slice a2 n c2) rfl (res1 results103 rfl) ?_
 exact ⟨_, rfl, a2, c2, rfl, (hO.weak (by intro g hg; have h3 : w1.heap.size ≤ g := hg; show w.heap.size ≤ g; omega)), hR, HU⟩
theorem reads_no {G0 G1 rb tb t : Nat} {l b : List Int} {n : Nat} (w : World) (hR : Rdr w G0 G1 rb tb l b t) (hr : Rt l) (hb : Byt b) (hbl : b.length ≤ 100000 ∧ t ≤ 8 * b.length) (hn : n ≤ 131072) (hg : ¬ Gd l b t n) :
  Calls Tryz.prog 103 #[.agg #[.pointer (some ⟨rb, 0, none⟩), .pointer (some ⟨tb, 0, none⟩)], .int .i64 ((n : Nat) : Int)] w (Pan (.iface 23 (.int .i64 14)) fun w' => Upd (Is rb) w w') := by
 have HU : Upd (fun b => b = rb) w w := Upd.refl _ _
 have hrl := hR.lt
 refine calls_of_W func103 rfl ntmps103 (by simp) ?_
 refine W_seq (W_region ?_)
 refine Wl_box (v := .agg #[.pointer (some ⟨rb, 0, none⟩), .pointer (some ⟨tb, 0, none⟩)]) (cs := [.pointer (some ⟨rb, 0, none⟩), .pointer (some ⟨tb, 0, none⟩)]) rfl rfl ?_
 intro B1 w1 hB1 hU1 hzz1 hb1
 have hzw1 := hU1.size
 replace hR := hR.upd0 hU1
 replace HU := HU.trans0 hU1
 refine Was (.slice none 0 0) ?_
 refine Wl_nil (W_seq (W_seq (W_region ?_)))
 refine Wmv (.int .i64 ((n : Nat) : Int)) ?_
 refine Wmv (.int .i64 0) ?_
 refine Wl_nil (W_block ?_)
 refine W_loop (fun mu ρ ds w' => ∃ (k : Nat) (a2 : Option Addr) (c2 : Nat), n - k = mu ∧ ds = [] ∧ Liv ρ [(2, .pointer (some ⟨B1, 0, none⟩)), (4, .slice a2 k c2), (7, .int .i64 ((n : Nat) : Int)), (8, .int .i64 ((k : Nat) : Int))] ∧ k ≤ n ∧ Gd l b t k ∧ Rdr w' G0 G1 rb tb l b (st l (wn b) t k) ∧ Own w' (fun g => w1.heap.size ≤ g) 5 1 (.slice a2 k c2) k (ints .u8 (yms l (wn b) t k)) ∧ Upd (fun g => g = rb ∨ w1.heap.size ≤ g) w1 w') _ ⟨0, none, 0, rfl, rfl, ⟨rfl, (by first | rfl | exact vint (by omega) | exact vint (by simp)), rfl, (by first | rfl | exact vint (by omega) | exact vint (by simp)), trivial⟩, (by omega), (Gd.zero _ _ _), hR, (by simpa [yms, tabn] using Own.nil _ _ _ _), Upd.refl _ _⟩ ?_
 rintro m2 ρ2 ds2 w2 ⟨k, a2, c2, rfl, rfl, hl2, hk, hG, hR, hO, hU2⟩
 obtain ⟨ρ2x, rfl⟩ : ∃ ρx, ρ2 = upds ρx [(2, .pointer (some ⟨B1, 0, none⟩)), (4, .slice a2 k c2), (7, .int .i64 ((n : Nat) : Int)), (8, .int .i64 ((k : Nat) : Int))] := ⟨_, upds_self hl2⟩
 clear hl2
 have hzw2 := hU2.size
 replace HU := HU.trans hU2 (by intro x hx; have hx2 : x = rb ∨ w1.heap.size ≤ x := hx; show (x = rb) ∨ w.heap.size ≤ x; omega)
 replace hb1 := hb1.upd hU2 (by intro hx; have hx2 : B1 = rb ∨ w1.heap.size ≤ B1 := hx; omega)
 have HL2 := hU2
 refine W_seq (W_region ?_)
 refine Wl_v (r_lt rfl rfl) ?_
 refine Wl_nil (W_seq ?_)
 by_cases q1 : ((k : Nat) : Int) < ((n : Nat) : Int)
 ·have hst := st_le (l := l) (wn b) t k
  have hrl := hR.lt
  replace hO := hO.tight
  rw [decide_eq_true q1]
  refine W_cond_t rfl ?_
  refine W_skip (W_seq (W_block (W_seq (W_region ?_))))
  refine Wl_v (r_loada (b := B1) (off := 0) (cs := [.pointer (some ⟨rb, 0, none⟩), .pointer (some ⟨tb, 0, none⟩)]) isAgg149 sizeOf149 rfl rfl (fun j hj => by rw [hb1.cell]; match j, hj with | 0, _ => rfl | 1, _ => rfl)) ?_
  refine Wl_call (r_call1 rfl call118 rfl) (next_spec _ hR (by omega) hb (by omega)) ?_
  rintro v w3 ⟨rfl, hR23, hU3⟩
  have hzw3 := hU3.size
  replace HU := HU.trans1 hU3 (by show (rb = rb) ∨ w.heap.size ≤ rb; omega)
  replace hO := hO.upd1 hU3 (show ¬ (((w1.heap.size ≤ rb) ∧ rb < w2.heap.size)) by omega)
  replace HL2 := HL2.trans1 hU3 (by show (rb = rb ∨ w1.heap.size ≤ rb) ∨ w1.heap.size ≤ rb; omega)
  refine Wmv (.tuple #[.int .u8 ((nd l (wn b) (st l (wn b) t k)).1), .bool (decide ((nd l (wn b) (st l (wn b) t k)).2.2 = 0))]) ?_
  refine Wl_v (r_ext (v := .int .u8 ((nd l (wn b) (st l (wn b) t k)).1)) rfl rfl) ?_
  refine Wl_v (r_ext (v := .bool (decide ((nd l (wn b) (st l (wn b) t k)).2.2 = 0))) rfl rfl) ?_
  refine Was (.int .u8 ((nd l (wn b) (st l (wn b) t k)).1)) ?_
  refine Was (.bool (decide ((nd l (wn b) (st l (wn b) t k)).2.2 = 0))) ?_
  refine Wl_nil (W_seq (W_region ?_))
  refine Wmv (.bool (decide ((nd l (wn b) (st l (wn b) t k)).2.2 = 0))) ?_
  by_cases q2 : (nd l (wn b) (st l (wn b) t k)).2.2 = 0
  ·have hgk := q2
   rw [decide_eq_true q2]
   refine Wl_call (r_call2 rfl call89 rfl rfl) (ois_ok _ ) ?_
   rintro v w4 ⟨rfl, hU4⟩
   have hzw4 := hU4.size
   replace hO := hO.upd0 hU4
   replace HL2 := HL2.trans0 hU4
   replace hR23 := hR23.upd0 hU4
   refine Wl_nil (W_region ?_)
   refine Wmv (.slice a2 k c2) ?_
   refine Wmv (.int .u8 ((nd l (wn b) (st l (wn b) t k)).1)) ?_
   refine Wl_lit (pv := [(0, .int .u8 ((nd l (wn b) (st l (wn b) t k)).1))]) (cs := [.int .u8 ((nd l (wn b) (st l (wn b) t k)).1)]) underlying32 sizeOf5 zeroValue5 (by decide) (by decide) (by simp only [List.map_toArray, List.map_cons, List.map_nil] <;> rfl) (by kernel_rfl) rfl (by decide) ?_
   intro B5 w5 hB5 hU5 hzz5 hs5
   have hzw5 := hU5.size
   replace hO := hO.upd0 hU5
   replace HL2 := HL2.trans0 hU5
   replace hR23 := hR23.upd0 hU5
   replace hs5 : Own w5 (Is B5) 5 1 (.slice (some ⟨B5, 0, none⟩) 1 1) 1 (ints .u8 [(nd l (wn b) (st l (wn b) t k)).1]) := hs5
   refine Wl_appendi (xs := yms l (wn b) t k) (ys := [(nd l (wn b) (st l (wn b) t k)).1]) (zs := (yms l (wn b) t k) ++ [(nd l (wn b) (st l (wn b) t k)).1]) (k' := .u8) (tot := k + 1) (by first | rfl | exact (rows_app _ _).symm | simp) underlying32 (ti := Tryz.t5) (z := .int .u8 0) (sz := 1) (by' := 1) rfl rfl rfl rfl rfl (by decide) rfl hO rfl hs5.sl  (by omega) (by simp only [maxLen]; omega) (by omega) ?_
   intro a6 c6 w6 hU6 hzz6 hO6
   clear hO
   have hzw6 := hU6.size
   replace HL2 := HL2.trans hU6 (by intro x hx; have hx2 : ((w1.heap.size ≤ x) ∧ x < w2.heap.size) := hx; show (x = rb ∨ w1.heap.size ≤ x) ∨ w1.heap.size ≤ x; omega)
   replace hR23 := hR23.upd hU6 (by intro x hx; have hx2 : ((w1.heap.size ≤ x) ∧ x < w2.heap.size) := hx; omega)
   replace hO6 := hO6.tight
   have hl_hO6 := ilen hO6.sl
   have hc_hO6 := hO6.sl.cap.1
   refine Was (.slice a6 (k + 1) c6) ?_
   refine Wl_nil (W_region ?_)
   refine Wl_v (r_add rfl rfl (wi64 (by omega) (by omega))) ?_
   refine Wmv (.int .i64 (((k : Nat) : Int) + 1)) ?_
   refine Wl_nil ?_
   refine ⟨_, ?_, (k + 1), a6, c6, rfl, rfl, ⟨rfl, (by first | rfl | exact vint (by omega) | exact vint (by simp)), rfl, (Eq.trans (b := .int .i64 (((k : Nat) : Int) + 1)) rfl (vint (by omega))), trivial⟩, (by omega), (hG.succ hgk), hR23, ((hO6.weak (by intro g hg; have h3 : ((((((w1.heap.size ≤ g) ∧ g < w2.heap.size)) ∨ g = w5.heap.size)) ∧ g < w6.heap.size) := hg; show w1.heap.size ≤ g; omega)).icong (yms_succ _ _ _ _).symm), HL2⟩
   omega
  rw [decide_eq_false q2]
  refine Wl_callp (r_call2 rfl call89 rfl rfl) (ois_no _ ) ?_
  intro w7 hU7
  have hzw7 := hU7.size
  replace HU := HU.trans0 hU7
  refine pan_ds rfl ?_
  refine lv_panic ?_
  exact ⟨rfl, HU⟩
 exact absurd (hG.le (k := n) (by omega)) hg
theorem dcl_ok {G0 G1 rb tb t : Nat} {l b : List Int} {bn n : Nat} (w : World) (hN : Blk w bn [.int .i64 ((n : Nat) : Int)]) (hR : Rdr w G0 G1 rb tb l b t) (hr : Rt l) (hb : Byt b) (hbl : b.length ≤ 100000 ∧ t ≤ 8 * b.length) (hn : n ≤ 131072) (hg : Gd l b t n ∧ st l (wn b) t n = 0) (hne : bn < G0 ∨ G1 ≤ bn) :
  Calls Tryz.prog 102 #[.agg #[.pointer (some ⟨rb, 0, none⟩), .pointer (some ⟨tb, 0, none⟩)], .pointer (some ⟨bn, 0, none⟩)] w (Ret fun v w' => ∃ (a' : Option Addr) (c' : Nat), v = .slice a' n c' ∧ Own w' (fun g => w.heap.size ≤ g) 5 1 (.slice a' n c') n (ints .u8 (yms l (wn b) t n)) ∧ Upd (Is rb) w w') := by
 have HU : Upd (fun b => b = rb) w w := Upd.refl _ _
 have hbl_hN := hN.lt
 have hrl := hR.lt
 have hstn := st_le (l := l) (wn b) t n
 have hg2 := hg.2
 refine calls_of_W func102 rfl ntmps102 (by simp) ?_
 refine W_seq (W_region ?_)
 refine Wl_box (v := .agg #[.pointer (some ⟨rb, 0, none⟩), .pointer (some ⟨tb, 0, none⟩)]) (cs := [.pointer (some ⟨rb, 0, none⟩), .pointer (some ⟨tb, 0, none⟩)]) rfl rfl ?_
 intro B1 w1 hB1 hU1 hzz1 hb1
 have hzw1 := hU1.size
 replace hN := hN.upd0 hU1
 replace hR := hR.upd0 hU1
 replace HU := HU.trans0 hU1
 refine Was (.slice none 0 0) ?_
 refine Wl_nil (W_seq (W_region ?_))
 refine Wl_v (r_loada (b := B1) (off := 0) (cs := [.pointer (some ⟨rb, 0, none⟩), .pointer (some ⟨tb, 0, none⟩)]) isAgg149 sizeOf149 rfl rfl (fun j hj => by rw [hb1.cell]; match j, hj with | 0, _ => rfl | 1, _ => rfl)) ?_
 refine Wl_load (v := .int .i64 ((n : Nat) : Int)) isAgg3 rfl hN rfl ?_
 have q1 : Gd l b t n := hg.1
 refine Wl_call (r_call2 rfl call103 rfl rfl) (reads_ok _ hR (by omega) hb (by omega) (by omega) q1) ?_
 rintro v w2 ⟨a2, c2, rfl, hO2, hR22, hU2⟩
 have hzw2 := hU2.size
 replace HU := HU.trans1 hU2 (by show (rb = rb) ∨ w.heap.size ≤ rb; omega)
 replace hb1 := hb1.upd1 hU2 (by omega)
 replace hO2 := hO2.tight
 have hl_hO2 := ilen hO2.sl
 have hc_hO2 := hO2.sl.cap.1
 refine Was (.slice a2 n c2) ?_
 refine Wl_nil (W_seq (W_region ?_))
 refine Wl_v (r_fld underlying149 rfl sizeOf146 rfl rfl) ?_
 refine Wl_load (v := .pointer (some ⟨rb, 0, none⟩)) isAgg146 rfl hb1 rfl ?_
 refine Wl_call (r_call1 rfl call104 rfl) (rleft _ hR22 (by omega)) ?_
 rintro v w3 ⟨rfl, hU3⟩
 have hzw3 := hU3.size
 replace HU := HU.trans0 hU3
 replace hO2 := hO2.upd0 hU3
 refine Wl_v (r_eq rfl rfl) ?_
 have q2 : (((st l (wn b) t n) : Nat) : Int) = 0 := (by omega)
 rw [decide_eq_true q2]
 refine Wl_call (r_call2 rfl call89 rfl rfl) (ois_ok _ ) ?_
 rintro v w4 ⟨rfl, hU4⟩
 have hzw4 := hU4.size
 replace HU := HU.trans0 hU4
 replace hO2 := hO2.upd0 hU4
 refine Wl_nil (W_seq (W_region ?_))
 refine Wmv (.slice a2 n c2) ?_
 refine Was (.slice a2 n c2) ?_
 refine Wl_nil ?_
 refine W_ret ?_
 refine ret_end (v := .slice a2 n c2) rfl (res1 results102 rfl) ?_
 exact ⟨_, rfl, a2, c2, rfl, (hO2.weak (by intro g hg; have h3 : ((w1.heap.size ≤ g) ∧ g < w2.heap.size) := hg; show w.heap.size ≤ g; omega)), HU⟩
theorem dcl_no {G0 G1 rb tb t : Nat} {l b : List Int} {bn n : Nat} (w : World) (hN : Blk w bn [.int .i64 ((n : Nat) : Int)]) (hR : Rdr w G0 G1 rb tb l b t) (hr : Rt l) (hb : Byt b) (hbl : b.length ≤ 100000 ∧ t ≤ 8 * b.length) (hn : n ≤ 131072) (hg : ¬ (Gd l b t n ∧ st l (wn b) t n = 0)) (hne : bn < G0 ∨ G1 ≤ bn) :
  Calls Tryz.prog 102 #[.agg #[.pointer (some ⟨rb, 0, none⟩), .pointer (some ⟨tb, 0, none⟩)], .pointer (some ⟨bn, 0, none⟩)] w (Pan (.iface 23 (.int .i64 14)) fun w' => Upd (Is rb) w w') := by
 have HU : Upd (fun b => b = rb) w w := Upd.refl _ _
 have hbl_hN := hN.lt
 have hrl := hR.lt
 have hstn := st_le (l := l) (wn b) t n
 refine calls_of_W func102 rfl ntmps102 (by simp) ?_
 refine W_seq (W_region ?_)
 refine Wl_box (v := .agg #[.pointer (some ⟨rb, 0, none⟩), .pointer (some ⟨tb, 0, none⟩)]) (cs := [.pointer (some ⟨rb, 0, none⟩), .pointer (some ⟨tb, 0, none⟩)]) rfl rfl ?_
 intro B1 w1 hB1 hU1 hzz1 hb1
 have hzw1 := hU1.size
 replace hN := hN.upd0 hU1
 replace hR := hR.upd0 hU1
 replace HU := HU.trans0 hU1
 refine Was (.slice none 0 0) ?_
 refine Wl_nil (W_seq (W_region ?_))
 refine Wl_v (r_loada (b := B1) (off := 0) (cs := [.pointer (some ⟨rb, 0, none⟩), .pointer (some ⟨tb, 0, none⟩)]) isAgg149 sizeOf149 rfl rfl (fun j hj => by rw [hb1.cell]; match j, hj with | 0, _ => rfl | 1, _ => rfl)) ?_
 refine Wl_load (v := .int .i64 ((n : Nat) : Int)) isAgg3 rfl hN rfl ?_
 by_cases q1 : Gd l b t n
 ·refine Wl_call (r_call2 rfl call103 rfl rfl) (reads_ok _ hR (by omega) hb (by omega) (by omega) q1) ?_
  rintro v w2 ⟨a2, c2, rfl, hO2, hR22, hU2⟩
  have hzw2 := hU2.size
  replace HU := HU.trans1 hU2 (by show (rb = rb) ∨ w.heap.size ≤ rb; omega)
  replace hb1 := hb1.upd1 hU2 (by omega)
  replace hO2 := hO2.tight
  have hl_hO2 := ilen hO2.sl
  have hc_hO2 := hO2.sl.cap.1
  refine Was (.slice a2 n c2) ?_
  refine Wl_nil (W_seq (W_region ?_))
  refine Wl_v (r_fld underlying149 rfl sizeOf146 rfl rfl) ?_
  refine Wl_load (v := .pointer (some ⟨rb, 0, none⟩)) isAgg146 rfl hb1 rfl ?_
  refine Wl_call (r_call1 rfl call104 rfl) (rleft _ hR22 (by omega)) ?_
  rintro v w3 ⟨rfl, hU3⟩
  have hzw3 := hU3.size
  replace HU := HU.trans0 hU3
  refine Wl_v (r_eq rfl rfl) ?_
  have q2 : ¬ ((((st l (wn b) t n) : Nat) : Int) = 0) := (fun h => hg ⟨q1, by omega⟩)
  rw [decide_eq_false q2]
  refine Wl_callp (r_call2 rfl call89 rfl rfl) (ois_no _ ) ?_
  intro w4 hU4
  have hzw4 := hU4.size
  replace HU := HU.trans0 hU4
  refine pan_ds rfl ?_
  refine lv_panic ?_
  exact ⟨rfl, HU⟩
 refine Wl_callp (r_call2 rfl call103 rfl rfl) (reads_no _ hR (by omega) hb (by omega) (by omega) q1) ?_
 intro w5 hU5
 have hzw5 := hU5.size
 replace HU := HU.trans1 hU5 (by show (rb = rb) ∨ w.heap.size ≤ rb; omega)
 refine pan_ds rfl ?_
 refine lv_panic ?_
 exact ⟨rfl, HU⟩
theorem open_ok {a a2 : Option Addr} {n c m d : Nat} {l b : List Int} {R : Nat → Prop} (w : World) (hs : Sl w R 1 (.slice a n c) n (ints .i64 l)) (hn : n ≤ 1000) (hsb : Sl w (fun g => g < w.heap.size) 1 (.slice a2 m d) m (ints .u8 b)) (hb : Byt b) (hm : m ≤ 100000) (hr : Rt l) (hc : Cl b) :
  Calls Tryz.prog 117 #[.slice a n c, .slice a2 m d] w (Ret fun v w' => ∃ (rb : Nat) (tb : Nat) (G1 : Nat), v = .agg #[.pointer (some ⟨rb, 0, none⟩), .pointer (some ⟨tb, 0, none⟩)] ∧ Rdr w' w.heap.size G1 rb tb l b (tbt b) ∧ Upd No w w') := by
 have HU := Upd.rno w
 have hl_hs := ilen hs
 have hc_hs := hs.cap.1
 replace hs := hs.tight
 have hl_hsb := ilen hsb
 have hc_hsb := hsb.cap.1
 refine calls_of_W func117 rfl ntmps117 (by simp) ?_
 refine W_seq (W_region ?_)
 refine Wl_alloc (cs := [.pointer none, .pointer none]) zeroValue149 rfl ?_
 intro B1 w1 hB1 hU1 hzz1 hb1
 have hzw1 := hU1.size
 replace hs := hs.upd0 hU1
 replace hsb := hsb.upd0 hU1
 replace HU := HU.trans0 hU1
 refine Wl_nil (W_seq (W_region ?_))
 refine Wmv (.slice a n c) ?_
 refine Wl_call (r_call1 rfl call127 rfl) (new_ok _ hs (by omega) hr) ?_
 rintro v w2 ⟨tb2, ea2, ec2, la2, lc2, rfl, hT2, hE2, hL2, htg_2, hU2⟩
 have hzw2 := hU2.size
 replace hsb := hsb.upd0 hU2
 replace HU := HU.trans0 hU2
 replace hb1 := hb1.upd0 hU2
 have hbl_hT2 := hT2.lt
 replace hE2 := hE2.tight
 have hl_hE2 := rlen encE_len (by decide) hE2.sl
 have hc_hE2 := hE2.sl.cap.1
 replace hL2 := hL2.tight
 have hl_hL2 := ilen hL2.sl
 have hc_hL2 := hL2.sl.cap.1
 have hbtb := bt_bd hr
 refine Wmv (.tuple #[.pointer (some ⟨tb2, 0, none⟩), .int .i64 0]) ?_
 refine Wl_v (r_ext (v := .pointer (some ⟨tb2, 0, none⟩)) rfl rfl) ?_
 refine Wl_v (r_ext (v := .int .i64 0) rfl rfl) ?_
 refine Was (.pointer (some ⟨tb2, 0, none⟩)) ?_
 refine Was (.int .i64 0) ?_
 refine Wl_nil (W_seq (W_region ?_))
 refine Wmv (.int .i64 0) ?_
 refine Wl_lit (pv := [(0, .int .i64 0)]) (cs := [.int .i64 0]) underlying112 sizeOf23 zeroValue23 (by decide) (by decide) (by simp only [List.map_toArray, List.map_cons, List.map_nil] <;> rfl) (by kernel_rfl) rfl (by decide) ?_
 intro B3 w3 hB3 hU3 hzz3 hs3
 have hzw3 := hU3.size
 replace hsb := hsb.upd0 hU3
 replace HU := HU.trans0 hU3
 replace hb1 := hb1.upd0 hU3
 replace hT2 := hT2.upd0 hU3
 replace hE2 := hE2.upd0 hU3
 replace hs3 : Own w3 (Is B3) 23 1 (.slice (some ⟨B3, 0, none⟩) 1 1) 1 (ints .i64 [0]) := hs3
 refine Wl_call (r_call1 rfl call63 rfl) (omust_ok (er := 0) _ hs3.sl.any (by decide)) ?_
 rintro v w4 ⟨rfl, hU4⟩
 have hzw4 := hU4.size
 replace hsb := hsb.upd0 hU4
 replace HU := HU.trans0 hU4
 replace hb1 := hb1.upd0 hU4
 replace hT2 := hT2.upd0 hU4
 replace hE2 := hE2.upd0 hU4
 refine Wl_nil (W_seq (W_region ?_))
 refine Wmv (.slice a2 m d) ?_
 refine Wl_call (r_call1 rfl call128 rfl) (newb_ok _ hsb.any hb (by omega) hc) ?_
 rintro v w5 ⟨rb5, a5, c5, rfl, hB5, hO5, hrb_5, hU5⟩
 have hzw5 := hU5.size
 replace HU := HU.trans0 hU5
 replace hb1 := hb1.upd0 hU5
 replace hT2 := hT2.upd0 hU5
 replace hE2 := hE2.upd0 hU5
 have hbl_hB5 := hB5.lt
 replace hO5 := hO5.tight
 have hl_hO5 := ilen hO5.sl
 have hc_hO5 := hO5.sl.cap.1
 refine Wmv (.tuple #[.pointer (some ⟨rb5, 0, none⟩), .int .i64 0]) ?_
 refine Wl_v (r_ext (v := .pointer (some ⟨rb5, 0, none⟩)) rfl rfl) ?_
 refine Wl_v (r_ext (v := .int .i64 0) rfl rfl) ?_
 refine Was (.pointer (some ⟨rb5, 0, none⟩)) ?_
 refine Was (.int .i64 0) ?_
 refine Wl_nil (W_seq (W_region ?_))
 refine Wmv (.int .i64 0) ?_
 refine Wl_lit (pv := [(0, .int .i64 0)]) (cs := [.int .i64 0]) underlying112 sizeOf23 zeroValue23 (by decide) (by decide) (by simp only [List.map_toArray, List.map_cons, List.map_nil] <;> rfl) (by kernel_rfl) rfl (by decide) ?_
 intro B6 w6 hB6 hU6 hzz6 hs6
 have hzw6 := hU6.size
 replace HU := HU.trans0 hU6
 replace hb1 := hb1.upd0 hU6
 replace hT2 := hT2.upd0 hU6
 replace hE2 := hE2.upd0 hU6
 replace hB5 := hB5.upd0 hU6
 replace hO5 := hO5.upd0 hU6
 replace hs6 : Own w6 (Is B6) 23 1 (.slice (some ⟨B6, 0, none⟩) 1 1) 1 (ints .i64 [0]) := hs6
 refine Wl_call (r_call1 rfl call63 rfl) (omust_ok (er := 0) _ hs6.sl.any (by decide)) ?_
 rintro v w7 ⟨rfl, hU7⟩
 have hzw7 := hU7.size
 replace HU := HU.trans0 hU7
 replace hb1 := hb1.upd0 hU7
 replace hT2 := hT2.upd0 hU7
 replace hE2 := hE2.upd0 hU7
 replace hB5 := hB5.upd0 hU7
 replace hO5 := hO5.upd0 hU7
 refine Wl_nil (W_seq (W_region ?_))
 refine Wmv (.pointer (some ⟨rb5, 0, none⟩)) ?_
 refine Wmv (.pointer (some ⟨tb2, 0, none⟩)) ?_
 refine Wl_v (r_build (pl := #[(0, 1), (1, 1)]) (pv := [(0, .pointer (some ⟨rb5, 0, none⟩)), (1, .pointer (some ⟨tb2, 0, none⟩))]) (cs := #[.pointer (some ⟨rb5, 0, none⟩), .pointer (some ⟨tb2, 0, none⟩)]) zeroValue149 underlying149 (fun w => by kernel_rfl) (by simp only [List.map_toArray, List.map_cons, List.map_nil] <;> rfl) (by kernel_rfl)) ?_
 refine Wl_storea (off := 0) (vs := [.pointer (some ⟨rb5, 0, none⟩), .pointer (some ⟨tb2, 0, none⟩)]) (cs' := [.pointer (some ⟨rb5, 0, none⟩), .pointer (some ⟨tb2, 0, none⟩)]) sizeOf149 rfl rfl rfl (by simp only [List.mem_cons, List.not_mem_nil, or_false, forall_eq_or_imp, forall_eq]; exact ⟨rfl, rfl⟩) hb1 (by simp) rfl ?_
 intro w8 hU8 hzz8 hb1n
 replace hb1 := hb1n; clear hb1n
 have hzw8 := hU8.size
 replace HU := HU.t1 hU8 (by omega)
 replace hT2 := hT2.upd1 hU8 (by omega)
 replace hE2 := hE2.upd1 hU8 (show ¬ (((w1.heap.size ≤ B1 ∧ B1 ≠ tb2) ∧ B1 < w2.heap.size)) by omega)
 replace hB5 := hB5.upd1 hU8 (by omega)
 replace hO5 := hO5.upd1 hU8 (show ¬ (((w4.heap.size ≤ B1 ∧ B1 ≠ rb5) ∧ B1 < w5.heap.size)) by omega)
 refine Wl_nil ?_
 refine W_ret ?_
 refine ret_end (v := .agg #[.pointer (some ⟨rb5, 0, none⟩), .pointer (some ⟨tb2, 0, none⟩)]) rfl (rc1 results117 rfl (cellAgg isAgg149 sizeOf149 rfl hb1)) ?_
 have hlm : m = b.length := by omega
 subst hlm
 exact ⟨_, rfl, rb5, tb2, w8.heap.size, rfl, ⟨a5, c5, ea2, ec2, la2, n, lc2, hB5, (hO5.sl.weak (by intro g hg; have h3 : ((w4.heap.size ≤ g ∧ g ≠ rb5) ∧ g < w5.heap.size) := hg; show w.heap.size ≤ g ∧ g < w8.heap.size ∧ g ≠ rb5; omega)), hT2, (hE2.sl.weak (by intro g hg; have h3 : ((w1.heap.size ≤ g ∧ g ≠ tb2) ∧ g < w2.heap.size) := hg; show w.heap.size ≤ g ∧ g < w8.heap.size ∧ g ≠ rb5; omega)), by omega⟩, HU⟩
theorem open_bits {a a2 : Option Addr} {n c m d : Nat} {l b : List Int} {R : Nat → Prop} (w : World) (hs : Sl w R 1 (.slice a n c) n (ints .i64 l)) (hn : n ≤ 1000) (hsb : Sl w (fun g => g < w.heap.size) 1 (.slice a2 m d) m (ints .u8 b)) (hb : Byt b) (hm : m ≤ 100000) (hr : Rt l) (hc : ¬ Cl b) :
  Calls Tryz.prog 117 #[.slice a n c, .slice a2 m d] w (Pan (.iface 23 (.int .i64 14)) fun w' => Upd No w w') := by
 have HU := Upd.rno w
 have hl_hs := ilen hs
 have hc_hs := hs.cap.1
 replace hs := hs.tight
 have hl_hsb := ilen hsb
 have hc_hsb := hsb.cap.1
 refine calls_of_W func117 rfl ntmps117 (by simp) ?_
 refine W_seq (W_region ?_)
 refine Wl_alloc (cs := [.pointer none, .pointer none]) zeroValue149 rfl ?_
 intro B1 w1 hB1 hU1 hzz1 hb1
 have hzw1 := hU1.size
 replace hs := hs.upd0 hU1
 replace hsb := hsb.upd0 hU1
 replace HU := HU.trans0 hU1
 refine Wl_nil (W_seq (W_region ?_))
 refine Wmv (.slice a n c) ?_
 refine Wl_call (r_call1 rfl call127 rfl) (new_ok _ hs (by omega) hr) ?_
 rintro v w2 ⟨tb2, ea2, ec2, la2, lc2, rfl, hT2, hE2, hL2, htg_2, hU2⟩
 have hzw2 := hU2.size
 replace hsb := hsb.upd0 hU2
 replace HU := HU.trans0 hU2
 have hbl_hT2 := hT2.lt
 replace hE2 := hE2.tight
 have hl_hE2 := rlen encE_len (by decide) hE2.sl
 have hc_hE2 := hE2.sl.cap.1
 replace hL2 := hL2.tight
 have hl_hL2 := ilen hL2.sl
 have hc_hL2 := hL2.sl.cap.1
 refine Wmv (.tuple #[.pointer (some ⟨tb2, 0, none⟩), .int .i64 0]) ?_
 refine Wl_v (r_ext (v := .pointer (some ⟨tb2, 0, none⟩)) rfl rfl) ?_
 refine Wl_v (r_ext (v := .int .i64 0) rfl rfl) ?_
 refine Was (.pointer (some ⟨tb2, 0, none⟩)) ?_
 refine Was (.int .i64 0) ?_
 refine Wl_nil (W_seq (W_region ?_))
 refine Wmv (.int .i64 0) ?_
 refine Wl_lit (pv := [(0, .int .i64 0)]) (cs := [.int .i64 0]) underlying112 sizeOf23 zeroValue23 (by decide) (by decide) (by simp only [List.map_toArray, List.map_cons, List.map_nil] <;> rfl) (by kernel_rfl) rfl (by decide) ?_
 intro B3 w3 hB3 hU3 hzz3 hs3
 have hzw3 := hU3.size
 replace hsb := hsb.upd0 hU3
 replace HU := HU.trans0 hU3
 replace hs3 : Own w3 (Is B3) 23 1 (.slice (some ⟨B3, 0, none⟩) 1 1) 1 (ints .i64 [0]) := hs3
 refine Wl_call (r_call1 rfl call63 rfl) (omust_ok (er := 0) _ hs3.sl.any (by decide)) ?_
 rintro v w4 ⟨rfl, hU4⟩
 have hzw4 := hU4.size
 replace hsb := hsb.upd0 hU4
 replace HU := HU.trans0 hU4
 refine Wl_nil (W_seq (W_region ?_))
 refine Wmv (.slice a2 m d) ?_
 refine Wl_call (r_call1 rfl call128 rfl) (newb_no _ hsb.any hb (by omega) hc) ?_
 rintro v w5 ⟨rfl, hU5⟩
 have hzw5 := hU5.size
 replace HU := HU.trans0 hU5
 refine Wmv (.tuple #[.pointer none, .int .i64 14]) ?_
 refine Wl_v (r_ext (v := .pointer none) rfl rfl) ?_
 refine Wl_v (r_ext (v := .int .i64 14) rfl rfl) ?_
 refine Was (.pointer none) ?_
 refine Was (.int .i64 14) ?_
 refine Wl_nil (W_seq (W_region ?_))
 refine Wmv (.int .i64 14) ?_
 refine Wl_lit (pv := [(0, .int .i64 14)]) (cs := [.int .i64 14]) underlying112 sizeOf23 zeroValue23 (by decide) (by decide) (by simp only [List.map_toArray, List.map_cons, List.map_nil] <;> rfl) (by kernel_rfl) rfl (by decide) ?_
 intro B6 w6 hB6 hU6 hzz6 hs6
 have hzw6 := hU6.size
 replace HU := HU.trans0 hU6
 replace hs6 : Own w6 (Is B6) 23 1 (.slice (some ⟨B6, 0, none⟩) 1 1) 1 (ints .i64 [14]) := hs6
 refine Wl_callp (r_call1 rfl call63 rfl) (omust_no (er := 14) _ hs6.sl.any (by decide)) ?_
 intro w7 hU7
 have hzw7 := hU7.size
 replace HU := HU.trans0 hU7
 refine pan_ds rfl ?_
 refine lv_panic ?_
 exact ⟨rfl, HU⟩
end Go.Proofs.YtdppageondgjkaaGreat
